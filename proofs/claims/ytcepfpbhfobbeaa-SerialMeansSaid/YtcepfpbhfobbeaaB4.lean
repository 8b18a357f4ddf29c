/- One transaction after the other means the same. The walk. No condition. -/
import Derived.Test.YtcepfpbhfobbeaaA5
namespace Go.Proofs.Ytcepfpbhfobbeaa
open Go.RowKit
set_option linter.unusedVariables false
set_option linter.unusedSimpArgs false
set_option maxRecDepth 100000

theorem atU_le {l : List An} {zs : List Nat} : ∀ p, (atU l zs p).length ≤ p * l.length
  | 0 => by simp [atU]
  | p + 1 => by
    have := atU_le (l := l) (zs := zs) p
    rw [atU, List.length_append, Nat.succ_mul]
    cases zs[p]? with
    | none => simp; omega
    | some t => have := blk_le (l := l) (t := t) l.length; dsimp only; omega
theorem mL_le {l : List An} {at_ : List Nat} : (mL l at_).length ≤ at_.length := List.length_filterMap_le ..
theorem topo_six {l : List An} {zs : List Nat} (hok : OkN l) (T : Topo (Key l) (Edge l) zs) : zs.length ≤ 6 := nodup_lt 6 zs T.nd fun t ht => by
  obtain ⟨i, x, hx, e⟩ := (T.key t).2 ht
  have := hok.all i x hx; omega
def oA (at_ : List Nat) : Option Nat → Int
  | some k => ((at_.getD k 0 : Nat) : Int)
  | none => -1
theorem oA_some {at_ : List Nat} {k i : Nat} (h : at_[k]? = some i) : oA at_ (some k) = (i : Int) := by show ((at_.getD k 0 : Nat) : Int) = _; rw [List.getD_eq_getElem?_getD, h]; rfl
theorem lw_yes {l : List An} {it i : Nat} {a : An} (h : l[i]? = some a) (h1 : a.kind = 2) (h2 : a.item = it) : lw l it (i + 1) = some i := by rw [lw, if_pos ((isW_of h).2 ⟨h1, h2⟩)]
theorem lw_no {l : List An} {it i : Nat} {a : An} (h : l[i]? = some a) (h1 : ¬ (a.kind = 2 ∧ a.item = it)) : lw l it (i + 1) = lw l it i := by rw [lw, if_neg fun h9 => h1 ((isW_of h).1 h9)]
theorem means_no {W : World} {hv : Value} {l : List Act} (hok : ¬ OkA l) (hs : SlS FR 3 W hv l) : Calls Try.prog 7 #[hv] W fun e w' => e = .returned (.bool true) ∧ Below W.heap.size W w' := by
  refine calls_pure (Gx.enter (l := []) Try.func7 rfl Try.ntmps7 rfl (Sat.start W) ?_)
  refine Gx.know (m' := [(0, hv)]) (.cons rfl .nil) ?_
  refine Gx.seq ?_
  refine Gx.region ?_
  refine Gx.val rfl rfl rfl (val_assign rfl rfl) ?_
  refine Gx.done ?_
  refine Gx.thenN ?_
  refine Gx.seq ?_
  refine Gx.region ?_
  refine Gx.val rfl rfl rfl (val_move rfl rfl) ?_
  refine Gx.eff rfl rfl rfl (eff_callE (vs := [hv]) rfl Try.fn8 rfl (R := fun v => ∃ (c : Int), v = .tuple #[.slice none 0 0, .bool false, .int .i64 c] ∧ c ≠ 0) (fun w H => serial_no hok (hs.below H.below))) ?_
  rintro _ _ ⟨⟨c1, rfl, hc1⟩, rfl⟩
  refine Gx.val rfl rfl rfl (val_move rfl rfl) ?_
  refine Gx.val rfl rfl rfl (val_extract rfl rfl rfl) ?_
  refine Gx.val rfl rfl rfl (val_extract rfl rfl rfl) ?_
  refine Gx.val rfl rfl rfl (val_extract rfl rfl rfl) ?_
  refine Gx.val rfl rfl rfl (val_assign rfl rfl) ?_
  refine Gx.val rfl rfl rfl (val_assign rfl rfl) ?_
  refine Gx.val rfl rfl rfl (val_assign rfl rfl) ?_
  refine Gx.done ?_
  refine Gx.thenN ?_
  refine Gx.seq ?_
  refine Gx.region ?_
  refine Gx.val rfl rfl rfl (val_move rfl rfl) ?_
  refine Gx.eff rfl rfl rfl (eff_callE (vs := [hv]) rfl Try.fn15 rfl (R := fun v => ∃ (c : Int), v = .tuple #[.slice none 0 0, .int .i64 c] ∧ c ≠ 0) (fun w H => reads_no hok (hs.below H.below))) ?_
  rintro _ _ ⟨⟨c2, rfl, hc2⟩, rfl⟩
  refine Gx.val rfl rfl rfl (val_move rfl rfl) ?_
  refine Gx.val rfl rfl rfl (val_extract rfl rfl rfl) ?_
  refine Gx.val rfl rfl rfl (val_extract rfl rfl rfl) ?_
  refine Gx.val rfl rfl rfl (val_assign rfl rfl) ?_
  refine Gx.val rfl rfl rfl (val_assign rfl rfl) ?_
  refine Gx.done ?_
  refine Gx.thenN ?_
  refine Gx.seq ?_
  refine Gx.seq ?_
  refine Gx.region ?_
  refine Gx.val rfl rfl rfl (val_move rfl rfl) ?_
  refine Gx.val rfl rfl rfl (val_call (vs := [hv]) rfl Try.fn9 rfl (fun w H => acts_no (hs.below H.below) hok)) ?_
  refine Gx.val rfl rfl rfl (Val.cast (val_not rfl rfl) (v' := .bool true) rfl) ?_
  refine Gx.done ?_
  refine Gx.thenN ?_
  refine Gx.t rfl ?_
  refine Gx.seq ?_
  refine Gx.region ?_
  refine Gx.val rfl rfl rfl (val_move rfl rfl) ?_
  refine Gx.val rfl rfl rfl (val_neq rfl rfl rfl) ?_
  refine Gx.val rfl rfl rfl (val_assign rfl rfl) ?_
  refine Gx.done ?_
  refine Gx.thenN ?_
  refine Gx.ret ?_
  refine Gx.thenR ?_
  refine Gx.ret1 Try.results7 rfl ?_
  exact congrArg Value.bool (decide_eq_true (by assumption))

theorem means_ok {W : World} {hv : Value} {l : List An} (hok : OkN l) (hs : SlS FA 3 W hv l) : Calls Try.prog 7 #[hv] W fun e w' => e = .returned (.bool true) ∧ Below W.heap.size W w' := by
  refine calls_pure (Gx.enter (l := []) Try.func7 rfl Try.ntmps7 rfl (Sat.start W) ?_)
  refine Gx.know (m' := [(0, hv)]) (.cons rfl .nil) ?_
  refine Gx.seq ?_
  refine Gx.region ?_
  refine Gx.val rfl rfl rfl (val_assign rfl rfl) ?_
  refine Gx.done ?_
  refine Gx.thenN ?_
  refine Gx.seq ?_
  refine Gx.region ?_
  refine Gx.val rfl rfl rfl (val_move rfl rfl) ?_
  refine Gx.callB rfl rfl rfl (vs := [hv]) rfl Try.fn8 rfl (R := SerV l) (fun w H => serial_ok hok (hs.below H.below)) ?_
  rintro _ W1 ⟨a9, n9, c9, b9, zs, rfl, hz, hr⟩ H2
  have hW3 := H2.below
  have hs4 := hs.below H2.below
  refine Gx.val rfl rfl rfl (val_move rfl rfl) ?_
  refine Gx.val rfl rfl rfl (val_extract rfl rfl rfl) ?_
  refine Gx.val rfl rfl rfl (val_extract rfl rfl rfl) ?_
  refine Gx.val rfl rfl rfl (val_extract rfl rfl rfl) ?_
  refine Gx.val rfl rfl rfl (val_assign rfl rfl) ?_
  refine Gx.val rfl rfl rfl (val_assign rfl rfl) ?_
  refine Gx.val rfl rfl rfl (val_assign rfl rfl) ?_
  refine Gx.done ?_
  refine Gx.thenN ?_
  refine Gx.seq ?_
  refine Gx.region ?_
  refine Gx.val rfl rfl rfl (val_move rfl rfl) ?_
  refine Gx.callB rfl rfl rfl (vs := [hv]) rfl Try.fn15 rfl (R := fun v w' => ∃ rv : Value, v = .tuple #[rv, .int .i64 0] ∧ SlS FZ 1 w' rv (rdL l l.length)) (fun w H => reads_ok hok (hs4.below H.below)) ?_
  rintro _ W5 ⟨rv, rfl, hrv⟩ H6
  have hW7 := hW3.trans (H6.below.mono hW3.size)
  have hs8 := hs4.below H6.below
  have hs9 := hz.below H6.below
  refine Gx.val rfl rfl rfl (val_move rfl rfl) ?_
  refine Gx.val rfl rfl rfl (val_extract rfl rfl rfl) ?_
  refine Gx.val rfl rfl rfl (val_extract rfl rfl rfl) ?_
  refine Gx.val rfl rfl rfl (val_assign rfl rfl) ?_
  refine Gx.val rfl rfl rfl (val_assign rfl rfl) ?_
  refine Gx.done ?_
  refine Gx.thenN ?_
  refine Gx.seq ?_
  refine Gx.seq ?_
  refine Gx.region ?_
  refine Gx.val rfl rfl rfl (val_move rfl rfl) ?_
  refine Gx.val rfl rfl rfl (val_call (vs := [hv]) rfl Try.fn9 rfl (fun w H => acts_ok (hs8.below H.below) hok)) ?_
  refine Gx.val rfl rfl rfl (Val.cast (val_not rfl rfl) (v' := .bool false) rfl) ?_
  refine Gx.done ?_
  refine Gx.thenN ?_
  refine Gx.f rfl ?_
  refine Gx.skip ?_
  refine Gx.thenN ?_
  refine Gx.seq ?_
  refine Gx.seq ?_
  have hrl := rdL_len l l.length
  have h60 := hok.len
  have hnd : (zs.map (Nat.cast : Nat → Int)).Nodup := by
    have h8 : zs.Nodup := by
      cases b9 with
      | true => exact (hr.1 rfl).nd
      | false => rw [(hr.2 rfl).1]; exact List.nodup_nil
    exact List.pairwise_map.2 (h8.imp fun hne e => hne (by omega))
  refine Gx.region ?_
  refine Gx.val rfl rfl rfl (val_move rfl rfl) ?_
  refine Gx.val rfl rfl rfl (Val.cast (val_neq rfl rfl rfl) (v' := .bool false) rfl) ?_
  refine Gx.val rfl rfl rfl (val_move rfl rfl) ?_
  refine Gx.valg rfl rfl rfl rfl rfl (val_move rfl rfl) ?_
  refine Gx.valg rfl rfl rfl rfl rfl (Val.cast (val_neq rfl rfl rfl) (v' := .bool false) rfl) ?_
  refine Gx.val rfl rfl rfl (val_pickF rfl rfl rfl) ?_
  refine Gx.val rfl rfl rfl (val_move rfl rfl) ?_
  refine Gx.valg rfl rfl rfl rfl rfl (val_move rfl rfl) ?_
  refine Gx.valg rfl rfl rfl rfl rfl (val_len rfl Try.underlying23 rfl (len_base hrv)) ?_
  refine Gx.valg rfl rfl rfl rfl rfl (val_move rfl rfl) ?_
  refine Gx.valg rfl rfl rfl rfl rfl (val_len rfl Try.underlying22 rfl (len_base hs8)) ?_
  refine Gx.valg rfl rfl rfl rfl rfl (val_neq rfl rfl rfl) ?_
  refine Gx.val rfl rfl rfl (val_pickF rfl rfl rfl) ?_
  refine Gx.val rfl rfl rfl (val_move rfl rfl) ?_
  refine Gx.slot (t := 50) (v := .bool false) (look_decF rfl (by first | decide | omega)) ?_
  refine Gx.valg rfl rfl rfl rfl rfl (val_move rfl rfl) ?_
  refine Gx.valg rfl rfl rfl rfl rfl (val_call (vs := [.slice a9 n9 c9]) rfl Try.fn13 rfl (fun w H => once_any (sls_cast (hs9.below H.below)))) ?_
  refine Gx.valg rfl rfl rfl rfl rfl (val_notD rfl rfl) ?_
  refine Gx.val rfl rfl rfl (val_pickF rfl rfl rfl) ?_
  refine Gx.done ?_
  refine Gx.thenN ?_
  refine Gx.decF rfl (fun q => q hnd) ?_
  refine Gx.skip ?_
  refine Gx.thenN ?_
  refine Gx.seq ?_
  refine Gx.seq ?_
  refine Gx.region ?_
  refine Gx.val rfl rfl rfl (val_move rfl rfl) ?_
  refine Gx.val rfl rfl rfl (val_not rfl rfl) ?_
  refine Gx.done ?_
  refine Gx.thenN ?_
  refine Gx.bool rfl (fun h10 => ?_) (fun h10 => ?_)
  · refine Gx.seq ?_
    have hz0 : zs = [] := (hr.2 (by simpa using h10)).1
    refine Gx.region ?_
    refine Gx.val rfl rfl rfl (val_move rfl rfl) ?_
    refine Gx.val rfl rfl rfl (val_len rfl Try.underlying23 rfl (len_base hs9)) ?_
    refine Gx.val rfl rfl rfl (val_eql rfl rfl rfl) ?_
    refine Gx.val rfl rfl rfl (val_assign rfl rfl) ?_
    refine Gx.done ?_
    refine Gx.thenN ?_
    refine Gx.ret ?_
    refine Gx.thenR ?_
    refine Gx.ret1B hW7 Try.results7 rfl ?_
    first | rfl | exact congrArg Value.bool (decide_eq_true (by rw [hz0]; rfl))
  · refine Gx.skip ?_
    refine Gx.thenN ?_
    refine Gx.seq ?_
    have hT := hr.1 (by simpa using h10)
    have hz6 := topo_six hok hT
    refine Gx.region ?_
    refine Gx.val rfl rfl rfl (val_assign rfl rfl) ?_
    refine Gx.done ?_
    refine Gx.thenN ?_
    refine Gx.seq ?_
    refine Gx.region ?_
    refine Gx.val rfl rfl rfl (val_assign rfl rfl) ?_
    refine Gx.done ?_
    refine Gx.thenN ?_
    refine Gx.seq ?_
    refine Gx.seq ?_
    refine Gx.ownNil FN 1 ?_
    refine Gx.ownNil FA 3 ?_
    refine Gx.region ?_
    refine Gx.val rfl rfl rfl (val_move rfl rfl) ?_
    refine Gx.val rfl rfl rfl (val_len rfl Try.underlying23 rfl (len_base hs9)) ?_
    refine Gx.val rfl rfl rfl (val_move rfl rfl) ?_
    refine Gx.done ?_
    refine Gx.thenN ?_
    refine Gx.block ?_
    refine Gx.norm (l' := [Hp.own FA 3 (.slice none 0 0) (mL l (atU l zs 0)), Hp.own FN 1 (.slice none 0 0) (atU l zs 0)]) (rfl) ?_
    refine Gx.loop (ι := Nat × Value × Value) (fun ξ => (ξ.1 ≤ zs.length) ∧ (IsS ξ.2.1) ∧ (IsS ξ.2.2)) (fun ξ => [(0, hv), (3, .slice a9 n9 c9), (5, .int .i64 0), (6, rv), (60, .slice a9 n9 c9), (61, .int .i64 ((zs.length : Nat) : Int)), (62, .int .i64 ((ξ.1 : Nat) : Int)), (8, ξ.2.1), (9, ξ.2.2)]) (fun ξ => [Hp.own FA 3 ξ.2.2 (mL l (atU l zs ξ.1)), Hp.own FN 1 ξ.2.1 (atU l zs ξ.1)]) (fun ξ => zs.length - ξ.1) (0, (.slice none 0 0), (.slice none 0 0)) ⟨by first | omega | (dsimp only; omega), ⟨none, 0, 0, rfl⟩, ⟨none, 0, 0, rfl⟩⟩ ((.cons rfl (.cons rfl (.cons rfl (.cons rfl (.cons rfl (.cons rfl (.cons rfl (.cons rfl (.cons rfl .nil)))))))))) rfl ?_
    rintro ⟨p, aw, mw⟩ ⟨hp, hia, him⟩
    dsimp only at hp hia him
    refine Gx.know (m' := [(0, hv), (3, .slice a9 n9 c9), (5, .int .i64 0), (6, rv), (60, .slice a9 n9 c9), (61, .int .i64 ((zs.length : Nat) : Int)), (62, .int .i64 ((p : Nat) : Int)), (8, aw), (9, mw)]) (.cons rfl (.cons rfl (.cons rfl (.cons rfl (.cons rfl (.cons rfl (.cons rfl (.cons rfl (.cons rfl .nil))))))))) (Gx.norm (l' := [Hp.own FA 3 mw (mL l (atU l zs p)), Hp.own FN 1 aw (atU l zs p)]) rfl ?_)
    refine Gx.seq ?_
    refine Gx.region ?_
    refine Gx.val rfl rfl rfl (val_lss rfl rfl rfl) ?_
    refine Gx.done ?_
    refine Gx.thenN ?_
    refine Gx.seq ?_
    refine Gx.dec rfl (fun h11 => ?_) (fun h11 => ?_)
    · refine Gx.skip ?_
      refine Gx.thenN ?_
      refine Gx.seq ?_
      refine Gx.block ?_
      refine Gx.seq ?_
      refine Gx.region ?_
      obtain ⟨x12, hx12⟩ := get_of_lt (xs := zs) (k := p) (by first | omega | (simp; omega))
      refine Gx.val rfl rfl rfl (val_ixa rfl Try.underlying23 Try.ty3 rfl rfl (j := p) (rfl) (reach_base hs9 hx12)) ?_
      refine Gx.val rfl rfl rfl (val_load rfl Try.ty3 rfl rfl (cell_base (i := 0) hs9 hx12 rfl)) ?_
      refine Gx.val rfl rfl rfl (val_assign rfl rfl) ?_
      refine Gx.done ?_
      refine Gx.thenN ?_
      refine Gx.seq ?_
      refine Gx.region ?_
      refine Gx.val rfl rfl rfl (val_move rfl rfl) ?_
      refine Gx.val rfl rfl rfl (val_len rfl Try.underlying22 rfl (len_base hs8)) ?_
      refine Gx.val rfl rfl rfl (val_move rfl rfl) ?_
      refine Gx.done ?_
      refine Gx.thenN ?_
      refine Gx.block ?_
      refine Gx.norm (l' := [Hp.own FA 3 mw (mL l ((atU l zs p) ++ blk l x12 0)), Hp.own FN 1 aw ((atU l zs p) ++ blk l x12 0)]) (by rw [show blk l x12 0 = [] from rfl, List.append_nil] <;> rfl) ?_
      refine Gx.loop (ι := Nat × Value × Value) (fun ξ => (ξ.1 ≤ l.length) ∧ (IsS ξ.2.1) ∧ (IsS ξ.2.2)) (fun ξ => [(0, hv), (3, .slice a9 n9 c9), (5, .int .i64 0), (6, rv), (60, .slice a9 n9 c9), (61, .int .i64 ((zs.length : Nat) : Int)), (62, .int .i64 ((p : Nat) : Int)), (11, .int .i64 ((x12 : Nat) : Int)), (66, hv), (67, .int .i64 ((l.length : Nat) : Int)), (68, .int .i64 ((ξ.1 : Nat) : Int)), (8, ξ.2.1), (9, ξ.2.2)]) (fun ξ => [Hp.own FA 3 ξ.2.2 (mL l ((atU l zs p) ++ blk l x12 ξ.1)), Hp.own FN 1 ξ.2.1 ((atU l zs p) ++ blk l x12 ξ.1)]) (fun ξ => l.length - ξ.1) (0, aw, mw) ⟨by first | omega | (dsimp only; omega), hia, him⟩ ((.cons rfl (.cons rfl (.cons rfl (.cons rfl (.cons rfl (.cons rfl (.cons rfl (.cons rfl (.cons rfl (.cons rfl (.cons rfl (.cons rfl (.cons rfl .nil)))))))))))))) rfl ?_
      rintro ⟨i, aw, mw⟩ ⟨hi, hia2, him2⟩
      dsimp only at hi hia2 him2
      refine Gx.know (m' := [(0, hv), (3, .slice a9 n9 c9), (5, .int .i64 0), (6, rv), (60, .slice a9 n9 c9), (61, .int .i64 ((zs.length : Nat) : Int)), (62, .int .i64 ((p : Nat) : Int)), (11, .int .i64 ((x12 : Nat) : Int)), (66, hv), (67, .int .i64 ((l.length : Nat) : Int)), (68, .int .i64 ((i : Nat) : Int)), (8, aw), (9, mw)]) (.cons rfl (.cons rfl (.cons rfl (.cons rfl (.cons rfl (.cons rfl (.cons rfl (.cons rfl (.cons rfl (.cons rfl (.cons rfl (.cons rfl (.cons rfl .nil))))))))))))) (Gx.norm (l' := [Hp.own FA 3 mw (mL l ((atU l zs p) ++ blk l x12 i)), Hp.own FN 1 aw ((atU l zs p) ++ blk l x12 i)]) rfl ?_)
      have hbl := blk_le (l := l) (t := x12) i
      have hal := atU_le (l := l) (zs := zs) p
      have hpm : p * l.length ≤ 6 * 60 := Nat.mul_le_mul (by omega) h60
      have hBl : ((atU l zs p) ++ blk l x12 i).length ≤ 500 := by rw [List.length_append]; omega
      have hMl : (mL l ((atU l zs p) ++ blk l x12 i)).length ≤ 500 := Nat.le_trans mL_le hBl
      refine Gx.seq ?_
      refine Gx.region ?_
      refine Gx.val rfl rfl rfl (val_lss rfl rfl rfl) ?_
      refine Gx.done ?_
      refine Gx.thenN ?_
      refine Gx.seq ?_
      refine Gx.dec rfl (fun h13 => ?_) (fun h13 => ?_)
      · refine Gx.skip ?_
        refine Gx.thenN ?_
        refine Gx.seq ?_
        refine Gx.block ?_
        refine Gx.seq ?_
        refine Gx.region ?_
        refine Gx.val rfl rfl rfl (val_move rfl rfl) ?_
        obtain ⟨x14, hx14⟩ := get_of_lt (xs := l) (k := i) (by first | omega | (simp; omega))
        refine Gx.val rfl rfl rfl (val_ixa rfl Try.underlying22 Try.ty30 rfl rfl (j := i) (rfl) (reach_base hs8 hx14)) ?_
        refine Gx.val rfl rfl rfl (Val.cast (val_loadA rfl Try.ty30 rfl rfl rfl (cells_base hs8 hx14)) (v' := .agg #[.int .i64 x14.kind, .int .i64 ((x14.txn : Nat) : Int), .int .i64 ((x14.item : Nat) : Int)]) rfl) ?_
        refine Gx.eff rfl rfl rfl (eff_alloc rfl Try.ty30 (vs := [.int .i64 0, .int .i64 0, .int .i64 0]) rfl) ?_
        rintro _ _ ⟨b15, rfl, rfl⟩
        refine Gx.val rfl rfl rfl (val_assign rfl rfl) ?_
        refine Gx.eff0 rfl rfl (eff_store rfl Try.ty30 rfl rfl (us := [.int .i64 x14.kind, .int .i64 ((x14.txn : Nat) : Int), .int .i64 ((x14.item : Nat) : Int)]) rfl rfl rfl (k := 0) rfl (rfl) (vs' := [.int .i64 x14.kind, .int .i64 ((x14.txn : Nat) : Int), .int .i64 ((x14.item : Nat) : Int)]) (rfl) (l' := [Hp.rec_ b15 [.int .i64 x14.kind, .int .i64 ((x14.txn : Nat) : Int), .int .i64 ((x14.item : Nat) : Int)], Hp.own FA 3 mw (mL l ((atU l zs p) ++ blk l x12 i)), Hp.own FN 1 aw ((atU l zs p) ++ blk l x12 i)]) rfl) ?_
        rintro _ _ rfl
        refine Gx.done ?_
        refine Gx.thenN ?_
        refine Gx.seq ?_
        refine Gx.region ?_
        refine Gx.val rfl rfl rfl (Val.cast (val_fieldAddr rfl Try.underlying30 rfl Try.ty3 rfl rfl) (v' := ptr b15 1) rfl) ?_
        refine Gx.val rfl rfl rfl (val_load rfl Try.ty3 rfl rfl (cell_rec (k := 0) rfl rfl)) ?_
        refine Gx.val rfl rfl rfl (val_move rfl rfl) ?_
        refine Gx.val rfl rfl rfl (val_eql rfl rfl rfl) ?_
        refine Gx.done ?_
        refine Gx.thenN ?_
        refine Gx.dec rfl (fun h16 => ?_) (fun h16 => ?_)
        · refine Gx.seq ?_
          refine Gx.region ?_
          refine Gx.val rfl rfl rfl (val_move rfl rfl) ?_
          refine Gx.val rfl rfl rfl (val_move rfl rfl) ?_
          refine Gx.eff rfl rfl rfl (eff_buildSlice rfl (qs := [(0, .int .i64 ((i : Nat) : Int))]) rfl rfl (cs := #[.int .i64 ((i : Nat) : Int)]) (vs := [.int .i64 ((i : Nat) : Int)]) (E := 3) rfl (fun w => by first | (go_simp; done) | (go_simp; rfl))) ?_
          rintro _ _ ⟨b17, rfl, rfl⟩
          refine Gx.eff rfl rfl rfl (eff_push (r := i) rfl Try.eN FN_len FN_one rfl rfl (k := 0) rfl rfl (k' := 2) rfl (by omega) (by omega)) ?_
          rintro v18 _ ⟨hiv18, rfl⟩
          refine Gx.norm (l' := [Hp.rec_ b15 [.int .i64 x14.kind, .int .i64 ((x14.txn : Nat) : Int), .int .i64 ((x14.item : Nat) : Int)], Hp.own FA 3 mw (mL l ((atU l zs p) ++ blk l x12 i)), Hp.own FN 1 v18 (((atU l zs p) ++ blk l x12 i) ++ [i])]) rfl ?_
          refine Gx.val rfl rfl rfl (val_assign rfl rfl) ?_
          refine Gx.done ?_
          refine Gx.thenN ?_
          refine Gx.region ?_
          refine Gx.val rfl rfl rfl (val_move rfl rfl) ?_
          refine Gx.val rfl rfl rfl (Val.cast (val_loadA rfl Try.ty30 rfl rfl rfl (cells_rec (k := 0) rfl)) (v' := .agg #[.int .i64 x14.kind, .int .i64 ((x14.txn : Nat) : Int), .int .i64 ((x14.item : Nat) : Int)]) rfl) ?_
          refine Gx.eff rfl rfl rfl (eff_buildSlice rfl (qs := [(0, .agg #[.int .i64 x14.kind, .int .i64 ((x14.txn : Nat) : Int), .int .i64 ((x14.item : Nat) : Int)])]) rfl rfl (cs := #[.int .i64 x14.kind, .int .i64 ((x14.txn : Nat) : Int), .int .i64 ((x14.item : Nat) : Int)]) (vs := [.int .i64 x14.kind, .int .i64 ((x14.txn : Nat) : Int), .int .i64 ((x14.item : Nat) : Int)]) (E := 30) rfl (fun w => by first | (go_simp; done) | (go_simp; rfl))) ?_
          rintro _ _ ⟨b19, rfl, rfl⟩
          refine Gx.eff rfl rfl rfl (eff_push (r := x14) rfl Try.eA FA_len FA_one rfl rfl (k := 0) rfl rfl (k' := 1) rfl (by omega) (by omega)) ?_
          rintro v20 _ ⟨hiv20, rfl⟩
          refine Gx.norm (l' := [Hp.rec_ b15 [.int .i64 x14.kind, .int .i64 ((x14.txn : Nat) : Int), .int .i64 ((x14.item : Nat) : Int)], Hp.own FA 3 v20 ((mL l ((atU l zs p) ++ blk l x12 i)) ++ [x14]), Hp.own FN 1 v18 (((atU l zs p) ++ blk l x12 i) ++ [i])]) rfl ?_
          refine Gx.val rfl rfl rfl (val_assign rfl rfl) ?_
          refine Gx.done ?_
          refine Gx.blkN ?_
          refine Gx.thenN ?_
          refine Gx.region ?_
          refine Gx.val rfl rfl rfl (val_add rfl rfl rfl (r := ((i + 1 : Nat) : Int)) (w64 (by omega) (by omega))) ?_
          refine Gx.val rfl rfl rfl (val_move rfl rfl) ?_
          refine Gx.done ?_
          refine Gx.thenN ?_
          refine Gx.drop 0 rfl ?_
          refine Gx.norm (l' := [Hp.own FA 3 v20 (mL l ((atU l zs p) ++ blk l x12 (i + 1))), Hp.own FN 1 v18 ((atU l zs p) ++ blk l x12 (i + 1))]) (by rw [blk_yes hx14 (show x14.txn = x12 by omega), ← List.append_assoc, mL_snoc hx14] <;> rfl) ?_
          exact Gx.round (i + 1, v18, v20) ⟨by first | omega | (dsimp only; omega), hiv18, hiv20⟩ (by first | omega | (dsimp only; omega)) ((.cons rfl (.cons rfl (.cons rfl (.cons rfl (.cons rfl (.cons rfl (.cons rfl (.cons rfl (.cons rfl (.cons rfl (.cons rfl (.cons rfl (.cons rfl .nil)))))))))))))) rfl
        · refine Gx.skip ?_
          refine Gx.blkN ?_
          refine Gx.thenN ?_
          refine Gx.region ?_
          refine Gx.val rfl rfl rfl (val_add rfl rfl rfl (r := ((i + 1 : Nat) : Int)) (w64 (by omega) (by omega))) ?_
          refine Gx.val rfl rfl rfl (val_move rfl rfl) ?_
          refine Gx.done ?_
          refine Gx.thenN ?_
          refine Gx.drop 0 rfl ?_
          refine Gx.norm (l' := [Hp.own FA 3 mw (mL l ((atU l zs p) ++ blk l x12 (i + 1))), Hp.own FN 1 aw ((atU l zs p) ++ blk l x12 (i + 1))]) (by rw [blk_no hx14 (show x14.txn ≠ x12 by omega)] <;> rfl) ?_
          exact Gx.round (i + 1, aw, mw) ⟨by first | omega | (dsimp only; omega), hia2, him2⟩ (by first | omega | (dsimp only; omega)) ((.cons rfl (.cons rfl (.cons rfl (.cons rfl (.cons rfl (.cons rfl (.cons rfl (.cons rfl (.cons rfl (.cons rfl (.cons rfl (.cons rfl (.cons rfl .nil)))))))))))))) rfl
      · refine Gx.exit ?_
        refine Gx.thenE ?_
        refine Gx.thenE ?_
        refine Gx.blkE ?_
        refine Gx.blkN ?_
        refine Gx.thenN ?_
        refine Gx.region ?_
        refine Gx.val rfl rfl rfl (val_add rfl rfl rfl (r := ((p + 1 : Nat) : Int)) (w64 (by omega) (by omega))) ?_
        refine Gx.val rfl rfl rfl (val_move rfl rfl) ?_
        refine Gx.done ?_
        refine Gx.thenN ?_
        obtain rfl : i = l.length := by omega
        refine Gx.norm (l' := [Hp.own FA 3 mw (mL l (atU l zs (p + 1))), Hp.own FN 1 aw (atU l zs (p + 1))]) (by rw [show atU l zs (p + 1) = atU l zs p ++ blk l x12 l.length from by rw [atU, hx12]] <;> rfl) ?_
        exact Gx.round (p + 1, aw, mw) ⟨by first | omega | (dsimp only; omega), hia2, him2⟩ (by first | omega | (dsimp only; omega)) ((.cons rfl (.cons rfl (.cons rfl (.cons rfl (.cons rfl (.cons rfl (.cons rfl (.cons rfl (.cons rfl .nil)))))))))) rfl
    · refine Gx.exit ?_
      refine Gx.thenE ?_
      refine Gx.thenE ?_
      refine Gx.blkE ?_
      refine Gx.thenN ?_
      refine Gx.seq ?_
      obtain rfl : p = zs.length := by omega
      have hfull := at_full hT
      have hal := at_len hT
      have hml := m_len hT
      have hmo := m_ok hT hok
      have hrs := fun k i => reads_same hT (k := k) (i := i)
      have hls := last_same hT
      obtain ⟨at9, hat⟩ : ∃ q, q = atU l zs zs.length := ⟨_, rfl⟩
      rw [← hat] at hfull hal hml hmo hrs hls
      obtain ⟨m9, hm9⟩ : ∃ q, q = mL l at9 := ⟨_, rfl⟩
      rw [← hm9] at hml hmo hrs hls
      refine Gx.norm (l' := [Hp.own FA 3 mw m9, Hp.own FN 1 aw at9]) (by rw [hm9, hat] <;> rfl) ?_
      refine Gx.region ?_
      refine Gx.val rfl rfl rfl (val_move rfl rfl) ?_
      refine Gx.callB rfl rfl rfl (vs := [mw]) rfl Try.fn15 rfl (R := fun v w' => ∃ rv : Value, v = .tuple #[rv, .int .i64 0] ∧ SlS FZ 1 w' rv (rdL m9 m9.length)) (fun w H => reads_ok hmo ((H.at_ (k := 0) rfl).sls (by omega))) ?_
      rintro _ W21 ⟨qv, rfl, hqv⟩ H22
      have hW23 := hW7.trans (H22.below.mono hW7.size)
      have hs24 := hs8.below H22.below
      have hs25 := hs9.below H22.below
      have hs26 := hrv.below H22.below
      have hs27 := (H22.at_ (k := 0) rfl).sls (by first | omega | (simp; done) | (simp; omega))
      have hs28 := (H22.at_ (k := 1) rfl).sls (by first | omega | (simp; done) | (simp; omega))
      refine Gx.val rfl rfl rfl (val_move rfl rfl) ?_
      refine Gx.val rfl rfl rfl (val_extract rfl rfl rfl) ?_
      refine Gx.val rfl rfl rfl (val_extract rfl rfl rfl) ?_
      refine Gx.val rfl rfl rfl (val_assign rfl rfl) ?_
      refine Gx.val rfl rfl rfl (val_assign rfl rfl) ?_
      refine Gx.done ?_
      refine Gx.thenN ?_
      refine Gx.seq ?_
      refine Gx.seq ?_
      have hql := rdL_len m9 m9.length
      refine Gx.region ?_
      refine Gx.val rfl rfl rfl (val_move rfl rfl) ?_
      refine Gx.val rfl rfl rfl (Val.cast (val_neq rfl rfl rfl) (v' := .bool false) rfl) ?_
      refine Gx.val rfl rfl rfl (val_move rfl rfl) ?_
      refine Gx.valg rfl rfl rfl rfl rfl (val_move rfl rfl) ?_
      refine Gx.valg rfl rfl rfl rfl rfl (val_len rfl Try.underlying22 rfl (len_base hs27)) ?_
      refine Gx.valg rfl rfl rfl rfl rfl (val_move rfl rfl) ?_
      refine Gx.valg rfl rfl rfl rfl rfl (val_len rfl Try.underlying22 rfl (len_base hs24)) ?_
      refine Gx.valg rfl rfl rfl rfl rfl (val_neq rfl rfl rfl) ?_
      refine Gx.val rfl rfl rfl (val_pickF rfl rfl rfl) ?_
      refine Gx.val rfl rfl rfl (val_move rfl rfl) ?_
      refine Gx.slot (t := 101) (v := .bool false) (look_decF rfl (by first | decide | omega)) ?_
      refine Gx.valg rfl rfl rfl rfl rfl (val_move rfl rfl) ?_
      refine Gx.valg rfl rfl rfl rfl rfl (val_len rfl Try.underlying23 rfl (len_base hqv)) ?_
      refine Gx.valg rfl rfl rfl rfl rfl (val_move rfl rfl) ?_
      refine Gx.valg rfl rfl rfl rfl rfl (val_len rfl Try.underlying22 rfl (len_base hs27)) ?_
      refine Gx.valg rfl rfl rfl rfl rfl (val_neq rfl rfl rfl) ?_
      refine Gx.val rfl rfl rfl (val_pickF rfl rfl rfl) ?_
      refine Gx.done ?_
      refine Gx.thenN ?_
      refine Gx.decF rfl (by omega) ?_
      refine Gx.skip ?_
      refine Gx.thenN ?_
      refine Gx.seq ?_
      refine Gx.seq ?_
      refine Gx.region ?_
      refine Gx.val rfl rfl rfl (val_assign rfl rfl) ?_
      refine Gx.done ?_
      refine Gx.thenN ?_
      refine Gx.block ?_
      refine Gx.loop (ι := Nat) (fun ξ => (ξ ≤ m9.length)) (fun ξ => [(0, hv), (6, rv), (8, aw), (9, mw), (14, qv), (15, .int .i64 ((ξ : Nat) : Int))]) (fun ξ => []) (fun ξ => m9.length - ξ) 0 (by first | omega | (dsimp only; omega)) ((.cons rfl (.cons rfl (.cons rfl (.cons rfl (.cons rfl (.cons rfl .nil))))))) rfl ?_
      rintro k hk
      refine Gx.know (m' := [(0, hv), (6, rv), (8, aw), (9, mw), (14, qv), (15, .int .i64 ((k : Nat) : Int))]) (.cons rfl (.cons rfl (.cons rfl (.cons rfl (.cons rfl (.cons rfl .nil)))))) (Gx.norm (l' := []) rfl ?_)
      refine Gx.seq ?_
      refine Gx.seq ?_
      refine Gx.region ?_
      refine Gx.val rfl rfl rfl (val_move rfl rfl) ?_
      refine Gx.val rfl rfl rfl (val_move rfl rfl) ?_
      refine Gx.val rfl rfl rfl (val_len rfl Try.underlying22 rfl (len_base hs27)) ?_
      refine Gx.val rfl rfl rfl (val_lss rfl rfl rfl) ?_
      refine Gx.done ?_
      refine Gx.thenN ?_
      refine Gx.dec rfl (fun h29 => ?_) (fun h29 => ?_)
      · refine Gx.skip ?_
        refine Gx.thenN ?_
        refine Gx.seq ?_
        refine Gx.block ?_
        refine Gx.seq ?_
        obtain ⟨i9, hi9⟩ := get_of_lt (xs := at9) (k := k) (by omega)
        have hil := (hfull i9).1 (List.mem_of_getElem? hi9)
        have hcs := hrs k i9 hi9
        refine Gx.region ?_
        refine Gx.val rfl rfl rfl (val_move rfl rfl) ?_
        refine Gx.val rfl rfl rfl (val_move rfl rfl) ?_
        refine Gx.val rfl rfl rfl (val_move rfl rfl) ?_
        refine Gx.val rfl rfl rfl (val_ixa rfl Try.underlying23 Try.ty3 rfl rfl (j := k) (rfl) (reach_base hs28 hi9)) ?_
        refine Gx.val rfl rfl rfl (val_load rfl Try.ty3 rfl rfl (cell_base (i := 0) hs28 hi9 rfl)) ?_
        refine Gx.val rfl rfl rfl (val_ixa rfl Try.underlying23 Try.ty3 rfl rfl (j := i9) (rfl) (reach_base hs26 (rdL_at (l := l) hil))) ?_
        refine Gx.val rfl rfl rfl (val_load rfl Try.ty3 rfl rfl (cell_base (i := 0) hs26 (rdL_at (l := l) hil) rfl)) ?_
        refine Gx.val rfl rfl rfl (val_assign rfl rfl) ?_
        refine Gx.done ?_
        refine Gx.thenN ?_
        refine Gx.seq ?_
        rcases hcs with ⟨hc1, hc2⟩ | ⟨k2, i2, hc1, hc2, hc3⟩
        · refine Gx.region ?_
          refine Gx.val rfl rfl rfl (val_move rfl rfl) ?_
          refine Gx.val rfl rfl rfl (val_lss rfl rfl rfl) ?_
          refine Gx.val rfl rfl rfl (val_move rfl rfl) ?_
          refine Gx.slot (t := 123) (v := .bool true) (look_decT rfl (by omega)) ?_
          refine Gx.valg rfl rfl rfl rfl rfl (val_move rfl rfl) ?_
          refine Gx.valg rfl rfl rfl rfl rfl (val_move rfl rfl) ?_
          refine Gx.valg rfl rfl rfl rfl rfl (val_ixa rfl Try.underlying23 Try.ty3 rfl rfl (j := k) (rfl) (reach_base hqv (rdL_at (l := m9) (show k < m9.length by omega)))) ?_
          refine Gx.valg rfl rfl rfl rfl rfl (val_load rfl Try.ty3 rfl rfl (cell_base (i := 0) hqv (rdL_at (l := m9) (show k < m9.length by omega)) rfl)) ?_
          refine Gx.valg rfl rfl rfl rfl rfl (val_move rfl rfl) ?_
          refine Gx.valg rfl rfl rfl rfl rfl (val_neq rfl rfl rfl) ?_
          refine Gx.val rfl rfl rfl (val_pickT rfl rfl rfl) ?_
          refine Gx.val rfl rfl rfl (val_move rfl rfl) ?_
          refine Gx.slot (t := 131) (v := .bool false) (look_decF rfl (by omega)) ?_
          refine Gx.valg rfl rfl rfl rfl rfl (val_move rfl rfl) ?_
          refine Gx.valg rfl rfl rfl rfl rfl (val_geq rfl rfl rfl) ?_
          refine Gx.valg rfl rfl rfl rfl rfl (val_move rfl rfl) ?_
          refine Gx.slot (t := 134) (v := .bool false) (look_decF rfl (by omega)) ?_
          refine Gx.skipg rfl rfl rfl rfl rfl rfl ?_
          refine Gx.skipg rfl rfl rfl rfl rfl rfl ?_
          refine Gx.skipg rfl rfl rfl rfl rfl rfl ?_
          refine Gx.skipg rfl rfl rfl rfl rfl rfl ?_
          refine Gx.skipg rfl rfl rfl rfl rfl rfl ?_
          refine Gx.skipg rfl rfl rfl rfl rfl rfl ?_
          refine Gx.skipu rfl rfl rfl rfl rfl ?_
          refine Gx.skipu rfl rfl rfl rfl rfl ?_
          refine Gx.skipu rfl rfl rfl rfl rfl ?_
          refine Gx.skipu rfl rfl rfl rfl rfl ?_
          refine Gx.skipu rfl rfl rfl rfl rfl ?_
          refine Gx.skipu rfl rfl rfl rfl rfl ?_
          refine Gx.skipu rfl rfl rfl rfl rfl ?_
          refine Gx.skipg rfl rfl rfl rfl rfl rfl ?_
          refine Gx.skipg rfl rfl rfl rfl rfl rfl ?_
          refine Gx.skipu rfl rfl rfl rfl rfl ?_
          refine Gx.skipu rfl rfl rfl rfl rfl ?_
          refine Gx.skipu rfl rfl rfl rfl rfl ?_
          refine Gx.skipu rfl rfl rfl rfl rfl ?_
          refine Gx.skipu rfl rfl rfl rfl rfl ?_
          refine Gx.skipu rfl rfl rfl rfl rfl ?_
          refine Gx.skipu rfl rfl rfl rfl rfl ?_
          refine Gx.skipu rfl rfl rfl rfl rfl ?_
          refine Gx.skipu rfl rfl rfl rfl rfl ?_
          refine Gx.skipg rfl rfl rfl rfl rfl rfl ?_
          refine Gx.valg rfl rfl rfl rfl rfl (val_pickF rfl rfl rfl) ?_
          refine Gx.val rfl rfl rfl (val_pickF rfl rfl rfl) ?_
          refine Gx.done ?_
          refine Gx.thenN ?_
          refine Gx.f rfl ?_
          refine Gx.skip ?_
          refine Gx.blkN ?_
          refine Gx.thenN ?_
          refine Gx.region ?_
          refine Gx.val rfl rfl rfl (val_move rfl rfl) ?_
          refine Gx.val rfl rfl rfl (val_add rfl rfl rfl (r := ((k + 1 : Nat) : Int)) (w64 (by omega) (by omega))) ?_
          refine Gx.val rfl rfl rfl (val_assign rfl rfl) ?_
          refine Gx.done ?_
          refine Gx.thenN ?_
          exact Gx.round (k + 1) (by first | omega | (dsimp only; omega)) (by first | omega | (dsimp only; omega)) ((.cons rfl (.cons rfl (.cons rfl (.cons rfl (.cons rfl (.cons rfl .nil))))))) rfl
        · have hk2l := (List.getElem?_eq_some_iff.1 hc2).1
          refine Gx.region ?_
          refine Gx.val rfl rfl rfl (val_move rfl rfl) ?_
          refine Gx.val rfl rfl rfl (val_lss rfl rfl rfl) ?_
          refine Gx.val rfl rfl rfl (val_move rfl rfl) ?_
          refine Gx.slot (t := 123) (v := .bool false) (look_decF rfl (by omega)) ?_
          refine Gx.skipg rfl rfl rfl rfl rfl rfl ?_
          refine Gx.skipg rfl rfl rfl rfl rfl rfl ?_
          refine Gx.skipg rfl rfl rfl rfl rfl rfl ?_
          refine Gx.skipg rfl rfl rfl rfl rfl rfl ?_
          refine Gx.skipg rfl rfl rfl rfl rfl rfl ?_
          refine Gx.skipg rfl rfl rfl rfl rfl rfl ?_
          refine Gx.val rfl rfl rfl (val_pickF rfl rfl rfl) ?_
          refine Gx.val rfl rfl rfl (val_move rfl rfl) ?_
          refine Gx.valg rfl rfl rfl rfl rfl (val_move rfl rfl) ?_
          refine Gx.valg rfl rfl rfl rfl rfl (val_geq rfl rfl rfl) ?_
          refine Gx.valg rfl rfl rfl rfl rfl (val_move rfl rfl) ?_
          refine Gx.slot (t := 134) (v := .bool true) (look_decT rfl (by omega)) ?_
          refine Gx.valg rfl rfl rfl rfl rfl (val_move rfl rfl) ?_
          refine Gx.valg rfl rfl rfl rfl rfl (val_move rfl rfl) ?_
          refine Gx.valg rfl rfl rfl rfl rfl (val_ixa rfl Try.underlying23 Try.ty3 rfl rfl (j := k) (rfl) (reach_base hqv (rdL_at (l := m9) (show k < m9.length by omega)))) ?_
          refine Gx.valg rfl rfl rfl rfl rfl (val_load rfl Try.ty3 rfl rfl (cell_base (i := 0) hqv (rdL_at (l := m9) (show k < m9.length by omega)) rfl)) ?_
          refine Gx.valg rfl rfl rfl rfl rfl (val_lss rfl rfl rfl) ?_
          refine Gx.valg rfl rfl rfl rfl rfl (val_move rfl rfl) ?_
          refine Gx.slot (t := 140) (v := .bool false) (look_decF rfl (by omega)) ?_
          refine Gx.valg rfl rfl rfl rfl rfl (val_move rfl rfl) ?_
          refine Gx.valg rfl rfl rfl rfl rfl (val_move rfl rfl) ?_
          refine Gx.valg rfl rfl rfl rfl rfl (val_ixa rfl Try.underlying23 Try.ty3 rfl rfl (j := k) (rfl) (reach_base hqv (rdL_at (l := m9) (show k < m9.length by omega)))) ?_
          refine Gx.valg rfl rfl rfl rfl rfl (val_load rfl Try.ty3 rfl rfl (cell_base (i := 0) hqv (rdL_at (l := m9) (show k < m9.length by omega)) rfl)) ?_
          refine Gx.valg rfl rfl rfl rfl rfl (val_move rfl rfl) ?_
          refine Gx.valg rfl rfl rfl rfl rfl (val_len rfl Try.underlying23 rfl (len_base hs28)) ?_
          refine Gx.valg rfl rfl rfl rfl rfl (val_geq rfl rfl rfl) ?_
          refine Gx.valg rfl rfl rfl rfl rfl (val_pickF rfl rfl rfl) ?_
          refine Gx.valg rfl rfl rfl rfl rfl (val_move rfl rfl) ?_
          refine Gx.slot (t := 149) (v := .bool false) (look_decF rfl (by omega)) ?_
          refine Gx.valg rfl rfl rfl rfl rfl (val_move rfl rfl) ?_
          refine Gx.valg rfl rfl rfl rfl rfl (val_move rfl rfl) ?_
          refine Gx.valg rfl rfl rfl rfl rfl (val_move rfl rfl) ?_
          refine Gx.valg rfl rfl rfl rfl rfl (val_ixa rfl Try.underlying23 Try.ty3 rfl rfl (j := k) (rfl) (reach_base hqv (rdL_at (l := m9) (show k < m9.length by omega)))) ?_
          refine Gx.valg rfl rfl rfl rfl rfl (val_load rfl Try.ty3 rfl rfl (cell_base (i := 0) hqv (rdL_at (l := m9) (show k < m9.length by omega)) rfl)) ?_
          refine Gx.valg rfl rfl rfl rfl rfl (val_ixa rfl Try.underlying23 Try.ty3 rfl rfl (j := k2) (by omega) (reach_base hs28 hc2)) ?_
          refine Gx.valg rfl rfl rfl rfl rfl (val_load rfl Try.ty3 rfl rfl (cell_base (i := 0) hs28 hc2 rfl)) ?_
          refine Gx.valg rfl rfl rfl rfl rfl (val_move rfl rfl) ?_
          refine Gx.valg rfl rfl rfl rfl rfl (val_neq rfl rfl rfl) ?_
          refine Gx.valg rfl rfl rfl rfl rfl (val_pickF rfl rfl rfl) ?_
          refine Gx.valg rfl rfl rfl rfl rfl (val_pickT rfl rfl rfl) ?_
          refine Gx.val rfl rfl rfl (val_pickF rfl rfl rfl) ?_
          refine Gx.done ?_
          refine Gx.thenN ?_
          refine Gx.decF rfl (by omega) ?_
          refine Gx.skip ?_
          refine Gx.blkN ?_
          refine Gx.thenN ?_
          refine Gx.region ?_
          refine Gx.val rfl rfl rfl (val_move rfl rfl) ?_
          refine Gx.val rfl rfl rfl (val_add rfl rfl rfl (r := ((k + 1 : Nat) : Int)) (w64 (by omega) (by omega))) ?_
          refine Gx.val rfl rfl rfl (val_assign rfl rfl) ?_
          refine Gx.done ?_
          refine Gx.thenN ?_
          exact Gx.round (k + 1) (by first | omega | (dsimp only; omega)) (by first | omega | (dsimp only; omega)) ((.cons rfl (.cons rfl (.cons rfl (.cons rfl (.cons rfl (.cons rfl .nil))))))) rfl
      · refine Gx.exit ?_
        refine Gx.thenE ?_
        refine Gx.thenE ?_
        refine Gx.blkE ?_
        refine Gx.thenN ?_
        refine Gx.seq ?_
        refine Gx.seq ?_
        refine Gx.region ?_
        refine Gx.val rfl rfl rfl (val_assign rfl rfl) ?_
        refine Gx.done ?_
        refine Gx.thenN ?_
        refine Gx.block ?_
        refine Gx.loop (ι := Nat) (fun ξ => (ξ ≤ 4)) (fun ξ => [(0, hv), (8, aw), (9, mw), (17, .int .i64 ((ξ : Nat) : Int))]) (fun ξ => []) (fun ξ => 4 - ξ) 0 (by first | omega | (dsimp only; omega)) ((.cons rfl (.cons rfl (.cons rfl (.cons rfl .nil))))) rfl ?_
        rintro it hit
        refine Gx.know (m' := [(0, hv), (8, aw), (9, mw), (17, .int .i64 ((it : Nat) : Int))]) (.cons rfl (.cons rfl (.cons rfl (.cons rfl .nil)))) (Gx.norm (l' := []) rfl ?_)
        refine Gx.seq ?_
        refine Gx.seq ?_
        refine Gx.region ?_
        refine Gx.val rfl rfl rfl (val_move rfl rfl) ?_
        refine Gx.val rfl rfl rfl (val_lss rfl rfl rfl) ?_
        refine Gx.done ?_
        refine Gx.thenN ?_
        refine Gx.dec rfl (fun h30 => ?_) (fun h30 => ?_)
        · refine Gx.skip ?_
          refine Gx.thenN ?_
          refine Gx.seq ?_
          refine Gx.block ?_
          refine Gx.seq ?_
          refine Gx.region ?_
          refine Gx.val rfl rfl rfl (val_assign rfl rfl) ?_
          refine Gx.done ?_
          refine Gx.thenN ?_
          refine Gx.seq ?_
          refine Gx.region ?_
          refine Gx.val rfl rfl rfl (val_assign rfl rfl) ?_
          refine Gx.done ?_
          refine Gx.thenN ?_
          refine Gx.seq ?_
          refine Gx.seq ?_
          refine Gx.region ?_
          refine Gx.val rfl rfl rfl (val_assign rfl rfl) ?_
          refine Gx.done ?_
          refine Gx.thenN ?_
          refine Gx.block ?_
          refine Gx.loop (ι := Nat × Int × Int) (fun ξ => (ξ.1 ≤ l.length) ∧ (ξ.2.1 = oI (lw l it ξ.1)) ∧ (ξ.2.2 = oA at9 (lw m9 it ξ.1))) (fun ξ => [(0, hv), (8, aw), (9, mw), (17, .int .i64 ((it : Nat) : Int)), (18, .int .i64 ξ.2.1), (19, .int .i64 ξ.2.2), (20, .int .i64 ((ξ.1 : Nat) : Int))]) (fun ξ => []) (fun ξ => l.length - ξ.1) (0, (-1), (-1)) ⟨by first | omega | (dsimp only; omega), rfl, rfl⟩ ((.cons rfl (.cons rfl (.cons rfl (.cons rfl (.cons rfl (.cons rfl (.cons rfl .nil)))))))) rfl ?_
          rintro ⟨i, za, zb⟩ ⟨hi, hza, hzb⟩
          dsimp only at hi hza hzb
          refine Gx.know (m' := [(0, hv), (8, aw), (9, mw), (17, .int .i64 ((it : Nat) : Int)), (18, .int .i64 za), (19, .int .i64 zb), (20, .int .i64 ((i : Nat) : Int))]) (.cons rfl (.cons rfl (.cons rfl (.cons rfl (.cons rfl (.cons rfl (.cons rfl .nil))))))) (Gx.norm (l' := []) rfl ?_)
          refine Gx.seq ?_
          refine Gx.seq ?_
          refine Gx.region ?_
          refine Gx.val rfl rfl rfl (val_move rfl rfl) ?_
          refine Gx.val rfl rfl rfl (val_move rfl rfl) ?_
          refine Gx.val rfl rfl rfl (val_len rfl Try.underlying22 rfl (len_base hs24)) ?_
          refine Gx.val rfl rfl rfl (val_lss rfl rfl rfl) ?_
          refine Gx.done ?_
          refine Gx.thenN ?_
          refine Gx.dec rfl (fun h31 => ?_) (fun h31 => ?_)
          · refine Gx.skip ?_
            refine Gx.thenN ?_
            refine Gx.seq ?_
            refine Gx.block ?_
            refine Gx.seq ?_
            refine Gx.seq ?_
            refine Gx.region ?_
            refine Gx.val rfl rfl rfl (val_move rfl rfl) ?_
            refine Gx.val rfl rfl rfl (val_move rfl rfl) ?_
            obtain ⟨x32, hx32⟩ := get_of_lt (xs := l) (k := i) (by first | omega | (simp; omega))
            refine Gx.val rfl rfl rfl (val_ixa rfl Try.underlying22 Try.ty30 rfl rfl (j := i) (rfl) (reach_base hs24 hx32)) ?_
            refine Gx.val rfl rfl rfl (Val.cast (val_fieldAddr rfl Try.underlying30 rfl Try.ty3 rfl rfl) (v' := ptr (sB hv) (sO hv + i * 3 + 2)) rfl) ?_
            refine Gx.val rfl rfl rfl (val_load rfl Try.ty3 rfl rfl (cell_base (i := 2) hs24 hx32 rfl)) ?_
            refine Gx.val rfl rfl rfl (val_move rfl rfl) ?_
            refine Gx.val rfl rfl rfl (val_eql rfl rfl rfl) ?_
            refine Gx.val rfl rfl rfl (val_move rfl rfl) ?_
            refine Gx.cases (t := 179) rfl (fun h33 => ?_) (fun h33 => ?_)
            · refine Gx.valg rfl rfl rfl rfl rfl (val_move rfl rfl) ?_
              refine Gx.valg rfl rfl rfl rfl rfl (val_move rfl rfl) ?_
              refine Gx.valg rfl rfl rfl rfl rfl (val_ixa rfl Try.underlying22 Try.ty30 rfl rfl (j := i) (rfl) (reach_base hs24 hx32)) ?_
              refine Gx.valg rfl rfl rfl rfl rfl (Val.cast (val_fieldAddr rfl Try.underlying30 rfl Try.ty3 rfl rfl) (v' := ptr (sB hv) (sO hv + i * 3)) rfl) ?_
              refine Gx.valg rfl rfl rfl rfl rfl (val_load rfl Try.ty3 rfl rfl (cell_base (i := 0) hs24 hx32 rfl)) ?_
              refine Gx.valg rfl rfl rfl rfl rfl (val_eql rfl rfl rfl) ?_
              refine Gx.val rfl rfl rfl (val_pickT rfl rfl rfl) ?_
              refine Gx.done ?_
              refine Gx.thenN ?_
              refine Gx.dec rfl (fun h34 => ?_) (fun h34 => ?_)
              · refine Gx.region ?_
                refine Gx.val rfl rfl rfl (val_move rfl rfl) ?_
                refine Gx.val rfl rfl rfl (val_assign rfl rfl) ?_
                refine Gx.done ?_
                refine Gx.thenN ?_
                refine Gx.seq ?_
                refine Gx.region ?_
                refine Gx.val rfl rfl rfl (val_move rfl rfl) ?_
                refine Gx.val rfl rfl rfl (val_move rfl rfl) ?_
                obtain ⟨x35, hx35⟩ := get_of_lt (xs := m9) (k := i) (by first | omega | (simp; omega))
                refine Gx.val rfl rfl rfl (val_ixa rfl Try.underlying22 Try.ty30 rfl rfl (j := i) (rfl) (reach_base hs27 hx35)) ?_
                refine Gx.val rfl rfl rfl (Val.cast (val_fieldAddr rfl Try.underlying30 rfl Try.ty3 rfl rfl) (v' := ptr (sB mw) (sO mw + i * 3 + 2)) rfl) ?_
                refine Gx.val rfl rfl rfl (val_load rfl Try.ty3 rfl rfl (cell_base (i := 2) hs27 hx35 rfl)) ?_
                refine Gx.val rfl rfl rfl (val_move rfl rfl) ?_
                refine Gx.val rfl rfl rfl (val_eql rfl rfl rfl) ?_
                refine Gx.val rfl rfl rfl (val_move rfl rfl) ?_
                refine Gx.cases (t := 195) rfl (fun h36 => ?_) (fun h36 => ?_)
                · refine Gx.valg rfl rfl rfl rfl rfl (val_move rfl rfl) ?_
                  refine Gx.valg rfl rfl rfl rfl rfl (val_move rfl rfl) ?_
                  refine Gx.valg rfl rfl rfl rfl rfl (val_ixa rfl Try.underlying22 Try.ty30 rfl rfl (j := i) (rfl) (reach_base hs27 hx35)) ?_
                  refine Gx.valg rfl rfl rfl rfl rfl (Val.cast (val_fieldAddr rfl Try.underlying30 rfl Try.ty3 rfl rfl) (v' := ptr (sB mw) (sO mw + i * 3)) rfl) ?_
                  refine Gx.valg rfl rfl rfl rfl rfl (val_load rfl Try.ty3 rfl rfl (cell_base (i := 0) hs27 hx35 rfl)) ?_
                  refine Gx.valg rfl rfl rfl rfl rfl (val_eql rfl rfl rfl) ?_
                  refine Gx.val rfl rfl rfl (val_pickT rfl rfl rfl) ?_
                  refine Gx.done ?_
                  refine Gx.thenN ?_
                  refine Gx.dec rfl (fun h37 => ?_) (fun h37 => ?_)
                  · refine Gx.region ?_
                    refine Gx.val rfl rfl rfl (val_move rfl rfl) ?_
                    refine Gx.val rfl rfl rfl (val_move rfl rfl) ?_
                    obtain ⟨x38, hx38⟩ := get_of_lt (xs := at9) (k := i) (by first | omega | (simp; omega))
                    refine Gx.val rfl rfl rfl (val_ixa rfl Try.underlying23 Try.ty3 rfl rfl (j := i) (rfl) (reach_base hs28 hx38)) ?_
                    refine Gx.val rfl rfl rfl (val_load rfl Try.ty3 rfl rfl (cell_base (i := 0) hs28 hx38 rfl)) ?_
                    refine Gx.val rfl rfl rfl (val_assign rfl rfl) ?_
                    refine Gx.done ?_
                    refine Gx.blkN ?_
                    refine Gx.thenN ?_
                    refine Gx.region ?_
                    refine Gx.val rfl rfl rfl (val_move rfl rfl) ?_
                    refine Gx.val rfl rfl rfl (val_add rfl rfl rfl (r := ((i + 1 : Nat) : Int)) (w64 (by omega) (by omega))) ?_
                    refine Gx.val rfl rfl rfl (val_assign rfl rfl) ?_
                    refine Gx.done ?_
                    refine Gx.thenN ?_
                    exact Gx.round (i + 1, ((i : Nat) : Int), ((x38 : Nat) : Int)) ⟨by first | omega | (dsimp only; omega), by dsimp only; rw [lw_yes hx32 (by omega) (by omega)]; rfl, by dsimp only; rw [lw_yes hx35 (by omega) (by omega), oA_some hx38]⟩ (by first | omega | (dsimp only; omega)) ((.cons rfl (.cons rfl (.cons rfl (.cons rfl (.cons rfl (.cons rfl (.cons rfl .nil)))))))) rfl
                  · refine Gx.skip ?_
                    refine Gx.blkN ?_
                    refine Gx.thenN ?_
                    refine Gx.region ?_
                    refine Gx.val rfl rfl rfl (val_move rfl rfl) ?_
                    refine Gx.val rfl rfl rfl (val_add rfl rfl rfl (r := ((i + 1 : Nat) : Int)) (w64 (by omega) (by omega))) ?_
                    refine Gx.val rfl rfl rfl (val_assign rfl rfl) ?_
                    refine Gx.done ?_
                    refine Gx.thenN ?_
                    exact Gx.round (i + 1, ((i : Nat) : Int), zb) ⟨by first | omega | (dsimp only; omega), by dsimp only; rw [lw_yes hx32 (by omega) (by omega)]; rfl, by dsimp only; rw [lw_no hx35 (by omega)]; exact hzb⟩ (by first | omega | (dsimp only; omega)) ((.cons rfl (.cons rfl (.cons rfl (.cons rfl (.cons rfl (.cons rfl (.cons rfl .nil)))))))) rfl
                · refine Gx.skipg rfl rfl rfl rfl rfl rfl ?_
                  refine Gx.skipg rfl rfl rfl rfl rfl rfl ?_
                  refine Gx.skipg rfl rfl rfl rfl rfl rfl ?_
                  refine Gx.skipg rfl rfl rfl rfl rfl rfl ?_
                  refine Gx.skipg rfl rfl rfl rfl rfl rfl ?_
                  refine Gx.skipg rfl rfl rfl rfl rfl rfl ?_
                  refine Gx.val rfl rfl rfl (val_pickF rfl rfl rfl) ?_
                  refine Gx.done ?_
                  refine Gx.thenN ?_
                  refine Gx.f rfl ?_
                  refine Gx.skip ?_
                  refine Gx.blkN ?_
                  refine Gx.thenN ?_
                  refine Gx.region ?_
                  refine Gx.val rfl rfl rfl (val_move rfl rfl) ?_
                  refine Gx.val rfl rfl rfl (val_add rfl rfl rfl (r := ((i + 1 : Nat) : Int)) (w64 (by omega) (by omega))) ?_
                  refine Gx.val rfl rfl rfl (val_assign rfl rfl) ?_
                  refine Gx.done ?_
                  refine Gx.thenN ?_
                  exact Gx.round (i + 1, ((i : Nat) : Int), zb) ⟨by first | omega | (dsimp only; omega), by dsimp only; rw [lw_yes hx32 (by omega) (by omega)]; rfl, by dsimp only; rw [lw_no hx35 (by omega)]; exact hzb⟩ (by first | omega | (dsimp only; omega)) ((.cons rfl (.cons rfl (.cons rfl (.cons rfl (.cons rfl (.cons rfl (.cons rfl .nil)))))))) rfl
              · refine Gx.skip ?_
                refine Gx.thenN ?_
                refine Gx.seq ?_
                refine Gx.region ?_
                refine Gx.val rfl rfl rfl (val_move rfl rfl) ?_
                refine Gx.val rfl rfl rfl (val_move rfl rfl) ?_
                obtain ⟨x39, hx39⟩ := get_of_lt (xs := m9) (k := i) (by first | omega | (simp; omega))
                refine Gx.val rfl rfl rfl (val_ixa rfl Try.underlying22 Try.ty30 rfl rfl (j := i) (rfl) (reach_base hs27 hx39)) ?_
                refine Gx.val rfl rfl rfl (Val.cast (val_fieldAddr rfl Try.underlying30 rfl Try.ty3 rfl rfl) (v' := ptr (sB mw) (sO mw + i * 3 + 2)) rfl) ?_
                refine Gx.val rfl rfl rfl (val_load rfl Try.ty3 rfl rfl (cell_base (i := 2) hs27 hx39 rfl)) ?_
                refine Gx.val rfl rfl rfl (val_move rfl rfl) ?_
                refine Gx.val rfl rfl rfl (val_eql rfl rfl rfl) ?_
                refine Gx.val rfl rfl rfl (val_move rfl rfl) ?_
                refine Gx.cases (t := 195) rfl (fun h40 => ?_) (fun h40 => ?_)
                · refine Gx.valg rfl rfl rfl rfl rfl (val_move rfl rfl) ?_
                  refine Gx.valg rfl rfl rfl rfl rfl (val_move rfl rfl) ?_
                  refine Gx.valg rfl rfl rfl rfl rfl (val_ixa rfl Try.underlying22 Try.ty30 rfl rfl (j := i) (rfl) (reach_base hs27 hx39)) ?_
                  refine Gx.valg rfl rfl rfl rfl rfl (Val.cast (val_fieldAddr rfl Try.underlying30 rfl Try.ty3 rfl rfl) (v' := ptr (sB mw) (sO mw + i * 3)) rfl) ?_
                  refine Gx.valg rfl rfl rfl rfl rfl (val_load rfl Try.ty3 rfl rfl (cell_base (i := 0) hs27 hx39 rfl)) ?_
                  refine Gx.valg rfl rfl rfl rfl rfl (val_eql rfl rfl rfl) ?_
                  refine Gx.val rfl rfl rfl (val_pickT rfl rfl rfl) ?_
                  refine Gx.done ?_
                  refine Gx.thenN ?_
                  refine Gx.dec rfl (fun h41 => ?_) (fun h41 => ?_)
                  · refine Gx.region ?_
                    refine Gx.val rfl rfl rfl (val_move rfl rfl) ?_
                    refine Gx.val rfl rfl rfl (val_move rfl rfl) ?_
                    obtain ⟨x42, hx42⟩ := get_of_lt (xs := at9) (k := i) (by first | omega | (simp; omega))
                    refine Gx.val rfl rfl rfl (val_ixa rfl Try.underlying23 Try.ty3 rfl rfl (j := i) (rfl) (reach_base hs28 hx42)) ?_
                    refine Gx.val rfl rfl rfl (val_load rfl Try.ty3 rfl rfl (cell_base (i := 0) hs28 hx42 rfl)) ?_
                    refine Gx.val rfl rfl rfl (val_assign rfl rfl) ?_
                    refine Gx.done ?_
                    refine Gx.blkN ?_
                    refine Gx.thenN ?_
                    refine Gx.region ?_
                    refine Gx.val rfl rfl rfl (val_move rfl rfl) ?_
                    refine Gx.val rfl rfl rfl (val_add rfl rfl rfl (r := ((i + 1 : Nat) : Int)) (w64 (by omega) (by omega))) ?_
                    refine Gx.val rfl rfl rfl (val_assign rfl rfl) ?_
                    refine Gx.done ?_
                    refine Gx.thenN ?_
                    exact Gx.round (i + 1, za, ((x42 : Nat) : Int)) ⟨by first | omega | (dsimp only; omega), by dsimp only; rw [lw_no hx32 (by omega)]; exact hza, by dsimp only; rw [lw_yes hx39 (by omega) (by omega), oA_some hx42]⟩ (by first | omega | (dsimp only; omega)) ((.cons rfl (.cons rfl (.cons rfl (.cons rfl (.cons rfl (.cons rfl (.cons rfl .nil)))))))) rfl
                  · refine Gx.skip ?_
                    refine Gx.blkN ?_
                    refine Gx.thenN ?_
                    refine Gx.region ?_
                    refine Gx.val rfl rfl rfl (val_move rfl rfl) ?_
                    refine Gx.val rfl rfl rfl (val_add rfl rfl rfl (r := ((i + 1 : Nat) : Int)) (w64 (by omega) (by omega))) ?_
                    refine Gx.val rfl rfl rfl (val_assign rfl rfl) ?_
                    refine Gx.done ?_
                    refine Gx.thenN ?_
                    exact Gx.round (i + 1, za, zb) ⟨by first | omega | (dsimp only; omega), by dsimp only; rw [lw_no hx32 (by omega)]; exact hza, by dsimp only; rw [lw_no hx39 (by omega)]; exact hzb⟩ (by first | omega | (dsimp only; omega)) ((.cons rfl (.cons rfl (.cons rfl (.cons rfl (.cons rfl (.cons rfl (.cons rfl .nil)))))))) rfl
                · refine Gx.skipg rfl rfl rfl rfl rfl rfl ?_
                  refine Gx.skipg rfl rfl rfl rfl rfl rfl ?_
                  refine Gx.skipg rfl rfl rfl rfl rfl rfl ?_
                  refine Gx.skipg rfl rfl rfl rfl rfl rfl ?_
                  refine Gx.skipg rfl rfl rfl rfl rfl rfl ?_
                  refine Gx.skipg rfl rfl rfl rfl rfl rfl ?_
                  refine Gx.val rfl rfl rfl (val_pickF rfl rfl rfl) ?_
                  refine Gx.done ?_
                  refine Gx.thenN ?_
                  refine Gx.f rfl ?_
                  refine Gx.skip ?_
                  refine Gx.blkN ?_
                  refine Gx.thenN ?_
                  refine Gx.region ?_
                  refine Gx.val rfl rfl rfl (val_move rfl rfl) ?_
                  refine Gx.val rfl rfl rfl (val_add rfl rfl rfl (r := ((i + 1 : Nat) : Int)) (w64 (by omega) (by omega))) ?_
                  refine Gx.val rfl rfl rfl (val_assign rfl rfl) ?_
                  refine Gx.done ?_
                  refine Gx.thenN ?_
                  exact Gx.round (i + 1, za, zb) ⟨by first | omega | (dsimp only; omega), by dsimp only; rw [lw_no hx32 (by omega)]; exact hza, by dsimp only; rw [lw_no hx39 (by omega)]; exact hzb⟩ (by first | omega | (dsimp only; omega)) ((.cons rfl (.cons rfl (.cons rfl (.cons rfl (.cons rfl (.cons rfl (.cons rfl .nil)))))))) rfl
            · refine Gx.skipg rfl rfl rfl rfl rfl rfl ?_
              refine Gx.skipg rfl rfl rfl rfl rfl rfl ?_
              refine Gx.skipg rfl rfl rfl rfl rfl rfl ?_
              refine Gx.skipg rfl rfl rfl rfl rfl rfl ?_
              refine Gx.skipg rfl rfl rfl rfl rfl rfl ?_
              refine Gx.skipg rfl rfl rfl rfl rfl rfl ?_
              refine Gx.val rfl rfl rfl (val_pickF rfl rfl rfl) ?_
              refine Gx.done ?_
              refine Gx.thenN ?_
              refine Gx.f rfl ?_
              refine Gx.skip ?_
              refine Gx.thenN ?_
              refine Gx.seq ?_
              refine Gx.region ?_
              refine Gx.val rfl rfl rfl (val_move rfl rfl) ?_
              refine Gx.val rfl rfl rfl (val_move rfl rfl) ?_
              obtain ⟨x43, hx43⟩ := get_of_lt (xs := m9) (k := i) (by first | omega | (simp; omega))
              refine Gx.val rfl rfl rfl (val_ixa rfl Try.underlying22 Try.ty30 rfl rfl (j := i) (rfl) (reach_base hs27 hx43)) ?_
              refine Gx.val rfl rfl rfl (Val.cast (val_fieldAddr rfl Try.underlying30 rfl Try.ty3 rfl rfl) (v' := ptr (sB mw) (sO mw + i * 3 + 2)) rfl) ?_
              refine Gx.val rfl rfl rfl (val_load rfl Try.ty3 rfl rfl (cell_base (i := 2) hs27 hx43 rfl)) ?_
              refine Gx.val rfl rfl rfl (val_move rfl rfl) ?_
              refine Gx.val rfl rfl rfl (val_eql rfl rfl rfl) ?_
              refine Gx.val rfl rfl rfl (val_move rfl rfl) ?_
              refine Gx.cases (t := 195) rfl (fun h44 => ?_) (fun h44 => ?_)
              · refine Gx.valg rfl rfl rfl rfl rfl (val_move rfl rfl) ?_
                refine Gx.valg rfl rfl rfl rfl rfl (val_move rfl rfl) ?_
                refine Gx.valg rfl rfl rfl rfl rfl (val_ixa rfl Try.underlying22 Try.ty30 rfl rfl (j := i) (rfl) (reach_base hs27 hx43)) ?_
                refine Gx.valg rfl rfl rfl rfl rfl (Val.cast (val_fieldAddr rfl Try.underlying30 rfl Try.ty3 rfl rfl) (v' := ptr (sB mw) (sO mw + i * 3)) rfl) ?_
                refine Gx.valg rfl rfl rfl rfl rfl (val_load rfl Try.ty3 rfl rfl (cell_base (i := 0) hs27 hx43 rfl)) ?_
                refine Gx.valg rfl rfl rfl rfl rfl (val_eql rfl rfl rfl) ?_
                refine Gx.val rfl rfl rfl (val_pickT rfl rfl rfl) ?_
                refine Gx.done ?_
                refine Gx.thenN ?_
                refine Gx.dec rfl (fun h45 => ?_) (fun h45 => ?_)
                · refine Gx.region ?_
                  refine Gx.val rfl rfl rfl (val_move rfl rfl) ?_
                  refine Gx.val rfl rfl rfl (val_move rfl rfl) ?_
                  obtain ⟨x46, hx46⟩ := get_of_lt (xs := at9) (k := i) (by first | omega | (simp; omega))
                  refine Gx.val rfl rfl rfl (val_ixa rfl Try.underlying23 Try.ty3 rfl rfl (j := i) (rfl) (reach_base hs28 hx46)) ?_
                  refine Gx.val rfl rfl rfl (val_load rfl Try.ty3 rfl rfl (cell_base (i := 0) hs28 hx46 rfl)) ?_
                  refine Gx.val rfl rfl rfl (val_assign rfl rfl) ?_
                  refine Gx.done ?_
                  refine Gx.blkN ?_
                  refine Gx.thenN ?_
                  refine Gx.region ?_
                  refine Gx.val rfl rfl rfl (val_move rfl rfl) ?_
                  refine Gx.val rfl rfl rfl (val_add rfl rfl rfl (r := ((i + 1 : Nat) : Int)) (w64 (by omega) (by omega))) ?_
                  refine Gx.val rfl rfl rfl (val_assign rfl rfl) ?_
                  refine Gx.done ?_
                  refine Gx.thenN ?_
                  exact Gx.round (i + 1, za, ((x46 : Nat) : Int)) ⟨by first | omega | (dsimp only; omega), by dsimp only; rw [lw_no hx32 (by omega)]; exact hza, by dsimp only; rw [lw_yes hx43 (by omega) (by omega), oA_some hx46]⟩ (by first | omega | (dsimp only; omega)) ((.cons rfl (.cons rfl (.cons rfl (.cons rfl (.cons rfl (.cons rfl (.cons rfl .nil)))))))) rfl
                · refine Gx.skip ?_
                  refine Gx.blkN ?_
                  refine Gx.thenN ?_
                  refine Gx.region ?_
                  refine Gx.val rfl rfl rfl (val_move rfl rfl) ?_
                  refine Gx.val rfl rfl rfl (val_add rfl rfl rfl (r := ((i + 1 : Nat) : Int)) (w64 (by omega) (by omega))) ?_
                  refine Gx.val rfl rfl rfl (val_assign rfl rfl) ?_
                  refine Gx.done ?_
                  refine Gx.thenN ?_
                  exact Gx.round (i + 1, za, zb) ⟨by first | omega | (dsimp only; omega), by dsimp only; rw [lw_no hx32 (by omega)]; exact hza, by dsimp only; rw [lw_no hx43 (by omega)]; exact hzb⟩ (by first | omega | (dsimp only; omega)) ((.cons rfl (.cons rfl (.cons rfl (.cons rfl (.cons rfl (.cons rfl (.cons rfl .nil)))))))) rfl
              · refine Gx.skipg rfl rfl rfl rfl rfl rfl ?_
                refine Gx.skipg rfl rfl rfl rfl rfl rfl ?_
                refine Gx.skipg rfl rfl rfl rfl rfl rfl ?_
                refine Gx.skipg rfl rfl rfl rfl rfl rfl ?_
                refine Gx.skipg rfl rfl rfl rfl rfl rfl ?_
                refine Gx.skipg rfl rfl rfl rfl rfl rfl ?_
                refine Gx.val rfl rfl rfl (val_pickF rfl rfl rfl) ?_
                refine Gx.done ?_
                refine Gx.thenN ?_
                refine Gx.f rfl ?_
                refine Gx.skip ?_
                refine Gx.blkN ?_
                refine Gx.thenN ?_
                refine Gx.region ?_
                refine Gx.val rfl rfl rfl (val_move rfl rfl) ?_
                refine Gx.val rfl rfl rfl (val_add rfl rfl rfl (r := ((i + 1 : Nat) : Int)) (w64 (by omega) (by omega))) ?_
                refine Gx.val rfl rfl rfl (val_assign rfl rfl) ?_
                refine Gx.done ?_
                refine Gx.thenN ?_
                exact Gx.round (i + 1, za, zb) ⟨by first | omega | (dsimp only; omega), by dsimp only; rw [lw_no hx32 (by omega)]; exact hza, by dsimp only; rw [lw_no hx43 (by omega)]; exact hzb⟩ (by first | omega | (dsimp only; omega)) ((.cons rfl (.cons rfl (.cons rfl (.cons rfl (.cons rfl (.cons rfl (.cons rfl .nil)))))))) rfl
          · refine Gx.exit ?_
            refine Gx.thenE ?_
            refine Gx.thenE ?_
            refine Gx.blkE ?_
            refine Gx.thenN ?_
            refine Gx.seq ?_
            obtain rfl : i = l.length := by omega
            have hab : za = zb := by
              rcases hls it with ⟨h1, h2⟩ | ⟨k2, i2, h1, h2, h3⟩
              · rw [hza, hzb, h1, h2]; rfl
              · rw [hza, hzb, h1, h3, oA_some h2]; rfl
            refine Gx.region ?_
            refine Gx.val rfl rfl rfl (val_move rfl rfl) ?_
            refine Gx.val rfl rfl rfl (val_move rfl rfl) ?_
            refine Gx.val rfl rfl rfl (val_neq rfl rfl rfl) ?_
            refine Gx.done ?_
            refine Gx.thenN ?_
            refine Gx.decF rfl (by omega) ?_
            refine Gx.skip ?_
            refine Gx.blkN ?_
            refine Gx.thenN ?_
            refine Gx.region ?_
            refine Gx.val rfl rfl rfl (val_move rfl rfl) ?_
            refine Gx.val rfl rfl rfl (val_add rfl rfl rfl (r := ((it + 1 : Nat) : Int)) (w64 (by omega) (by omega))) ?_
            refine Gx.val rfl rfl rfl (val_assign rfl rfl) ?_
            refine Gx.done ?_
            refine Gx.thenN ?_
            exact Gx.round (it + 1) (by first | omega | (dsimp only; omega)) (by first | omega | (dsimp only; omega)) ((.cons rfl (.cons rfl (.cons rfl (.cons rfl .nil))))) rfl
        · refine Gx.exit ?_
          refine Gx.thenE ?_
          refine Gx.thenE ?_
          refine Gx.blkE ?_
          refine Gx.thenN ?_
          refine Gx.seq ?_
          refine Gx.region ?_
          refine Gx.val rfl rfl rfl (val_assign rfl rfl) ?_
          refine Gx.done ?_
          refine Gx.thenN ?_
          refine Gx.ret ?_
          refine Gx.ret1B hW23 Try.results7 rfl ?_
          first | rfl | exact congrArg Value.bool (decide_eq_true (by rw [hz0]; rfl))

theorem means_any {W : World} {hv : Value} {r : List Act}  (hs : SlS FR 3 W hv r) : Calls Try.prog 7 #[hv] W fun e w' => e = .returned (.bool true) ∧ Below W.heap.size W w' := by
  by_cases hok : OkA r
  · obtain ⟨l, rfl, hn⟩ := raw_of hok
    exact means_ok  hn (sls_raw.1 hs)
  · exact means_no  hok hs

end Go.Proofs.Ytcepfpbhfobbeaa
