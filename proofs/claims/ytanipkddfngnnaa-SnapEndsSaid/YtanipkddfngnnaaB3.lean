/- Where nobody begins nothing is noted. The walk. No condition. -/
import Derived.Test.YtanipkddfngnnaaB1
import Derived.Test.YtanipkddfngnnaaM4
namespace Go.Proofs.Ytanipkddfngnnaa
open Go.RowKit
set_option linter.unusedVariables false
set_option linter.unusedSimpArgs false
set_option maxRecDepth 100000

theorem FM_one (p : Mv) (u : Value) (h : u ∈ FM p) : u.oneCell' = true := by simp [FM] at h; rcases h with rfl | rfl | rfl | rfl <;> rfl
theorem Try.eM : Elem Try.prog 23 33 (.agg #[.int .i64 0, .int .i64 0, .int .i64 0, .int .i64 0]) 4 32 := ⟨Try.underlying23, by kernel_rfl, rfl, by decide⟩
def noB (l : List Mv) : List Mv := l.filter fun c => decide (c.kind ≠ 3)
theorem noB_len (l : List Mv) : (noB l).length ≤ l.length := List.length_filter_le ..
theorem noB_take {l : List Mv} {k : Nat} {c : Mv} (h : l[k]? = some c) : noB (l.take (k + 1)) = noB (l.take k) ++ (if c.kind ≠ 3 then [c] else []) := by
  unfold noB; rw [take_of h, List.filter_append]; by_cases e : c.kind = 3 <;> simp [e]
theorem noB_mem {l : List Mv} : ∀ c ∈ noB l, c.kind ≠ 3 := fun c h => of_decide_eq_true (List.mem_filter.1 h).2
theorem none_mo {money : List Int} {cs : List Mv} (h6 : money.length ≤ 6) (hm0 : ∀ x ∈ money, 0 ≤ x) (hc : ∀ c ∈ cs, c.kind ≠ 3) {i : Nat} {x y : Int} (hx : money[i]? = some x) (hy : ((stS (ss0 money) cs).ps.map Pr.mo)[i]? = some y) : hasN x i cs (codesS (ss0 money) cs) cs.length ≤ y := by
  have := (none_run h6 hm0 hc cs.length (Nat.le_refl _)).2
  rw [List.take_length] at this
  rw [List.getElem?_map] at hy
  cases e : (stS (ss0 money) cs).ps[i]? with
  | none => rw [e] at hy; cases hy
  | some r => rw [e] at hy; cases hy; exact this i x r hx e
theorem none_no1 {W : World} {mv sv : Value} {money : List Int} {cs : List Mv} (hbig : cs.length * 32 ≤ 140737488351232) (hm : SlS FI 1 W mv money) (hs : SlS FM 4 W sv cs) (hbad : money.length = 0 ∨ 6 < money.length ∨ 120 < (noB cs).length) :
    Calls Try.prog 6 #[mv, sv] W fun e w' => e = .returned (.bool true) ∧ Below W.heap.size W w' := by
  have hm1 := sls_bd hs
  refine calls_pure (Gx.enter (l := []) Try.func6 rfl Try.ntmps6 rfl (Sat.start W) ?_)
  refine Gx.know (m' := [(0, mv), (1, sv)]) (.cons rfl (.cons rfl .nil)) ?_
  refine Gx.seq ?_
  refine Gx.region ?_
  refine Gx.val rfl rfl rfl (val_assign rfl rfl) ?_
  refine Gx.done ?_
  refine Gx.thenN ?_
  refine Gx.seq ?_
  refine Gx.region ?_
  refine Gx.val rfl rfl rfl (val_assign rfl rfl) ?_
  refine Gx.done ?_
  refine Gx.thenN ?_
  refine Gx.seq ?_
  refine Gx.seq ?_
  refine Gx.ownNil FM 4 ?_
  refine Gx.norm (l' := [Hp.own FM 4 (.slice none 0 0) (noB (cs.take 0))]) rfl ?_
  refine Gx.region ?_
  refine Gx.val rfl rfl rfl (val_move rfl rfl) ?_
  refine Gx.val rfl rfl rfl (val_len rfl Try.underlying23 rfl (len_base hs)) ?_
  refine Gx.val rfl rfl rfl (val_move rfl rfl) ?_
  refine Gx.done ?_
  refine Gx.thenN ?_
  refine Gx.block ?_
  refine Gx.loop (ι := Nat × Value) (fun ξ => (ξ.1 ≤ cs.length) ∧ (IsS ξ.2)) (fun ξ => [(0, mv), (5, ξ.2), (14, sv), (15, .int .i64 ((cs.length : Nat) : Int)), (16, .int .i64 ((ξ.1 : Nat) : Int))]) (fun ξ => [Hp.own FM 4 ξ.2 (noB (cs.take ξ.1))]) (fun ξ => cs.length - ξ.1) (0, .slice none 0 0) ⟨by first | omega | (dsimp only; omega), ⟨none, 0, 0, rfl⟩⟩ ((.cons rfl (.cons rfl (.cons rfl (.cons rfl (.cons rfl .nil)))))) rfl ?_
  rintro ⟨k, lv⟩ ⟨hk, hil⟩
  dsimp only at hk hil
  refine Gx.know (m' := [(0, mv), (5, lv), (14, sv), (15, .int .i64 ((cs.length : Nat) : Int)), (16, .int .i64 ((k : Nat) : Int))]) (.cons rfl (.cons rfl (.cons rfl (.cons rfl (.cons rfl .nil))))) (Gx.norm (l' := [Hp.own FM 4 lv (noB (cs.take k))]) rfl ?_)
  have hnl := noB_len (cs.take k)
  rw [List.length_take] at hnl
  refine Gx.seq ?_
  refine Gx.region ?_
  refine Gx.val rfl rfl rfl (val_lss rfl rfl rfl) ?_
  refine Gx.done ?_
  refine Gx.thenN ?_
  refine Gx.seq ?_
  refine Gx.dec rfl (fun h1 => ?_) (fun h1 => ?_)
  · refine Gx.skip ?_
    refine Gx.thenN ?_
    refine Gx.seq ?_
    refine Gx.block ?_
    refine Gx.seq ?_
    refine Gx.region ?_
    obtain ⟨x2, hx2⟩ := get_of_lt (xs := cs) (k := k) (by omega)
    refine Gx.val rfl rfl rfl (val_ixa rfl Try.underlying23 Try.ty33 rfl rfl (j := k) (rfl) (reach_base hs hx2)) ?_
    refine Gx.val rfl rfl rfl (Val.cast (val_loadA rfl Try.ty33 rfl rfl rfl (cells_base hs hx2)) (v' := .agg #[.int .i64 x2.kind, .int .i64 x2.who, .int .i64 x2.oth, .int .i64 x2.n]) rfl) ?_
    refine Gx.eff rfl rfl rfl (eff_alloc rfl Try.ty33 (vs := [.int .i64 0, .int .i64 0, .int .i64 0, .int .i64 0]) rfl) ?_
    rintro _ _ ⟨b3, rfl, rfl⟩
    refine Gx.eff0 rfl rfl (eff_store rfl Try.ty33 rfl rfl (us := [.int .i64 x2.kind, .int .i64 x2.who, .int .i64 x2.oth, .int .i64 x2.n]) rfl rfl rfl (k := 0) rfl (rfl) (vs' := [.int .i64 x2.kind, .int .i64 x2.who, .int .i64 x2.oth, .int .i64 x2.n]) (rfl) (l' := [Hp.rec_ b3 [.int .i64 x2.kind, .int .i64 x2.who, .int .i64 x2.oth, .int .i64 x2.n], Hp.own FM 4 lv (noB (cs.take k))]) rfl) ?_
    rintro _ _ rfl
    refine Gx.done ?_
    refine Gx.thenN ?_
    refine Gx.seq ?_
    refine Gx.region ?_
    refine Gx.val rfl rfl rfl (Val.cast (val_fieldAddr rfl Try.underlying33 rfl Try.ty3 rfl rfl) (v' := ptr b3 0) rfl) ?_
    refine Gx.val rfl rfl rfl (val_load rfl Try.ty3 rfl rfl (cell_rec (k := 0) rfl rfl)) ?_
    refine Gx.val rfl rfl rfl (val_neq rfl rfl rfl) ?_
    refine Gx.done ?_
    refine Gx.thenN ?_
    refine Gx.dec rfl (fun h4 => ?_) (fun h4 => ?_)
    · refine Gx.region ?_
      refine Gx.val rfl rfl rfl (val_move rfl rfl) ?_
      refine Gx.val rfl rfl rfl (Val.cast (val_loadA rfl Try.ty33 rfl rfl rfl (cells_rec (k := 0) rfl)) (v' := .agg #[.int .i64 x2.kind, .int .i64 x2.who, .int .i64 x2.oth, .int .i64 x2.n]) rfl) ?_
      refine Gx.eff rfl rfl rfl (eff_buildSlice rfl (qs := [(0, .agg #[.int .i64 x2.kind, .int .i64 x2.who, .int .i64 x2.oth, .int .i64 x2.n])]) rfl rfl (cs := #[.int .i64 x2.kind, .int .i64 x2.who, .int .i64 x2.oth, .int .i64 x2.n]) (vs := [.int .i64 x2.kind, .int .i64 x2.who, .int .i64 x2.oth, .int .i64 x2.n]) (E := 33) rfl (fun w => by first | (go_simp; done) | (go_simp; rfl))) ?_
      rintro _ _ ⟨b5, rfl, rfl⟩
      refine Gx.eff rfl rfl rfl (eff_push (r := x2) rfl Try.eM FM_len FM_one rfl rfl (k := 0) rfl rfl (k' := 1) rfl (by omega) (by omega)) ?_
      rintro v6 _ ⟨hiv6, rfl⟩
      refine Gx.norm (l' := [Hp.rec_ b3 [.int .i64 x2.kind, .int .i64 x2.who, .int .i64 x2.oth, .int .i64 x2.n], Hp.own FM 4 v6 ((noB (cs.take k)) ++ [x2])]) rfl ?_
      refine Gx.val rfl rfl rfl (val_assign rfl rfl) ?_
      refine Gx.done ?_
      refine Gx.blkN ?_
      refine Gx.thenN ?_
      refine Gx.region ?_
      refine Gx.val rfl rfl rfl (val_add rfl rfl rfl (r := ((k + 1 : Nat) : Int)) (w64 (by omega) (by omega))) ?_
      refine Gx.val rfl rfl rfl (val_move rfl rfl) ?_
      refine Gx.done ?_
      refine Gx.thenN ?_
      refine Gx.drop 0 rfl ?_
      refine Gx.norm (l' := [Hp.own FM 4 v6 (noB (cs.take (k + 1)))]) (by rw [noB_take hx2, if_pos h4] <;> rfl) ?_
      exact Gx.round (k + 1, v6) ⟨by first | omega | (dsimp only; omega), hiv6⟩ (by first | omega | (dsimp only; omega)) ((.cons rfl (.cons rfl (.cons rfl (.cons rfl (.cons rfl .nil)))))) rfl
    · refine Gx.skip ?_
      refine Gx.blkN ?_
      refine Gx.thenN ?_
      refine Gx.region ?_
      refine Gx.val rfl rfl rfl (val_add rfl rfl rfl (r := ((k + 1 : Nat) : Int)) (w64 (by omega) (by omega))) ?_
      refine Gx.val rfl rfl rfl (val_move rfl rfl) ?_
      refine Gx.done ?_
      refine Gx.thenN ?_
      refine Gx.drop 0 rfl ?_
      refine Gx.norm (l' := [Hp.own FM 4 lv (noB (cs.take (k + 1)))]) (by rw [noB_take hx2, if_neg h4]; rw [List.append_nil] <;> rfl) ?_
      exact Gx.round (k + 1, lv) ⟨by first | omega | (dsimp only; omega), hil⟩ (by first | omega | (dsimp only; omega)) ((.cons rfl (.cons rfl (.cons rfl (.cons rfl (.cons rfl .nil)))))) rfl
  · refine Gx.exit ?_
    refine Gx.thenE ?_
    refine Gx.thenE ?_
    refine Gx.blkE ?_
    refine Gx.thenN ?_
    refine Gx.seq ?_
    obtain rfl : k = cs.length := by omega
    refine Gx.norm (l' := [Hp.own FM 4 lv (noB cs)]) (by rw [List.take_length] <;> rfl) ?_
    have hnl := noB_len cs
    refine Gx.region ?_
    refine Gx.val rfl rfl rfl (val_move rfl rfl) ?_
    refine Gx.val rfl rfl rfl (val_move rfl rfl) ?_
    refine Gx.val rfl rfl rfl (val_call (vs := [mv, lv]) rfl Try.fn7 rfl (fun w H => play_no1 (hm.below H.below) ((H.at_ (k := 0) rfl).sls (by first | omega | (simp; omega))) hbad)) ?_
    refine Gx.val rfl rfl rfl (val_move rfl rfl) ?_
    refine Gx.val rfl rfl rfl (val_extract rfl rfl rfl) ?_
    refine Gx.val rfl rfl rfl (val_extract rfl rfl rfl) ?_
    refine Gx.eff rfl rfl rfl (eff_alloc rfl Try.ty27 (vs := [.slice none 0 0, .slice none 0 0, .slice none 0 0, .slice none 0 0, .bool false]) rfl) ?_
    rintro _ _ ⟨b7, rfl, rfl⟩
    refine Gx.eff0 rfl rfl (eff_store rfl Try.ty27 rfl rfl (us := [.slice none 0 0, .slice none 0 0, .slice none 0 0, .slice none 0 0, .bool false]) rfl rfl rfl (k := 0) rfl (rfl) (vs' := [.slice none 0 0, .slice none 0 0, .slice none 0 0, .slice none 0 0, .bool false]) (rfl) (l' := [Hp.rec_ b7 [.slice none 0 0, .slice none 0 0, .slice none 0 0, .slice none 0 0, .bool false], Hp.own FM 4 lv (noB cs)]) rfl) ?_
    rintro _ _ rfl
    refine Gx.val rfl rfl rfl (val_assign rfl rfl) ?_
    refine Gx.done ?_
    refine Gx.thenN ?_
    refine Gx.seq ?_
    refine Gx.seq ?_
    refine Gx.region ?_
    refine Gx.val rfl rfl rfl (val_move rfl rfl) ?_
    refine Gx.val rfl rfl rfl (Val.cast (val_neq rfl rfl rfl) (v' := .bool true) rfl) ?_
    refine Gx.done ?_
    refine Gx.thenN ?_
    refine Gx.t rfl ?_
    refine Gx.seq ?_
    refine Gx.region ?_
    refine Gx.val rfl rfl rfl (Val.cast (val_fieldAddr rfl Try.underlying27 rfl Try.ty22 rfl rfl) (v' := ptr b7 2) rfl) ?_
    refine Gx.val rfl rfl rfl (val_load rfl Try.ty22 rfl rfl (cell_rec (k := 0) rfl rfl)) ?_
    refine Gx.val rfl rfl rfl (val_len rfl Try.underlying22 rfl len_lit) ?_
    refine Gx.val rfl rfl rfl (Val.cast (val_eql rfl rfl rfl) (v' := .bool true) rfl) ?_
    refine Gx.val rfl rfl rfl (val_assign rfl rfl) ?_
    refine Gx.done ?_
    refine Gx.thenN ?_
    refine Gx.ret ?_
    refine Gx.thenR ?_
    refine Gx.ret1 Try.results6 rfl ?_
    rfl

theorem none_no2 {W : World} {mv sv : Value} {money : List Int} {cs : List Mv} (hbig : cs.length * 32 ≤ 140737488351232) (hm : SlS FI 1 W mv money) (hs : SlS FM 4 W sv cs) (hok : ¬ (money.length = 0 ∨ 6 < money.length ∨ 120 < (noB cs).length)) (hbad : 0 ≤ firstB money) :
    Calls Try.prog 6 #[mv, sv] W fun e w' => e = .returned (.bool true) ∧ Below W.heap.size W w' := by
  have hm1 := sls_bd hs
  refine calls_pure (Gx.enter (l := []) Try.func6 rfl Try.ntmps6 rfl (Sat.start W) ?_)
  refine Gx.know (m' := [(0, mv), (1, sv)]) (.cons rfl (.cons rfl .nil)) ?_
  refine Gx.seq ?_
  refine Gx.region ?_
  refine Gx.val rfl rfl rfl (val_assign rfl rfl) ?_
  refine Gx.done ?_
  refine Gx.thenN ?_
  refine Gx.seq ?_
  refine Gx.region ?_
  refine Gx.val rfl rfl rfl (val_assign rfl rfl) ?_
  refine Gx.done ?_
  refine Gx.thenN ?_
  refine Gx.seq ?_
  refine Gx.seq ?_
  refine Gx.ownNil FM 4 ?_
  refine Gx.norm (l' := [Hp.own FM 4 (.slice none 0 0) (noB (cs.take 0))]) rfl ?_
  refine Gx.region ?_
  refine Gx.val rfl rfl rfl (val_move rfl rfl) ?_
  refine Gx.val rfl rfl rfl (val_len rfl Try.underlying23 rfl (len_base hs)) ?_
  refine Gx.val rfl rfl rfl (val_move rfl rfl) ?_
  refine Gx.done ?_
  refine Gx.thenN ?_
  refine Gx.block ?_
  refine Gx.loop (ι := Nat × Value) (fun ξ => (ξ.1 ≤ cs.length) ∧ (IsS ξ.2)) (fun ξ => [(0, mv), (5, ξ.2), (14, sv), (15, .int .i64 ((cs.length : Nat) : Int)), (16, .int .i64 ((ξ.1 : Nat) : Int))]) (fun ξ => [Hp.own FM 4 ξ.2 (noB (cs.take ξ.1))]) (fun ξ => cs.length - ξ.1) (0, .slice none 0 0) ⟨by first | omega | (dsimp only; omega), ⟨none, 0, 0, rfl⟩⟩ ((.cons rfl (.cons rfl (.cons rfl (.cons rfl (.cons rfl .nil)))))) rfl ?_
  rintro ⟨k, lv⟩ ⟨hk, hil⟩
  dsimp only at hk hil
  refine Gx.know (m' := [(0, mv), (5, lv), (14, sv), (15, .int .i64 ((cs.length : Nat) : Int)), (16, .int .i64 ((k : Nat) : Int))]) (.cons rfl (.cons rfl (.cons rfl (.cons rfl (.cons rfl .nil))))) (Gx.norm (l' := [Hp.own FM 4 lv (noB (cs.take k))]) rfl ?_)
  have hnl := noB_len (cs.take k)
  rw [List.length_take] at hnl
  refine Gx.seq ?_
  refine Gx.region ?_
  refine Gx.val rfl rfl rfl (val_lss rfl rfl rfl) ?_
  refine Gx.done ?_
  refine Gx.thenN ?_
  refine Gx.seq ?_
  refine Gx.dec rfl (fun h1 => ?_) (fun h1 => ?_)
  · refine Gx.skip ?_
    refine Gx.thenN ?_
    refine Gx.seq ?_
    refine Gx.block ?_
    refine Gx.seq ?_
    refine Gx.region ?_
    obtain ⟨x2, hx2⟩ := get_of_lt (xs := cs) (k := k) (by omega)
    refine Gx.val rfl rfl rfl (val_ixa rfl Try.underlying23 Try.ty33 rfl rfl (j := k) (rfl) (reach_base hs hx2)) ?_
    refine Gx.val rfl rfl rfl (Val.cast (val_loadA rfl Try.ty33 rfl rfl rfl (cells_base hs hx2)) (v' := .agg #[.int .i64 x2.kind, .int .i64 x2.who, .int .i64 x2.oth, .int .i64 x2.n]) rfl) ?_
    refine Gx.eff rfl rfl rfl (eff_alloc rfl Try.ty33 (vs := [.int .i64 0, .int .i64 0, .int .i64 0, .int .i64 0]) rfl) ?_
    rintro _ _ ⟨b3, rfl, rfl⟩
    refine Gx.eff0 rfl rfl (eff_store rfl Try.ty33 rfl rfl (us := [.int .i64 x2.kind, .int .i64 x2.who, .int .i64 x2.oth, .int .i64 x2.n]) rfl rfl rfl (k := 0) rfl (rfl) (vs' := [.int .i64 x2.kind, .int .i64 x2.who, .int .i64 x2.oth, .int .i64 x2.n]) (rfl) (l' := [Hp.rec_ b3 [.int .i64 x2.kind, .int .i64 x2.who, .int .i64 x2.oth, .int .i64 x2.n], Hp.own FM 4 lv (noB (cs.take k))]) rfl) ?_
    rintro _ _ rfl
    refine Gx.done ?_
    refine Gx.thenN ?_
    refine Gx.seq ?_
    refine Gx.region ?_
    refine Gx.val rfl rfl rfl (Val.cast (val_fieldAddr rfl Try.underlying33 rfl Try.ty3 rfl rfl) (v' := ptr b3 0) rfl) ?_
    refine Gx.val rfl rfl rfl (val_load rfl Try.ty3 rfl rfl (cell_rec (k := 0) rfl rfl)) ?_
    refine Gx.val rfl rfl rfl (val_neq rfl rfl rfl) ?_
    refine Gx.done ?_
    refine Gx.thenN ?_
    refine Gx.dec rfl (fun h4 => ?_) (fun h4 => ?_)
    · refine Gx.region ?_
      refine Gx.val rfl rfl rfl (val_move rfl rfl) ?_
      refine Gx.val rfl rfl rfl (Val.cast (val_loadA rfl Try.ty33 rfl rfl rfl (cells_rec (k := 0) rfl)) (v' := .agg #[.int .i64 x2.kind, .int .i64 x2.who, .int .i64 x2.oth, .int .i64 x2.n]) rfl) ?_
      refine Gx.eff rfl rfl rfl (eff_buildSlice rfl (qs := [(0, .agg #[.int .i64 x2.kind, .int .i64 x2.who, .int .i64 x2.oth, .int .i64 x2.n])]) rfl rfl (cs := #[.int .i64 x2.kind, .int .i64 x2.who, .int .i64 x2.oth, .int .i64 x2.n]) (vs := [.int .i64 x2.kind, .int .i64 x2.who, .int .i64 x2.oth, .int .i64 x2.n]) (E := 33) rfl (fun w => by first | (go_simp; done) | (go_simp; rfl))) ?_
      rintro _ _ ⟨b5, rfl, rfl⟩
      refine Gx.eff rfl rfl rfl (eff_push (r := x2) rfl Try.eM FM_len FM_one rfl rfl (k := 0) rfl rfl (k' := 1) rfl (by omega) (by omega)) ?_
      rintro v6 _ ⟨hiv6, rfl⟩
      refine Gx.norm (l' := [Hp.rec_ b3 [.int .i64 x2.kind, .int .i64 x2.who, .int .i64 x2.oth, .int .i64 x2.n], Hp.own FM 4 v6 ((noB (cs.take k)) ++ [x2])]) rfl ?_
      refine Gx.val rfl rfl rfl (val_assign rfl rfl) ?_
      refine Gx.done ?_
      refine Gx.blkN ?_
      refine Gx.thenN ?_
      refine Gx.region ?_
      refine Gx.val rfl rfl rfl (val_add rfl rfl rfl (r := ((k + 1 : Nat) : Int)) (w64 (by omega) (by omega))) ?_
      refine Gx.val rfl rfl rfl (val_move rfl rfl) ?_
      refine Gx.done ?_
      refine Gx.thenN ?_
      refine Gx.drop 0 rfl ?_
      refine Gx.norm (l' := [Hp.own FM 4 v6 (noB (cs.take (k + 1)))]) (by rw [noB_take hx2, if_pos h4] <;> rfl) ?_
      exact Gx.round (k + 1, v6) ⟨by first | omega | (dsimp only; omega), hiv6⟩ (by first | omega | (dsimp only; omega)) ((.cons rfl (.cons rfl (.cons rfl (.cons rfl (.cons rfl .nil)))))) rfl
    · refine Gx.skip ?_
      refine Gx.blkN ?_
      refine Gx.thenN ?_
      refine Gx.region ?_
      refine Gx.val rfl rfl rfl (val_add rfl rfl rfl (r := ((k + 1 : Nat) : Int)) (w64 (by omega) (by omega))) ?_
      refine Gx.val rfl rfl rfl (val_move rfl rfl) ?_
      refine Gx.done ?_
      refine Gx.thenN ?_
      refine Gx.drop 0 rfl ?_
      refine Gx.norm (l' := [Hp.own FM 4 lv (noB (cs.take (k + 1)))]) (by rw [noB_take hx2, if_neg h4]; rw [List.append_nil] <;> rfl) ?_
      exact Gx.round (k + 1, lv) ⟨by first | omega | (dsimp only; omega), hil⟩ (by first | omega | (dsimp only; omega)) ((.cons rfl (.cons rfl (.cons rfl (.cons rfl (.cons rfl .nil)))))) rfl
  · refine Gx.exit ?_
    refine Gx.thenE ?_
    refine Gx.thenE ?_
    refine Gx.blkE ?_
    refine Gx.thenN ?_
    refine Gx.seq ?_
    obtain rfl : k = cs.length := by omega
    refine Gx.norm (l' := [Hp.own FM 4 lv (noB cs)]) (by rw [List.take_length] <;> rfl) ?_
    have hnl := noB_len cs
    refine Gx.region ?_
    refine Gx.val rfl rfl rfl (val_move rfl rfl) ?_
    refine Gx.val rfl rfl rfl (val_move rfl rfl) ?_
    refine Gx.val rfl rfl rfl (val_call (vs := [mv, lv]) rfl Try.fn7 rfl (fun w H => play_no2 (hm.below H.below) ((H.at_ (k := 0) rfl).sls (by first | omega | (simp; omega))) hok hbad)) ?_
    refine Gx.val rfl rfl rfl (val_move rfl rfl) ?_
    refine Gx.val rfl rfl rfl (val_extract rfl rfl rfl) ?_
    refine Gx.val rfl rfl rfl (val_extract rfl rfl rfl) ?_
    refine Gx.eff rfl rfl rfl (eff_alloc rfl Try.ty27 (vs := [.slice none 0 0, .slice none 0 0, .slice none 0 0, .slice none 0 0, .bool false]) rfl) ?_
    rintro _ _ ⟨b7, rfl, rfl⟩
    refine Gx.eff0 rfl rfl (eff_store rfl Try.ty27 rfl rfl (us := [.slice none 0 0, .slice none 0 0, .slice none 0 0, .slice none 0 0, .bool false]) rfl rfl rfl (k := 0) rfl (rfl) (vs' := [.slice none 0 0, .slice none 0 0, .slice none 0 0, .slice none 0 0, .bool false]) (rfl) (l' := [Hp.rec_ b7 [.slice none 0 0, .slice none 0 0, .slice none 0 0, .slice none 0 0, .bool false], Hp.own FM 4 lv (noB cs)]) rfl) ?_
    rintro _ _ rfl
    refine Gx.val rfl rfl rfl (val_assign rfl rfl) ?_
    refine Gx.done ?_
    refine Gx.thenN ?_
    refine Gx.seq ?_
    refine Gx.seq ?_
    refine Gx.region ?_
    refine Gx.val rfl rfl rfl (val_move rfl rfl) ?_
    refine Gx.val rfl rfl rfl (Val.cast (val_neq rfl rfl rfl) (v' := .bool true) rfl) ?_
    refine Gx.done ?_
    refine Gx.thenN ?_
    refine Gx.t rfl ?_
    refine Gx.seq ?_
    refine Gx.region ?_
    refine Gx.val rfl rfl rfl (Val.cast (val_fieldAddr rfl Try.underlying27 rfl Try.ty22 rfl rfl) (v' := ptr b7 2) rfl) ?_
    refine Gx.val rfl rfl rfl (val_load rfl Try.ty22 rfl rfl (cell_rec (k := 0) rfl rfl)) ?_
    refine Gx.val rfl rfl rfl (val_len rfl Try.underlying22 rfl len_lit) ?_
    refine Gx.val rfl rfl rfl (Val.cast (val_eql rfl rfl rfl) (v' := .bool true) rfl) ?_
    refine Gx.val rfl rfl rfl (val_assign rfl rfl) ?_
    refine Gx.done ?_
    refine Gx.thenN ?_
    refine Gx.ret ?_
    refine Gx.thenR ?_
    refine Gx.ret1 Try.results6 rfl ?_
    rfl

theorem none_yes {W : World} {mv sv : Value} {money : List Int} {cs : List Mv} (hbig : cs.length * 32 ≤ 140737488351232) (hm : SlS FI 1 W mv money) (hs : SlS FM 4 W sv cs) (hq1 : 1 ≤ money.length) (h6 : money.length ≤ 6) (hcl : (noB cs).length ≤ 120) (hbad : ¬ 0 ≤ firstB money) :
    Calls Try.prog 6 #[mv, sv] W fun e w' => e = .returned (.bool true) ∧ Below W.heap.size W w' := by
  have hm1 := sls_bd hs
  have hm0 : ∀ x ∈ money, 0 ≤ x := fun x hx => (firstB_ok hbad x hx).1
  have hms := lsum_le (firstB_ok hbad)
  have hM6 : lsum money ≤ 6000 := by omega
  have hM0 : 0 ≤ lsum money := by have h := lsum_nn (f := Pr.mo) (l := (ss0 money).ps) (BdS.zero hm0).mo; rw [show (ss0 money).ps.map Pr.mo = money from by show (money.map _).map Pr.mo = money; rw [List.map_map]; exact List.map_id _] at h; exact h
  have honly : ∀ p ∈ (stS (ss0 money) (noB cs)).ps, p.ow = -1 := by have := (none_run h6 hm0 (noB_mem (l := cs)) (noB cs).length (Nat.le_refl _)).1; rwa [List.take_length] at this
  have hsnd : ∀ (k : Nat) (c : Mv) (z : Int), (noB cs)[k]? = some c → (codesS (ss0 money) (noB cs))[k]? = some z → z = 0 → c.kind = 1 → 1 ≤ c.n ∧ c.n ≤ lsum money := fun k c z g1 g2 g3 g4 => none_send h6 hm0 noB_mem g1 g2 g3 g4
  refine calls_pure (Gx.enter (l := []) Try.func6 rfl Try.ntmps6 rfl (Sat.start W) ?_)
  refine Gx.know (m' := [(0, mv), (1, sv)]) (.cons rfl (.cons rfl .nil)) ?_
  refine Gx.seq ?_
  refine Gx.region ?_
  refine Gx.val rfl rfl rfl (val_assign rfl rfl) ?_
  refine Gx.done ?_
  refine Gx.thenN ?_
  refine Gx.seq ?_
  refine Gx.region ?_
  refine Gx.val rfl rfl rfl (val_assign rfl rfl) ?_
  refine Gx.done ?_
  refine Gx.thenN ?_
  refine Gx.seq ?_
  refine Gx.seq ?_
  refine Gx.ownNil FM 4 ?_
  refine Gx.norm (l' := [Hp.own FM 4 (.slice none 0 0) (noB (cs.take 0))]) rfl ?_
  refine Gx.region ?_
  refine Gx.val rfl rfl rfl (val_move rfl rfl) ?_
  refine Gx.val rfl rfl rfl (val_len rfl Try.underlying23 rfl (len_base hs)) ?_
  refine Gx.val rfl rfl rfl (val_move rfl rfl) ?_
  refine Gx.done ?_
  refine Gx.thenN ?_
  refine Gx.block ?_
  refine Gx.loop (ι := Nat × Value) (fun ξ => (ξ.1 ≤ cs.length) ∧ (IsS ξ.2)) (fun ξ => [(0, mv), (5, ξ.2), (14, sv), (15, .int .i64 ((cs.length : Nat) : Int)), (16, .int .i64 ((ξ.1 : Nat) : Int))]) (fun ξ => [Hp.own FM 4 ξ.2 (noB (cs.take ξ.1))]) (fun ξ => cs.length - ξ.1) (0, .slice none 0 0) ⟨by first | omega | (dsimp only; omega), ⟨none, 0, 0, rfl⟩⟩ ((.cons rfl (.cons rfl (.cons rfl (.cons rfl (.cons rfl .nil)))))) rfl ?_
  rintro ⟨k, lv⟩ ⟨hk, hil⟩
  dsimp only at hk hil
  refine Gx.know (m' := [(0, mv), (5, lv), (14, sv), (15, .int .i64 ((cs.length : Nat) : Int)), (16, .int .i64 ((k : Nat) : Int))]) (.cons rfl (.cons rfl (.cons rfl (.cons rfl (.cons rfl .nil))))) (Gx.norm (l' := [Hp.own FM 4 lv (noB (cs.take k))]) rfl ?_)
  have hnl := noB_len (cs.take k)
  rw [List.length_take] at hnl
  refine Gx.seq ?_
  refine Gx.region ?_
  refine Gx.val rfl rfl rfl (val_lss rfl rfl rfl) ?_
  refine Gx.done ?_
  refine Gx.thenN ?_
  refine Gx.seq ?_
  refine Gx.dec rfl (fun h1 => ?_) (fun h1 => ?_)
  · refine Gx.skip ?_
    refine Gx.thenN ?_
    refine Gx.seq ?_
    refine Gx.block ?_
    refine Gx.seq ?_
    refine Gx.region ?_
    obtain ⟨x2, hx2⟩ := get_of_lt (xs := cs) (k := k) (by omega)
    refine Gx.val rfl rfl rfl (val_ixa rfl Try.underlying23 Try.ty33 rfl rfl (j := k) (rfl) (reach_base hs hx2)) ?_
    refine Gx.val rfl rfl rfl (Val.cast (val_loadA rfl Try.ty33 rfl rfl rfl (cells_base hs hx2)) (v' := .agg #[.int .i64 x2.kind, .int .i64 x2.who, .int .i64 x2.oth, .int .i64 x2.n]) rfl) ?_
    refine Gx.eff rfl rfl rfl (eff_alloc rfl Try.ty33 (vs := [.int .i64 0, .int .i64 0, .int .i64 0, .int .i64 0]) rfl) ?_
    rintro _ _ ⟨b3, rfl, rfl⟩
    refine Gx.eff0 rfl rfl (eff_store rfl Try.ty33 rfl rfl (us := [.int .i64 x2.kind, .int .i64 x2.who, .int .i64 x2.oth, .int .i64 x2.n]) rfl rfl rfl (k := 0) rfl (rfl) (vs' := [.int .i64 x2.kind, .int .i64 x2.who, .int .i64 x2.oth, .int .i64 x2.n]) (rfl) (l' := [Hp.rec_ b3 [.int .i64 x2.kind, .int .i64 x2.who, .int .i64 x2.oth, .int .i64 x2.n], Hp.own FM 4 lv (noB (cs.take k))]) rfl) ?_
    rintro _ _ rfl
    refine Gx.done ?_
    refine Gx.thenN ?_
    refine Gx.seq ?_
    refine Gx.region ?_
    refine Gx.val rfl rfl rfl (Val.cast (val_fieldAddr rfl Try.underlying33 rfl Try.ty3 rfl rfl) (v' := ptr b3 0) rfl) ?_
    refine Gx.val rfl rfl rfl (val_load rfl Try.ty3 rfl rfl (cell_rec (k := 0) rfl rfl)) ?_
    refine Gx.val rfl rfl rfl (val_neq rfl rfl rfl) ?_
    refine Gx.done ?_
    refine Gx.thenN ?_
    refine Gx.dec rfl (fun h4 => ?_) (fun h4 => ?_)
    · refine Gx.region ?_
      refine Gx.val rfl rfl rfl (val_move rfl rfl) ?_
      refine Gx.val rfl rfl rfl (Val.cast (val_loadA rfl Try.ty33 rfl rfl rfl (cells_rec (k := 0) rfl)) (v' := .agg #[.int .i64 x2.kind, .int .i64 x2.who, .int .i64 x2.oth, .int .i64 x2.n]) rfl) ?_
      refine Gx.eff rfl rfl rfl (eff_buildSlice rfl (qs := [(0, .agg #[.int .i64 x2.kind, .int .i64 x2.who, .int .i64 x2.oth, .int .i64 x2.n])]) rfl rfl (cs := #[.int .i64 x2.kind, .int .i64 x2.who, .int .i64 x2.oth, .int .i64 x2.n]) (vs := [.int .i64 x2.kind, .int .i64 x2.who, .int .i64 x2.oth, .int .i64 x2.n]) (E := 33) rfl (fun w => by first | (go_simp; done) | (go_simp; rfl))) ?_
      rintro _ _ ⟨b5, rfl, rfl⟩
      refine Gx.eff rfl rfl rfl (eff_push (r := x2) rfl Try.eM FM_len FM_one rfl rfl (k := 0) rfl rfl (k' := 1) rfl (by omega) (by omega)) ?_
      rintro v6 _ ⟨hiv6, rfl⟩
      refine Gx.norm (l' := [Hp.rec_ b3 [.int .i64 x2.kind, .int .i64 x2.who, .int .i64 x2.oth, .int .i64 x2.n], Hp.own FM 4 v6 ((noB (cs.take k)) ++ [x2])]) rfl ?_
      refine Gx.val rfl rfl rfl (val_assign rfl rfl) ?_
      refine Gx.done ?_
      refine Gx.blkN ?_
      refine Gx.thenN ?_
      refine Gx.region ?_
      refine Gx.val rfl rfl rfl (val_add rfl rfl rfl (r := ((k + 1 : Nat) : Int)) (w64 (by omega) (by omega))) ?_
      refine Gx.val rfl rfl rfl (val_move rfl rfl) ?_
      refine Gx.done ?_
      refine Gx.thenN ?_
      refine Gx.drop 0 rfl ?_
      refine Gx.norm (l' := [Hp.own FM 4 v6 (noB (cs.take (k + 1)))]) (by rw [noB_take hx2, if_pos h4] <;> rfl) ?_
      exact Gx.round (k + 1, v6) ⟨by first | omega | (dsimp only; omega), hiv6⟩ (by first | omega | (dsimp only; omega)) ((.cons rfl (.cons rfl (.cons rfl (.cons rfl (.cons rfl .nil)))))) rfl
    · refine Gx.skip ?_
      refine Gx.blkN ?_
      refine Gx.thenN ?_
      refine Gx.region ?_
      refine Gx.val rfl rfl rfl (val_add rfl rfl rfl (r := ((k + 1 : Nat) : Int)) (w64 (by omega) (by omega))) ?_
      refine Gx.val rfl rfl rfl (val_move rfl rfl) ?_
      refine Gx.done ?_
      refine Gx.thenN ?_
      refine Gx.drop 0 rfl ?_
      refine Gx.norm (l' := [Hp.own FM 4 lv (noB (cs.take (k + 1)))]) (by rw [noB_take hx2, if_neg h4]; rw [List.append_nil] <;> rfl) ?_
      exact Gx.round (k + 1, lv) ⟨by first | omega | (dsimp only; omega), hil⟩ (by first | omega | (dsimp only; omega)) ((.cons rfl (.cons rfl (.cons rfl (.cons rfl (.cons rfl .nil)))))) rfl
  · refine Gx.exit ?_
    refine Gx.thenE ?_
    refine Gx.thenE ?_
    refine Gx.blkE ?_
    refine Gx.thenN ?_
    refine Gx.seq ?_
    obtain rfl : k = cs.length := by omega
    refine Gx.norm (l' := [Hp.own FM 4 lv (noB cs)]) (by rw [List.take_length] <;> rfl) ?_
    have hnl := noB_len cs
    refine Gx.region ?_
    refine Gx.val rfl rfl rfl (val_move rfl rfl) ?_
    refine Gx.val rfl rfl rfl (val_move rfl rfl) ?_
    refine Gx.callB rfl rfl rfl (vs := [mv, lv]) rfl Try.fn7 rfl (R := fun v w' => ∃ (cv wv uv bv : Value) (dm : Bool) (vals : List Sv), v = .tuple #[.agg #[cv, wv, uv, bv, .bool dm], .int .i64 0] ∧ SlS FZ 1 w' cv (codesS (ss0 money) (noB cs)) ∧ SlS FI 1 w' wv ((stS (ss0 money) (noB cs)).ps.map Pr.mo) ∧ SlS FI 1 w' uv ((stS (ss0 money) (noB cs)).ps.map Pr.ow) ∧ SlS FV 1 w' bv vals ∧ vals.length = money.length * money.length ∧ (∀ (kw : Nat) (v : Sv), vals[kw]? = some v → SlS FI 1 w' (.slice v.a v.n v.c) (nts (stS (ss0 money) (noB cs)) money.length kw)) ∧ (dm = true ↔ DoneS (stS (ss0 money) (noB cs)) money.length)) (fun w H => play_ok (hm.below H.below) ((H.at_ (k := 0) rfl).sls (by first | omega | (simp; omega))) hq1 h6 (by omega) hbad) ?_
    rintro _ W13 ⟨cv7, wv8, uv9, bv10, dm11, vals12, rfl, hcv7, hwv8, huv9, hbv10, hlbv10, hrbv10, hddm11⟩ H14
    have hW15 := H14.below
    have hs16 := hm.below H14.below
    have hs17 := hs.below H14.below
    have hs18 := (H14.at_ (k := 0) rfl).sls (by first | omega | (simp; omega))
    have hclcv7 : (codesS (ss0 money) (noB cs)).length = ((noB cs)).length := codesS_len ..
    have hplcv7 : (stS (ss0 money) (noB cs)).ps.length = money.length := ((BdS.zero hm0).run h6 (noB cs)).len
    have hmlcv7 : ((stS (ss0 money) (noB cs)).ps.map Pr.mo).length = money.length := by rw [List.length_map]; exact hplcv7
    have holcv7 : ((stS (ss0 money) (noB cs)).ps.map Pr.ow).length = money.length := by rw [List.length_map]; exact hplcv7
    obtain ⟨sa19, sn20, sc21, rfl⟩ := hcv7.isS
    obtain ⟨sa22, sn23, sc24, rfl⟩ := hwv8.isS
    obtain ⟨sa25, sn26, sc27, rfl⟩ := huv9.isS
    obtain ⟨sa28, sn29, sc30, rfl⟩ := hbv10.isS
    have hdf : dm11 = false := by
      cases e : dm11
      · rfl
      · exfalso
        obtain ⟨p, hp⟩ := get_of_lt (xs := (stS (ss0 money) (noB cs)).ps) (k := 0) (by omega)
        exact (hddm11.1 e).1 p (List.mem_of_getElem? hp) (honly p (List.mem_of_getElem? hp))
    refine Gx.val rfl rfl rfl (val_move rfl rfl) ?_
    refine Gx.val rfl rfl rfl (val_extract rfl rfl rfl) ?_
    refine Gx.val rfl rfl rfl (val_extract rfl rfl rfl) ?_
    refine Gx.eff rfl rfl rfl (eff_alloc rfl Try.ty27 (vs := [.slice none 0 0, .slice none 0 0, .slice none 0 0, .slice none 0 0, .bool false]) rfl) ?_
    rintro _ _ ⟨b31, rfl, rfl⟩
    refine Gx.eff0 rfl rfl (eff_store rfl Try.ty27 rfl rfl (us := [.slice sa19 sn20 sc21, .slice sa22 sn23 sc24, .slice sa25 sn26 sc27, .slice sa28 sn29 sc30, .bool dm11]) rfl rfl rfl (k := 0) rfl (rfl) (vs' := [.slice sa19 sn20 sc21, .slice sa22 sn23 sc24, .slice sa25 sn26 sc27, .slice sa28 sn29 sc30, .bool dm11]) (rfl) (l' := [Hp.rec_ b31 [.slice sa19 sn20 sc21, .slice sa22 sn23 sc24, .slice sa25 sn26 sc27, .slice sa28 sn29 sc30, .bool dm11]]) rfl) ?_
    rintro _ _ rfl
    refine Gx.val rfl rfl rfl (val_assign rfl rfl) ?_
    refine Gx.done ?_
    refine Gx.thenN ?_
    refine Gx.seq ?_
    refine Gx.seq ?_
    refine Gx.region ?_
    refine Gx.val rfl rfl rfl (val_move rfl rfl) ?_
    refine Gx.val rfl rfl rfl (Val.cast (val_neq rfl rfl rfl) (v' := .bool false) rfl) ?_
    refine Gx.done ?_
    refine Gx.thenN ?_
    refine Gx.f rfl ?_
    refine Gx.skip ?_
    refine Gx.thenN ?_
    refine Gx.seq ?_
    refine Gx.seq ?_
    refine Gx.region ?_
    refine Gx.val rfl rfl rfl (Val.cast (val_fieldAddr rfl Try.underlying27 rfl Try.ty22 rfl rfl) (v' := ptr b31 2) rfl) ?_
    refine Gx.val rfl rfl rfl (val_load rfl Try.ty22 rfl rfl (cell_rec (k := 0) rfl rfl)) ?_
    refine Gx.val rfl rfl rfl (val_len rfl Try.underlying22 rfl (len_base huv9)) ?_
    refine Gx.val rfl rfl rfl (val_move rfl rfl) ?_
    refine Gx.val rfl rfl rfl (val_len rfl Try.underlying22 rfl (len_base hs16)) ?_
    refine Gx.val rfl rfl rfl (val_neq rfl rfl rfl) ?_
    refine Gx.val rfl rfl rfl (val_move rfl rfl) ?_
    refine Gx.slot (t := 46) (v := .bool false) (look_decF rfl (by omega)) ?_
    refine Gx.valg rfl rfl rfl rfl rfl (Val.cast (val_fieldAddr rfl Try.underlying27 rfl Try.ty4 rfl rfl) (v' := ptr b31 4) rfl) ?_
    refine Gx.valg rfl rfl rfl rfl rfl (val_load rfl Try.ty4 rfl rfl (cell_rec (k := 0) rfl rfl)) ?_
    refine Gx.val rfl rfl rfl (val_pickF rfl rfl rfl) ?_
    refine Gx.val rfl rfl rfl (val_move rfl rfl) ?_
    refine Gx.slot (t := 50) (v := .bool false) (look_boolF rfl (hdf)) ?_
    refine Gx.valg rfl rfl rfl rfl rfl (Val.cast (val_fieldAddr rfl Try.underlying27 rfl Try.ty24 rfl rfl) (v' := ptr b31 0) rfl) ?_
    refine Gx.valg rfl rfl rfl rfl rfl (val_load rfl Try.ty24 rfl rfl (cell_rec (k := 0) rfl rfl)) ?_
    refine Gx.valg rfl rfl rfl rfl rfl (val_len rfl Try.underlying24 rfl (len_base hcv7)) ?_
    refine Gx.valg rfl rfl rfl rfl rfl (val_move rfl rfl) ?_
    refine Gx.valg rfl rfl rfl rfl rfl (val_len rfl Try.underlying23 rfl (len_base hs18)) ?_
    refine Gx.valg rfl rfl rfl rfl rfl (val_neq rfl rfl rfl) ?_
    refine Gx.val rfl rfl rfl (val_pickF rfl rfl rfl) ?_
    refine Gx.done ?_
    refine Gx.thenN ?_
    refine Gx.decF rfl (by omega) ?_
    refine Gx.skip ?_
    refine Gx.thenN ?_
    refine Gx.seq ?_
    refine Gx.seq ?_
    refine Gx.region ?_
    refine Gx.val rfl rfl rfl (val_assign rfl rfl) ?_
    refine Gx.done ?_
    refine Gx.thenN ?_
    refine Gx.block ?_
    refine Gx.loop (ι := Nat) (fun ξ => (ξ ≤ money.length)) (fun ξ => [(0, mv), (5, lv), (8, ptr b31 0), (10, .int .i64 ((ξ : Nat) : Int))]) (fun ξ => [Hp.rec_ b31 [.slice sa19 sn20 sc21, .slice sa22 sn23 sc24, .slice sa25 sn26 sc27, .slice sa28 sn29 sc30, .bool dm11]]) (fun ξ => money.length - ξ) 0 (by first | omega | (dsimp only; omega)) ((.cons rfl (.cons rfl (.cons rfl (.cons rfl .nil))))) rfl ?_
    rintro i hi
    refine Gx.know (m' := [(0, mv), (5, lv), (8, ptr b31 0), (10, .int .i64 ((i : Nat) : Int))]) (.cons rfl (.cons rfl (.cons rfl (.cons rfl .nil)))) (Gx.norm (l' := [Hp.rec_ b31 [.slice sa19 sn20 sc21, .slice sa22 sn23 sc24, .slice sa25 sn26 sc27, .slice sa28 sn29 sc30, .bool dm11]]) rfl ?_)
    refine Gx.seq ?_
    refine Gx.seq ?_
    refine Gx.region ?_
    refine Gx.val rfl rfl rfl (val_move rfl rfl) ?_
    refine Gx.val rfl rfl rfl (val_move rfl rfl) ?_
    refine Gx.val rfl rfl rfl (val_len rfl Try.underlying22 rfl (len_base hs16)) ?_
    refine Gx.val rfl rfl rfl (val_lss rfl rfl rfl) ?_
    refine Gx.done ?_
    refine Gx.thenN ?_
    refine Gx.dec rfl (fun h32 => ?_) (fun h32 => ?_)
    · refine Gx.skip ?_
      refine Gx.thenN ?_
      refine Gx.seq ?_
      refine Gx.block ?_
      refine Gx.seq ?_
      refine Gx.region ?_
      refine Gx.val rfl rfl rfl (val_move rfl rfl) ?_
      refine Gx.val rfl rfl rfl (val_move rfl rfl) ?_
      obtain ⟨x33, hx33⟩ := get_of_lt (xs := money) (k := i) (by omega)
      refine Gx.val rfl rfl rfl (val_ixa rfl Try.underlying22 Try.ty3 rfl rfl (j := i) (rfl) (reach_base hs16 hx33)) ?_
      refine Gx.val rfl rfl rfl (val_load rfl Try.ty3 rfl rfl (cell_base (i := 0) hs16 hx33 rfl)) ?_
      refine Gx.val rfl rfl rfl (val_assign rfl rfl) ?_
      refine Gx.done ?_
      refine Gx.thenN ?_
      refine Gx.seq ?_
      refine Gx.seq ?_
      refine Gx.slot (t := 11) (v := .int .i64 (hasN x33 ((i : Nat) : Int) (noB cs) (codesS (ss0 money) (noB cs)) 0)) (by rfl) ?_
      refine Gx.region ?_
      refine Gx.val rfl rfl rfl (val_move rfl rfl) ?_
      refine Gx.val rfl rfl rfl (val_len rfl Try.underlying23 rfl (len_base hs18)) ?_
      refine Gx.val rfl rfl rfl (val_move rfl rfl) ?_
      refine Gx.done ?_
      refine Gx.thenN ?_
      refine Gx.block ?_
      refine Gx.loop (ι := Nat) (fun ξ => (ξ ≤ (noB cs).length)) (fun ξ => [(0, mv), (5, lv), (8, ptr b31 0), (10, .int .i64 ((i : Nat) : Int)), (68, lv), (69, .int .i64 (((noB cs).length : Nat) : Int)), (11, .int .i64 (hasN x33 ((i : Nat) : Int) (noB cs) (codesS (ss0 money) (noB cs)) ξ)), (70, .int .i64 ((ξ : Nat) : Int))]) (fun ξ => [Hp.rec_ b31 [.slice sa19 sn20 sc21, .slice sa22 sn23 sc24, .slice sa25 sn26 sc27, .slice sa28 sn29 sc30, .bool dm11]]) (fun ξ => (noB cs).length - ξ) 0 (by first | omega | (dsimp only; omega)) ((.cons rfl (.cons rfl (.cons rfl (.cons rfl (.cons rfl (.cons rfl (.cons rfl (.cons rfl .nil))))))))) rfl ?_
      rintro q hq
      refine Gx.know (m' := [(0, mv), (5, lv), (8, ptr b31 0), (10, .int .i64 ((i : Nat) : Int)), (68, lv), (69, .int .i64 (((noB cs).length : Nat) : Int)), (11, .int .i64 (hasN x33 ((i : Nat) : Int) (noB cs) (codesS (ss0 money) (noB cs)) q)), (70, .int .i64 ((q : Nat) : Int))]) (.cons rfl (.cons rfl (.cons rfl (.cons rfl (.cons rfl (.cons rfl (.cons rfl (.cons rfl .nil)))))))) (Gx.norm (l' := [Hp.rec_ b31 [.slice sa19 sn20 sc21, .slice sa22 sn23 sc24, .slice sa25 sn26 sc27, .slice sa28 sn29 sc30, .bool dm11]]) rfl ?_)
      have hhb := hasN_bd (x := x33) (i := ((i : Nat) : Int)) hsnd hM0 hM6 q
      have hxb := firstB_ok hbad x33 (List.mem_of_getElem? hx33)
      refine Gx.seq ?_
      refine Gx.region ?_
      refine Gx.val rfl rfl rfl (val_lss rfl rfl rfl) ?_
      refine Gx.done ?_
      refine Gx.thenN ?_
      refine Gx.seq ?_
      refine Gx.dec rfl (fun h34 => ?_) (fun h34 => ?_)
      · refine Gx.skip ?_
        refine Gx.thenN ?_
        refine Gx.seq ?_
        refine Gx.block ?_
        refine Gx.seq ?_
        refine Gx.region ?_
        refine Gx.val rfl rfl rfl (val_move rfl rfl) ?_
        obtain ⟨x35, hx35⟩ := get_of_lt (xs := (noB cs)) (k := q) (by omega)
        refine Gx.val rfl rfl rfl (val_ixa rfl Try.underlying23 Try.ty33 rfl rfl (j := q) (rfl) (reach_base hs18 hx35)) ?_
        refine Gx.val rfl rfl rfl (Val.cast (val_loadA rfl Try.ty33 rfl rfl rfl (cells_base hs18 hx35)) (v' := .agg #[.int .i64 x35.kind, .int .i64 x35.who, .int .i64 x35.oth, .int .i64 x35.n]) rfl) ?_
        refine Gx.eff rfl rfl rfl (eff_alloc rfl Try.ty33 (vs := [.int .i64 0, .int .i64 0, .int .i64 0, .int .i64 0]) rfl) ?_
        rintro _ _ ⟨b36, rfl, rfl⟩
        refine Gx.val rfl rfl rfl (val_assign rfl rfl) ?_
        refine Gx.eff0 rfl rfl (eff_store rfl Try.ty33 rfl rfl (us := [.int .i64 x35.kind, .int .i64 x35.who, .int .i64 x35.oth, .int .i64 x35.n]) rfl rfl rfl (k := 0) rfl (rfl) (vs' := [.int .i64 x35.kind, .int .i64 x35.who, .int .i64 x35.oth, .int .i64 x35.n]) (rfl) (l' := [Hp.rec_ b36 [.int .i64 x35.kind, .int .i64 x35.who, .int .i64 x35.oth, .int .i64 x35.n], Hp.rec_ b31 [.slice sa19 sn20 sc21, .slice sa22 sn23 sc24, .slice sa25 sn26 sc27, .slice sa28 sn29 sc30, .bool dm11]]) rfl) ?_
        rintro _ _ rfl
        refine Gx.done ?_
        refine Gx.thenN ?_
        refine Gx.seq ?_
        refine Gx.region ?_
        refine Gx.val rfl rfl rfl (Val.cast (val_fieldAddr rfl Try.underlying27 rfl Try.ty24 rfl rfl) (v' := ptr b31 0) rfl) ?_
        refine Gx.val rfl rfl rfl (val_load rfl Try.ty24 rfl rfl (cell_rec (k := 1) rfl rfl)) ?_
        refine Gx.val rfl rfl rfl (val_move rfl rfl) ?_
        obtain ⟨x37, hx37⟩ := get_of_lt (xs := (codesS (ss0 money) (noB cs))) (k := q) (by omega)
        refine Gx.val rfl rfl rfl (val_ixa rfl Try.underlying24 Try.ty28 rfl rfl (j := q) (rfl) (reach_base hcv7 hx37)) ?_
        refine Gx.val rfl rfl rfl (val_load rfl Try.ty28 rfl rfl (cell_base (i := 0) hcv7 hx37 rfl)) ?_
        refine Gx.val rfl rfl rfl (val_eql rfl rfl rfl) ?_
        refine Gx.val rfl rfl rfl (val_move rfl rfl) ?_
        refine Gx.cases (t := 81) rfl (fun h38 => ?_) (fun h38 => ?_)
        · refine Gx.valg rfl rfl rfl rfl rfl (Val.cast (val_fieldAddr rfl Try.underlying33 rfl Try.ty3 rfl rfl) (v' := ptr b36 0) rfl) ?_
          refine Gx.valg rfl rfl rfl rfl rfl (val_load rfl Try.ty3 rfl rfl (cell_rec (k := 0) rfl rfl)) ?_
          refine Gx.valg rfl rfl rfl rfl rfl (val_eql rfl rfl rfl) ?_
          refine Gx.val rfl rfl rfl (val_pickT rfl rfl rfl) ?_
          refine Gx.val rfl rfl rfl (val_move rfl rfl) ?_
          refine Gx.cases (t := 86) rfl (fun h39 => ?_) (fun h39 => ?_)
          · refine Gx.valg rfl rfl rfl rfl rfl (Val.cast (val_fieldAddr rfl Try.underlying33 rfl Try.ty3 rfl rfl) (v' := ptr b36 1) rfl) ?_
            refine Gx.valg rfl rfl rfl rfl rfl (val_load rfl Try.ty3 rfl rfl (cell_rec (k := 0) rfl rfl)) ?_
            refine Gx.valg rfl rfl rfl rfl rfl (val_move rfl rfl) ?_
            refine Gx.valg rfl rfl rfl rfl rfl (val_eql rfl rfl rfl) ?_
            refine Gx.val rfl rfl rfl (val_pickT rfl rfl rfl) ?_
            refine Gx.done ?_
            refine Gx.thenN ?_
            refine Gx.dec rfl (fun h40 => ?_) (fun h40 => ?_)
            · have hsn := hsnd q x35 x37 hx35 hx37 (by assumption) (by assumption)
              refine Gx.region ?_
              refine Gx.val rfl rfl rfl (val_move rfl rfl) ?_
              refine Gx.val rfl rfl rfl (Val.cast (val_fieldAddr rfl Try.underlying33 rfl Try.ty3 rfl rfl) (v' := ptr b36 3) rfl) ?_
              refine Gx.val rfl rfl rfl (val_load rfl Try.ty3 rfl rfl (cell_rec (k := 0) rfl rfl)) ?_
              refine Gx.val rfl rfl rfl (val_sub rfl rfl rfl (r := ((hasN x33 ((i : Nat) : Int) (noB cs) (codesS (ss0 money) (noB cs)) q) - x35.n)) (w64 rfl (by omega))) ?_
              refine Gx.val rfl rfl rfl (val_assign rfl rfl) ?_
              refine Gx.done ?_
              refine Gx.blkN ?_
              refine Gx.thenN ?_
              refine Gx.slot (t := 11) (v := .int .i64 (hasN x33 ((i : Nat) : Int) (noB cs) (codesS (ss0 money) (noB cs)) (q + 1))) (by rw [hasN_succ hx35 hx37, if_pos ⟨by assumption, by assumption, by assumption⟩] <;> rfl) ?_
              refine Gx.region ?_
              refine Gx.val rfl rfl rfl (val_add rfl rfl rfl (r := ((q + 1 : Nat) : Int)) (w64 (by omega) (by omega))) ?_
              refine Gx.val rfl rfl rfl (val_move rfl rfl) ?_
              refine Gx.done ?_
              refine Gx.thenN ?_
              refine Gx.drop 0 rfl ?_
              exact Gx.round (q + 1) (by first | omega | (dsimp only; omega)) (by first | omega | (dsimp only; omega)) ((.cons rfl (.cons rfl (.cons rfl (.cons rfl (.cons rfl (.cons rfl (.cons rfl (.cons rfl .nil))))))))) rfl
            · refine Gx.skip ?_
              refine Gx.blkN ?_
              refine Gx.thenN ?_
              refine Gx.slot (t := 11) (v := .int .i64 (hasN x33 ((i : Nat) : Int) (noB cs) (codesS (ss0 money) (noB cs)) (q + 1))) (by rw [hasN_succ hx35 hx37, if_neg (fun q9 => by obtain ⟨u1, u2, u3⟩ := q9; first | exact absurd u1 (by assumption) | exact absurd u2 (by assumption) | exact absurd u3 (by assumption))] <;> rfl) ?_
              refine Gx.region ?_
              refine Gx.val rfl rfl rfl (val_add rfl rfl rfl (r := ((q + 1 : Nat) : Int)) (w64 (by omega) (by omega))) ?_
              refine Gx.val rfl rfl rfl (val_move rfl rfl) ?_
              refine Gx.done ?_
              refine Gx.thenN ?_
              refine Gx.drop 0 rfl ?_
              exact Gx.round (q + 1) (by first | omega | (dsimp only; omega)) (by first | omega | (dsimp only; omega)) ((.cons rfl (.cons rfl (.cons rfl (.cons rfl (.cons rfl (.cons rfl (.cons rfl (.cons rfl .nil))))))))) rfl
          · refine Gx.skipg rfl rfl rfl rfl rfl rfl ?_
            refine Gx.skipg rfl rfl rfl rfl rfl rfl ?_
            refine Gx.skipg rfl rfl rfl rfl rfl rfl ?_
            refine Gx.skipg rfl rfl rfl rfl rfl rfl ?_
            refine Gx.val rfl rfl rfl (val_pickF rfl rfl rfl) ?_
            refine Gx.done ?_
            refine Gx.thenN ?_
            refine Gx.f rfl ?_
            refine Gx.skip ?_
            refine Gx.blkN ?_
            refine Gx.thenN ?_
            refine Gx.slot (t := 11) (v := .int .i64 (hasN x33 ((i : Nat) : Int) (noB cs) (codesS (ss0 money) (noB cs)) (q + 1))) (by rw [hasN_succ hx35 hx37, if_neg (fun q9 => by obtain ⟨u1, u2, u3⟩ := q9; first | exact absurd u1 (by assumption) | exact absurd u2 (by assumption) | exact absurd u3 (by assumption))] <;> rfl) ?_
            refine Gx.region ?_
            refine Gx.val rfl rfl rfl (val_add rfl rfl rfl (r := ((q + 1 : Nat) : Int)) (w64 (by omega) (by omega))) ?_
            refine Gx.val rfl rfl rfl (val_move rfl rfl) ?_
            refine Gx.done ?_
            refine Gx.thenN ?_
            refine Gx.drop 0 rfl ?_
            exact Gx.round (q + 1) (by first | omega | (dsimp only; omega)) (by first | omega | (dsimp only; omega)) ((.cons rfl (.cons rfl (.cons rfl (.cons rfl (.cons rfl (.cons rfl (.cons rfl (.cons rfl .nil))))))))) rfl
        · refine Gx.skipg rfl rfl rfl rfl rfl rfl ?_
          refine Gx.skipg rfl rfl rfl rfl rfl rfl ?_
          refine Gx.skipg rfl rfl rfl rfl rfl rfl ?_
          refine Gx.val rfl rfl rfl (val_pickF rfl rfl rfl) ?_
          refine Gx.val rfl rfl rfl (val_move rfl rfl) ?_
          refine Gx.skipg rfl rfl rfl rfl rfl rfl ?_
          refine Gx.skipg rfl rfl rfl rfl rfl rfl ?_
          refine Gx.skipg rfl rfl rfl rfl rfl rfl ?_
          refine Gx.skipg rfl rfl rfl rfl rfl rfl ?_
          refine Gx.val rfl rfl rfl (val_pickF rfl rfl rfl) ?_
          refine Gx.done ?_
          refine Gx.thenN ?_
          refine Gx.f rfl ?_
          refine Gx.skip ?_
          refine Gx.blkN ?_
          refine Gx.thenN ?_
          refine Gx.slot (t := 11) (v := .int .i64 (hasN x33 ((i : Nat) : Int) (noB cs) (codesS (ss0 money) (noB cs)) (q + 1))) (by rw [hasN_succ hx35 hx37, if_neg (fun q9 => by obtain ⟨u1, u2, u3⟩ := q9; first | exact absurd u1 (by assumption) | exact absurd u2 (by assumption) | exact absurd u3 (by assumption))] <;> rfl) ?_
          refine Gx.region ?_
          refine Gx.val rfl rfl rfl (val_add rfl rfl rfl (r := ((q + 1 : Nat) : Int)) (w64 (by omega) (by omega))) ?_
          refine Gx.val rfl rfl rfl (val_move rfl rfl) ?_
          refine Gx.done ?_
          refine Gx.thenN ?_
          refine Gx.drop 0 rfl ?_
          exact Gx.round (q + 1) (by first | omega | (dsimp only; omega)) (by first | omega | (dsimp only; omega)) ((.cons rfl (.cons rfl (.cons rfl (.cons rfl (.cons rfl (.cons rfl (.cons rfl (.cons rfl .nil))))))))) rfl
      · refine Gx.exit ?_
        refine Gx.thenE ?_
        refine Gx.thenE ?_
        refine Gx.blkE ?_
        refine Gx.thenN ?_
        refine Gx.seq ?_
        refine Gx.region ?_
        refine Gx.val rfl rfl rfl (Val.cast (val_fieldAddr rfl Try.underlying27 rfl Try.ty22 rfl rfl) (v' := ptr b31 2) rfl) ?_
        refine Gx.val rfl rfl rfl (val_load rfl Try.ty22 rfl rfl (cell_rec (k := 0) rfl rfl)) ?_
        refine Gx.val rfl rfl rfl (val_move rfl rfl) ?_
        obtain ⟨x41, hx41⟩ := get_of_lt (xs := ((stS (ss0 money) (noB cs)).ps.map Pr.ow)) (k := i) (by omega)
        refine Gx.val rfl rfl rfl (val_ixa rfl Try.underlying22 Try.ty3 rfl rfl (j := i) (rfl) (reach_base huv9 hx41)) ?_
        refine Gx.val rfl rfl rfl (val_load rfl Try.ty3 rfl rfl (cell_base (i := 0) huv9 hx41 rfl)) ?_
        refine Gx.val rfl rfl rfl (val_neq rfl rfl rfl) ?_
        refine Gx.val rfl rfl rfl (val_move rfl rfl) ?_
        refine Gx.slot (t := 103) (v := .bool false) (look_decF rfl (fun q9 => q9 (by obtain ⟨p, hp, e⟩ := List.mem_map.1 (List.mem_of_getElem? hx41); rw [← e]; exact honly p hp))) ?_
        refine Gx.valg rfl rfl rfl rfl rfl (Val.cast (val_fieldAddr rfl Try.underlying27 rfl Try.ty22 rfl rfl) (v' := ptr b31 1) rfl) ?_
        refine Gx.valg rfl rfl rfl rfl rfl (val_load rfl Try.ty22 rfl rfl (cell_rec (k := 0) rfl rfl)) ?_
        refine Gx.valg rfl rfl rfl rfl rfl (val_move rfl rfl) ?_
        obtain ⟨x42, hx42⟩ := get_of_lt (xs := ((stS (ss0 money) (noB cs)).ps.map Pr.mo)) (k := i) (by omega)
        refine Gx.valg rfl rfl rfl rfl rfl (val_ixa rfl Try.underlying22 Try.ty3 rfl rfl (j := i) (rfl) (reach_base hwv8 hx42)) ?_
        refine Gx.valg rfl rfl rfl rfl rfl (val_load rfl Try.ty3 rfl rfl (cell_base (i := 0) hwv8 hx42 rfl)) ?_
        refine Gx.valg rfl rfl rfl rfl rfl (val_move rfl rfl) ?_
        refine Gx.valg rfl rfl rfl rfl rfl (val_lss rfl rfl rfl) ?_
        refine Gx.val rfl rfl rfl (val_pickF rfl rfl rfl) ?_
        refine Gx.done ?_
        refine Gx.thenN ?_
        refine Gx.decF rfl (by have h9 := none_mo h6 hm0 noB_mem hx33 hx42; rw [show q = (noB cs).length from by omega]; omega) ?_
        refine Gx.skip ?_
        refine Gx.blkN ?_
        refine Gx.thenN ?_
        refine Gx.region ?_
        refine Gx.val rfl rfl rfl (val_move rfl rfl) ?_
        refine Gx.val rfl rfl rfl (val_add rfl rfl rfl (r := ((i + 1 : Nat) : Int)) (w64 (by omega) (by omega))) ?_
        refine Gx.val rfl rfl rfl (val_assign rfl rfl) ?_
        refine Gx.done ?_
        refine Gx.thenN ?_
        exact Gx.round (i + 1) (by first | omega | (dsimp only; omega)) (by first | omega | (dsimp only; omega)) ((.cons rfl (.cons rfl (.cons rfl (.cons rfl .nil))))) rfl
    · refine Gx.exit ?_
      refine Gx.thenE ?_
      refine Gx.thenE ?_
      refine Gx.blkE ?_
      refine Gx.thenN ?_
      refine Gx.seq ?_
      refine Gx.region ?_
      refine Gx.val rfl rfl rfl (val_assign rfl rfl) ?_
      refine Gx.done ?_
      refine Gx.thenN ?_
      refine Gx.ret ?_
      refine Gx.ret1B hW15 Try.results6 rfl ?_
      rfl

theorem none_any {W : World} {mv sv : Value} {money : List Int} {cs : List Mv} (hbig : cs.length * 32 ≤ 140737488351232) (hm : SlS FI 1 W mv money) (hs : SlS FM 4 W sv cs) :
    Calls Try.prog 6 #[mv, sv] W fun e w' => e = .returned (.bool true) ∧ Below W.heap.size W w' := by
  by_cases h : money.length = 0 ∨ 6 < money.length ∨ 120 < (noB cs).length
  · exact none_no1 hbig hm hs h
  · by_cases h2 : 0 ≤ firstB money
    · exact none_no2 hbig hm hs h h2
    · exact none_yes hbig hm hs (by omega) (by omega) (by omega) h2
end Go.Proofs.Ytanipkddfngnnaa
