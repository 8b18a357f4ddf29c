/- All who have not crashed hold the same. The walk. No condition. -/
import Derived.Test.YtmkhjlmhobihmaaM1
import Derived.Test.YtmkhjlmhobihmaaO1
namespace Go.Proofs.Ytmkhjlmhobihmaa
open Go.RowKit
set_option linter.unusedVariables false
set_option linter.unusedSimpArgs false
set_option maxRecDepth 100000

theorem sls_nil {α : Type} (f : α → List Value) (sz : Nat) (w : World) : SlS f sz w (.slice none 0 0) ([] : List α) := OwS.sl (OwS.nil w 0) (Nat.zero_le _)
theorem agrees_no1 {W : World} {vs va : Value} {vals : List Int} {cs : List Cr} (hv : SlS FI 1 W vs vals) (ha : SlS FC 3 W va cs) (hto : ∀ c ∈ cs, c.to_ < 4294967296) {r : Int} (hbad : vals.length = 0 ∨ 6 < vals.length ∨ r < 0 ∨ 6 < r ∨ 6 < cs.length) :
    Calls Try.prog 3 #[vs, .int .i64 r, va] W fun e w' => e = .returned (.bool true) ∧ Below W.heap.size W w' := by
  have m1 := sls_bd ha
  have m2 := sls_bd hv
  refine calls_pure (Gx.enter (l := []) Try.func3 rfl Try.ntmps3 rfl (Sat.start W) ?_)
  refine Gx.know (m' := [(0, vs), (1, .int .i64 r), (2, va)]) (.cons rfl (.cons rfl (.cons rfl .nil))) ?_
  refine Gx.seq ?_
  refine Gx.region ?_
  refine Gx.val rfl rfl rfl (val_assign rfl rfl) ?_
  refine Gx.done ?_
  refine Gx.thenN ?_
  refine Gx.seq ?_
  refine Gx.region ?_
  refine Gx.val rfl rfl rfl (val_move rfl rfl) ?_
  refine Gx.val rfl rfl rfl (val_move rfl rfl) ?_
  refine Gx.val rfl rfl rfl (val_move rfl rfl) ?_
  refine Gx.val rfl rfl rfl (val_call (vs := [vs, .int .i64 r, va]) rfl Try.fn6 rfl (fun w H => play_no1 (hv.below H.below) (ha.below H.below) hbad)) ?_
  refine Gx.val rfl rfl rfl (val_move rfl rfl) ?_
  refine Gx.val rfl rfl rfl (val_extract rfl rfl rfl) ?_
  refine Gx.val rfl rfl rfl (val_extract rfl rfl rfl) ?_
  refine Gx.val rfl rfl rfl (val_assign rfl rfl) ?_
  refine Gx.val rfl rfl rfl (val_assign rfl rfl) ?_
  refine Gx.done ?_
  refine Gx.thenN ?_
  refine Gx.seq ?_
  refine Gx.seq ?_
  refine Gx.region ?_
  refine Gx.val rfl rfl rfl (val_move rfl rfl) ?_
  refine Gx.val rfl rfl rfl (val_move rfl rfl) ?_
  refine Gx.val rfl rfl rfl (val_move rfl rfl) ?_
  refine Gx.val rfl rfl rfl (val_call (vs := [vs, .int .i64 r, va]) rfl Try.fn7 rfl (fun w H => check_no (hv.below H.below) (ha.below H.below) hto hbad)) ?_
  refine Gx.val rfl rfl rfl (Val.cast (val_neq rfl rfl rfl) (v' := .bool true) rfl) ?_
  refine Gx.done ?_
  refine Gx.thenN ?_
  refine Gx.t rfl ?_
  refine Gx.seq ?_
  refine Gx.region ?_
  refine Gx.val rfl rfl rfl (val_move rfl rfl) ?_
  refine Gx.val rfl rfl rfl (Val.cast (val_neq rfl rfl rfl) (v' := .bool true) rfl) ?_
  refine Gx.val rfl rfl rfl (val_assign rfl rfl) ?_
  refine Gx.done ?_
  refine Gx.thenN ?_
  refine Gx.ret ?_
  refine Gx.thenR ?_
  refine Gx.ret1 Try.results3 rfl ?_
  first | rfl | (exact congrArg Value.bool (decide_eq_true (by decide)))

theorem agrees_no2 {W : World} {vs va : Value} {vals : List Int} {cs : List Cr} (hv : SlS FI 1 W vs vals) (ha : SlS FC 3 W va cs) (hto : ∀ c ∈ cs, c.to_ < 4294967296) {R : Nat} (hn1 : 1 ≤ vals.length) (hn6 : vals.length ≤ 6) (hr6 : R ≤ 6) (hc6 : cs.length ≤ 6) (hbad : wrC vals.length cs [] ≠ 0) :
    Calls Try.prog 3 #[vs, .int .i64 ((R : Nat) : Int), va] W fun e w' => e = .returned (.bool true) ∧ Below W.heap.size W w' := by
  have m1 := sls_bd ha
  have m2 := sls_bd hv
  refine calls_pure (Gx.enter (l := []) Try.func3 rfl Try.ntmps3 rfl (Sat.start W) ?_)
  refine Gx.know (m' := [(0, vs), (1, .int .i64 ((R : Nat) : Int)), (2, va)]) (.cons rfl (.cons rfl (.cons rfl .nil))) ?_
  refine Gx.seq ?_
  refine Gx.region ?_
  refine Gx.val rfl rfl rfl (val_assign rfl rfl) ?_
  refine Gx.done ?_
  refine Gx.thenN ?_
  refine Gx.seq ?_
  refine Gx.region ?_
  refine Gx.val rfl rfl rfl (val_move rfl rfl) ?_
  refine Gx.val rfl rfl rfl (val_move rfl rfl) ?_
  refine Gx.val rfl rfl rfl (val_move rfl rfl) ?_
  refine Gx.val rfl rfl rfl (val_call (vs := [vs, .int .i64 ((R : Nat) : Int), va]) rfl Try.fn6 rfl (fun w H => play_no2 (hv.below H.below) (ha.below H.below) hto hn1 hn6 hr6 hc6 hbad)) ?_
  refine Gx.val rfl rfl rfl (val_move rfl rfl) ?_
  refine Gx.val rfl rfl rfl (val_extract rfl rfl rfl) ?_
  refine Gx.val rfl rfl rfl (val_extract rfl rfl rfl) ?_
  refine Gx.val rfl rfl rfl (val_assign rfl rfl) ?_
  refine Gx.val rfl rfl rfl (val_assign rfl rfl) ?_
  refine Gx.done ?_
  refine Gx.thenN ?_
  refine Gx.seq ?_
  refine Gx.seq ?_
  refine Gx.region ?_
  refine Gx.val rfl rfl rfl (val_move rfl rfl) ?_
  refine Gx.val rfl rfl rfl (val_move rfl rfl) ?_
  refine Gx.val rfl rfl rfl (val_move rfl rfl) ?_
  refine Gx.val rfl rfl rfl (val_call (vs := [vs, .int .i64 ((R : Nat) : Int), va]) rfl Try.fn7 rfl (fun w H => check_ok (hv.below H.below) (ha.below H.below) hto hn1 hn6 (by omega) (by omega) hc6)) ?_
  refine Gx.val rfl rfl rfl (val_neq rfl rfl rfl) ?_
  refine Gx.done ?_
  refine Gx.thenN ?_
  refine Gx.decT rfl (hbad) ?_
  refine Gx.seq ?_
  refine Gx.region ?_
  refine Gx.val rfl rfl rfl (val_move rfl rfl) ?_
  refine Gx.val rfl rfl rfl (val_neq rfl rfl rfl) ?_
  refine Gx.val rfl rfl rfl (val_assign rfl rfl) ?_
  refine Gx.done ?_
  refine Gx.thenN ?_
  refine Gx.ret ?_
  refine Gx.thenR ?_
  refine Gx.ret1 Try.results3 rfl ?_
  first | rfl | (exact congrArg Value.bool (decide_eq_true hbad))

theorem agrees_yes {W : World} {vs va : Value} {vals : List Int} {cs : List Cr} (hv : SlS FI 1 W vs vals) (ha : SlS FC 3 W va cs) (hto : ∀ c ∈ cs, c.to_ < 4294967296) {R : Nat} (hn1 : 1 ≤ vals.length) (hn6 : vals.length ≤ 6) (hr6 : R ≤ 6) (hc6 : cs.length ≤ 6) (hin : ∀ x ∈ vals, In x) (hok : wrC vals.length cs [] = 0) :
    Calls Try.prog 3 #[vs, .int .i64 ((R : Nat) : Int), va] W fun e w' => e = .returned (.bool true) ∧ Below W.heap.size W w' := by
  have m1 := sls_bd ha
  have m2 := sls_bd hv
  refine calls_pure (Gx.enter (l := []) Try.func3 rfl Try.ntmps3 rfl (Sat.start W) ?_)
  refine Gx.know (m' := [(0, vs), (1, .int .i64 ((R : Nat) : Int)), (2, va)]) (.cons rfl (.cons rfl (.cons rfl .nil))) ?_
  refine Gx.seq ?_
  refine Gx.region ?_
  refine Gx.val rfl rfl rfl (val_assign rfl rfl) ?_
  refine Gx.done ?_
  refine Gx.thenN ?_
  refine Gx.seq ?_
  refine Gx.region ?_
  refine Gx.val rfl rfl rfl (val_move rfl rfl) ?_
  refine Gx.val rfl rfl rfl (val_move rfl rfl) ?_
  refine Gx.val rfl rfl rfl (val_move rfl rfl) ?_
  refine Gx.callB rfl rfl rfl (vs := [vs, .int .i64 ((R : Nat) : Int), va]) rfl Try.fn6 rfl (R := fun v w' => ∃ lv, v = .tuple #[lv, .int .i64 0] ∧ SlS FI 1 w' lv (lstF cs vals R)) (fun w H => play_ok (hv.below H.below) (ha.below H.below) (hto) (hn1) (hn6) (hr6) (hc6) (hin) (hok)) ?_
  rintro _ W2 ⟨lv1, rfl, hlv1⟩ H3
  have hW4 := H3.below
  have hs5 := hv.below H3.below
  have hs6 := ha.below H3.below
  have hlllv1 : (lstF cs vals R).length = (vals).length := lst_len ..
  refine Gx.val rfl rfl rfl (val_move rfl rfl) ?_
  refine Gx.val rfl rfl rfl (val_extract rfl rfl rfl) ?_
  obtain ⟨sa7, sn8, sc9, rfl⟩ := hlv1.isS
  refine Gx.val rfl rfl rfl (val_extract rfl rfl rfl) ?_
  refine Gx.val rfl rfl rfl (val_assign rfl rfl) ?_
  refine Gx.val rfl rfl rfl (val_assign rfl rfl) ?_
  refine Gx.done ?_
  refine Gx.thenN ?_
  refine Gx.seq ?_
  refine Gx.seq ?_
  refine Gx.region ?_
  refine Gx.val rfl rfl rfl (val_move rfl rfl) ?_
  refine Gx.val rfl rfl rfl (val_move rfl rfl) ?_
  refine Gx.val rfl rfl rfl (val_move rfl rfl) ?_
  refine Gx.val rfl rfl rfl (val_call (vs := [vs, .int .i64 ((R : Nat) : Int), va]) rfl Try.fn7 rfl (fun w H => check_ok (hs5.below H.below) (hs6.below H.below) hto hn1 hn6 (by omega) (by omega) hc6)) ?_
  refine Gx.val rfl rfl rfl (val_neq rfl rfl rfl) ?_
  refine Gx.done ?_
  refine Gx.thenN ?_
  refine Gx.decF rfl (fun q => q hok) ?_
  refine Gx.skip ?_
  refine Gx.thenN ?_
  refine Gx.seq ?_
  refine Gx.seq ?_
  refine Gx.region ?_
  refine Gx.val rfl rfl rfl (val_move rfl rfl) ?_
  refine Gx.val rfl rfl rfl (Val.cast (val_neq rfl rfl rfl) (v' := .bool false) rfl) ?_
  refine Gx.val rfl rfl rfl (val_move rfl rfl) ?_
  refine Gx.valg rfl rfl rfl rfl rfl (val_move rfl rfl) ?_
  refine Gx.valg rfl rfl rfl rfl rfl (val_len rfl Try.underlying22 rfl (len_base hlv1)) ?_
  refine Gx.valg rfl rfl rfl rfl rfl (val_move rfl rfl) ?_
  refine Gx.valg rfl rfl rfl rfl rfl (val_len rfl Try.underlying22 rfl (len_base hs5)) ?_
  refine Gx.valg rfl rfl rfl rfl rfl (val_neq rfl rfl rfl) ?_
  refine Gx.val rfl rfl rfl (val_pickF rfl rfl rfl) ?_
  refine Gx.done ?_
  refine Gx.thenN ?_
  refine Gx.decF rfl (by omega) ?_
  refine Gx.skip ?_
  refine Gx.thenN ?_
  refine Gx.seq ?_
  refine Gx.region ?_
  refine Gx.val rfl rfl rfl (val_assign rfl rfl) ?_
  refine Gx.done ?_
  refine Gx.thenN ?_
  refine Gx.seq ?_
  refine Gx.region ?_
  refine Gx.val rfl rfl rfl (val_assign rfl rfl) ?_
  refine Gx.done ?_
  refine Gx.thenN ?_
  refine Gx.seq ?_
  refine Gx.seq ?_
  refine Gx.region ?_
  refine Gx.val rfl rfl rfl (val_assign rfl rfl) ?_
  refine Gx.done ?_
  refine Gx.thenN ?_
  refine Gx.block ?_
  refine Gx.loop (ι := Nat × Bool × Int) (fun ξ => (ξ.1 ≤ vals.length) ∧ (ξ.2.1 = true → cs.length < R ∧ ∃ j, j < vals.length ∧ (∀ c ∈ cs, c.who ≠ (j : Int)) ∧ (lstF cs vals R)[j]? = some ξ.2.2)) (fun ξ => [(0, vs), (1, .int .i64 ((R : Nat) : Int)), (2, va), (7, .slice sa7 sn8 sc9), (9, .bool ξ.2.1), (10, .int .i64 ξ.2.2), (11, .int .i64 ((ξ.1 : Nat) : Int))]) (fun ξ => []) (fun ξ => vals.length - ξ.1) (0, false, 0) ⟨by first | omega | (dsimp only; omega), fun h => by cases h⟩ ((.cons rfl (.cons rfl (.cons rfl (.cons rfl (.cons rfl (.cons rfl (.cons rfl .nil)))))))) rfl ?_
  rintro ⟨i, sm, hd⟩ ⟨hi, hsm⟩
  dsimp only at hi hsm
  refine Gx.know (m' := [(0, vs), (1, .int .i64 ((R : Nat) : Int)), (2, va), (7, .slice sa7 sn8 sc9), (9, .bool sm), (10, .int .i64 hd), (11, .int .i64 ((i : Nat) : Int))]) (.cons rfl (.cons rfl (.cons rfl (.cons rfl (.cons rfl (.cons rfl (.cons rfl .nil))))))) (Gx.norm (l' := []) rfl ?_)
  refine Gx.seq ?_
  refine Gx.seq ?_
  refine Gx.region ?_
  refine Gx.val rfl rfl rfl (val_move rfl rfl) ?_
  refine Gx.val rfl rfl rfl (val_move rfl rfl) ?_
  refine Gx.val rfl rfl rfl (val_len rfl Try.underlying22 rfl (len_base hs5)) ?_
  refine Gx.val rfl rfl rfl (val_lss rfl rfl rfl) ?_
  refine Gx.done ?_
  refine Gx.thenN ?_
  refine Gx.dec rfl (fun h10 => ?_) (fun h10 => ?_)
  · refine Gx.skip ?_
    refine Gx.thenN ?_
    refine Gx.seq ?_
    refine Gx.block ?_
    refine Gx.seq ?_
    refine Gx.region ?_
    refine Gx.val rfl rfl rfl (val_assign rfl rfl) ?_
    refine Gx.done ?_
    refine Gx.thenN ?_
    refine Gx.seq ?_
    refine Gx.seq ?_
    refine Gx.region ?_
    refine Gx.val rfl rfl rfl (val_move rfl rfl) ?_
    refine Gx.val rfl rfl rfl (val_len rfl Try.underlying23 rfl (len_base hs6)) ?_
    refine Gx.val rfl rfl rfl (val_move rfl rfl) ?_
    refine Gx.done ?_
    refine Gx.thenN ?_
    refine Gx.block ?_
    refine Gx.loop (ι := Nat × Bool) (fun ξ => (ξ.1 ≤ cs.length) ∧ (ξ.2 = false → ∀ (c : Cr) (q : Nat), q < ξ.1 → cs[q]? = some c → c.who ≠ (i : Int))) (fun ξ => [(0, vs), (1, .int .i64 ((R : Nat) : Int)), (2, va), (7, .slice sa7 sn8 sc9), (9, .bool sm), (10, .int .i64 hd), (11, .int .i64 ((i : Nat) : Int)), (46, va), (47, .int .i64 ((cs.length : Nat) : Int)), (48, .int .i64 ((ξ.1 : Nat) : Int)), (12, .bool ξ.2)]) (fun ξ => []) (fun ξ => cs.length - ξ.1) (0, false) ⟨by first | omega | (dsimp only; omega), fun _ c q hq => absurd hq (Nat.not_lt_zero _)⟩ ((.cons rfl (.cons rfl (.cons rfl (.cons rfl (.cons rfl (.cons rfl (.cons rfl (.cons rfl (.cons rfl (.cons rfl (.cons rfl .nil)))))))))))) rfl ?_
    rintro ⟨k, cr⟩ ⟨hk, hcr⟩
    dsimp only at hk hcr
    refine Gx.know (m' := [(0, vs), (1, .int .i64 ((R : Nat) : Int)), (2, va), (7, .slice sa7 sn8 sc9), (9, .bool sm), (10, .int .i64 hd), (11, .int .i64 ((i : Nat) : Int)), (46, va), (47, .int .i64 ((cs.length : Nat) : Int)), (48, .int .i64 ((k : Nat) : Int)), (12, .bool cr)]) (.cons rfl (.cons rfl (.cons rfl (.cons rfl (.cons rfl (.cons rfl (.cons rfl (.cons rfl (.cons rfl (.cons rfl (.cons rfl .nil))))))))))) (Gx.norm (l' := []) rfl ?_)
    refine Gx.seq ?_
    refine Gx.region ?_
    refine Gx.val rfl rfl rfl (val_lss rfl rfl rfl) ?_
    refine Gx.done ?_
    refine Gx.thenN ?_
    refine Gx.seq ?_
    refine Gx.dec rfl (fun h11 => ?_) (fun h11 => ?_)
    · refine Gx.skip ?_
      refine Gx.thenN ?_
      refine Gx.seq ?_
      refine Gx.block ?_
      refine Gx.seq ?_
      refine Gx.region ?_
      obtain ⟨x12, hx12⟩ := get_of_lt (xs := cs) (k := k) (by omega)
      refine Gx.val rfl rfl rfl (val_ixa rfl Try.underlying23 Try.ty30 rfl rfl (j := k) (rfl) (reach_base hs6 hx12)) ?_
      refine Gx.val rfl rfl rfl (Val.cast (val_loadA rfl Try.ty30 rfl rfl rfl (cells_base hs6 hx12)) (v' := .agg #[.int .i64 x12.who, .int .i64 x12.rnd, .int .u32 ((x12.to_ : Nat) : Int)]) rfl) ?_
      refine Gx.eff rfl rfl rfl (eff_alloc rfl Try.ty30 (vs := [.int .i64 0, .int .i64 0, .int .u32 0]) rfl) ?_
      rintro _ _ ⟨b13, rfl, rfl⟩
      refine Gx.eff0 rfl rfl (eff_store rfl Try.ty30 rfl rfl (us := [.int .i64 x12.who, .int .i64 x12.rnd, .int .u32 ((x12.to_ : Nat) : Int)]) rfl rfl rfl (k := 0) rfl (rfl) (vs' := [.int .i64 x12.who, .int .i64 x12.rnd, .int .u32 ((x12.to_ : Nat) : Int)]) (rfl) (l' := [Hp.rec_ b13 [.int .i64 x12.who, .int .i64 x12.rnd, .int .u32 ((x12.to_ : Nat) : Int)]]) rfl) ?_
      rintro _ _ rfl
      refine Gx.done ?_
      refine Gx.thenN ?_
      refine Gx.region ?_
      refine Gx.val rfl rfl rfl (val_move rfl rfl) ?_
      refine Gx.val rfl rfl rfl (val_move rfl rfl) ?_
      refine Gx.casesB (t := 53) rfl (fun h14 => ?_) (fun h14 => ?_)
      · refine Gx.skipg rfl rfl rfl rfl rfl rfl ?_
        refine Gx.skipg rfl rfl rfl rfl rfl rfl ?_
        refine Gx.skipg rfl rfl rfl rfl rfl rfl ?_
        refine Gx.skipg rfl rfl rfl rfl rfl rfl ?_
        refine Gx.val rfl rfl rfl (val_pickT rfl rfl rfl) ?_
        refine Gx.val rfl rfl rfl (val_assign rfl rfl) ?_
        refine Gx.done ?_
        refine Gx.blkN ?_
        refine Gx.thenN ?_
        refine Gx.region ?_
        refine Gx.val rfl rfl rfl (val_add rfl rfl rfl (r := ((k + 1 : Nat) : Int)) (w64 (by omega) (by omega))) ?_
        refine Gx.val rfl rfl rfl (val_move rfl rfl) ?_
        refine Gx.done ?_
        refine Gx.thenN ?_
        refine Gx.drop 0 rfl ?_
        exact Gx.round (k + 1, true) ⟨by first | omega | (dsimp only; omega), fun h => by cases h⟩ (by first | omega | (dsimp only; omega)) ((.cons rfl (.cons rfl (.cons rfl (.cons rfl (.cons rfl (.cons rfl (.cons rfl (.cons rfl (.cons rfl (.cons rfl (.cons rfl .nil)))))))))))) rfl
      · refine Gx.valg rfl rfl rfl rfl rfl (Val.cast (val_fieldAddr rfl Try.underlying30 rfl Try.ty3 rfl rfl) (v' := ptr b13 0) rfl) ?_
        refine Gx.valg rfl rfl rfl rfl rfl (val_load rfl Try.ty3 rfl rfl (cell_rec (k := 0) rfl rfl)) ?_
        refine Gx.valg rfl rfl rfl rfl rfl (val_move rfl rfl) ?_
        refine Gx.valg rfl rfl rfl rfl rfl (val_eql rfl rfl rfl) ?_
        refine Gx.val rfl rfl rfl (val_pickF rfl rfl rfl) ?_
        refine Gx.val rfl rfl rfl (val_assign rfl rfl) ?_
        refine Gx.done ?_
        refine Gx.blkN ?_
        refine Gx.thenN ?_
        refine Gx.region ?_
        refine Gx.val rfl rfl rfl (val_add rfl rfl rfl (r := ((k + 1 : Nat) : Int)) (w64 (by omega) (by omega))) ?_
        refine Gx.val rfl rfl rfl (val_move rfl rfl) ?_
        refine Gx.done ?_
        refine Gx.thenN ?_
        refine Gx.drop 0 rfl ?_
        exact Gx.round (k + 1, decide (x12.who = ((i : Nat) : Int))) ⟨by first | omega | (dsimp only; omega), fun h c q hq hc => by rcases Nat.lt_or_eq_of_le (Nat.le_of_lt_succ hq) with e | e; (exact hcr h14 c q e hc); (subst e; rw [hx12] at hc; cases hc; exact of_decide_eq_false h)⟩ (by first | omega | (dsimp only; omega)) ((.cons rfl (.cons rfl (.cons rfl (.cons rfl (.cons rfl (.cons rfl (.cons rfl (.cons rfl (.cons rfl (.cons rfl (.cons rfl .nil)))))))))))) rfl
    · refine Gx.exit ?_
      refine Gx.thenE ?_
      refine Gx.thenE ?_
      refine Gx.blkE ?_
      refine Gx.thenN ?_
      refine Gx.seq ?_
      refine Gx.seq ?_
      obtain ⟨y, hy⟩ := get_of_lt (xs := (lstF cs vals R)) (k := i) (by omega)
      obtain ⟨x, hx⟩ := get_of_lt (xs := vals) (k := i) (by omega)
      have hym := ag_mem (by omega) hy
      have hyx := ag_le hx hy
      refine Gx.regionQ Try.mixed (by kernel_rfl) ?_
      refine Gq.val rfl rfl rfl (val_move rfl rfl) ?_
      refine Gq.val rfl rfl rfl (val_move rfl rfl) ?_
      refine Gq.val rfl rfl rfl (val_move rfl rfl) ?_
      refine Gq.val rfl rfl rfl (val_ixa rfl Try.underlying22 Try.ty3 rfl rfl (j := i) (rfl) (reach_base hlv1 hy)) ?_
      refine Gq.val rfl rfl rfl (val_load rfl Try.ty3 rfl rfl (cell_base (i := 0) hlv1 hy rfl)) ?_
      refine Gq.val rfl rfl rfl (val_call (vs := [vs, .int .i64 y]) rfl Try.fn8 rfl (fun w H => pos_in (hs5.below H.below) hym)) ?_
      refine Gq.val rfl rfl rfl (val_lss rfl rfl rfl) ?_
      refine Gq.val rfl rfl rfl (val_move rfl rfl) ?_
      refine Gq.slot (t := 67) (v := .bool false) (look_decF rfl (by omega)) ?_
      refine Gq.valg rfl rfl rfl rfl rfl (val_move rfl rfl) ?_
      refine Gq.valg rfl rfl rfl rfl rfl (val_move rfl rfl) ?_
      refine Gq.valg rfl rfl rfl rfl rfl (val_ixa rfl Try.underlying22 Try.ty3 rfl rfl (j := i) (rfl) (reach_base hlv1 hy)) ?_
      refine Gq.valg rfl rfl rfl rfl rfl (val_load rfl Try.ty3 rfl rfl (cell_base (i := 0) hlv1 hy rfl)) ?_
      refine Gq.valg rfl rfl rfl rfl rfl (val_move rfl rfl) ?_
      refine Gq.valg rfl rfl rfl rfl rfl (val_move rfl rfl) ?_
      refine Gq.valg rfl rfl rfl rfl rfl (val_ixa rfl Try.underlying22 Try.ty3 rfl rfl (j := i) (rfl) (reach_base hs5 hx)) ?_
      refine Gq.valg rfl rfl rfl rfl rfl (val_load rfl Try.ty3 rfl rfl (cell_base (i := 0) hs5 hx rfl)) ?_
      refine Gq.valg rfl rfl rfl rfl rfl (val_gtr rfl rfl rfl) ?_
      refine Gq.val rfl rfl rfl (val_pickF rfl rfl rfl) ?_
      refine Gq.done ?_
      refine Gx.thenN ?_
      refine Gx.decF rfl (by omega) ?_
      refine Gx.skip ?_
      refine Gx.thenN ?_
      refine Gx.seq ?_
      refine Gx.seq ?_
      refine Gx.region ?_
      refine Gx.val rfl rfl rfl (val_move rfl rfl) ?_
      refine Gx.val rfl rfl rfl (val_not rfl rfl) ?_
      refine Gx.val rfl rfl rfl (val_move rfl rfl) ?_
      refine Gx.casesB (t := 80) rfl (fun h15 => ?_) (fun h15 => ?_)
      · refine Gx.valg rfl rfl rfl rfl rfl (val_move rfl rfl) ?_
        refine Gx.valg rfl rfl rfl rfl rfl (val_move rfl rfl) ?_
        refine Gx.valg rfl rfl rfl rfl rfl (val_len rfl Try.underlying23 rfl (len_base hs6)) ?_
        refine Gx.valg rfl rfl rfl rfl rfl (val_gtr rfl rfl rfl) ?_
        refine Gx.val rfl rfl rfl (val_pickT rfl rfl rfl) ?_
        refine Gx.done ?_
        refine Gx.thenN ?_
        refine Gx.dec rfl (fun h16 => ?_) (fun h16 => ?_)
        · refine Gx.seq ?_
          refine Gx.seq ?_
          have hno : ∀ c ∈ cs, c.who ≠ (i : Int) := fun c hc => by obtain ⟨q, hq⟩ := List.getElem?_of_mem hc; exact hcr (by simpa using h15) c q (by have := (List.getElem?_eq_some_iff.1 hq).1; omega) hq
          refine Gx.region ?_
          refine Gx.val rfl rfl rfl (val_move rfl rfl) ?_
          refine Gx.val rfl rfl rfl (val_move rfl rfl) ?_
          refine Gx.casesB (t := 87) rfl (fun h17 => ?_) (fun h17 => ?_)
          · refine Gx.valg rfl rfl rfl rfl rfl (val_move rfl rfl) ?_
            refine Gx.valg rfl rfl rfl rfl rfl (val_move rfl rfl) ?_
            refine Gx.valg rfl rfl rfl rfl rfl (val_ixa rfl Try.underlying22 Try.ty3 rfl rfl (j := i) (rfl) (reach_base hlv1 hy)) ?_
            refine Gx.valg rfl rfl rfl rfl rfl (val_load rfl Try.ty3 rfl rfl (cell_base (i := 0) hlv1 hy rfl)) ?_
            refine Gx.valg rfl rfl rfl rfl rfl (val_move rfl rfl) ?_
            refine Gx.valg rfl rfl rfl rfl rfl (val_neq rfl rfl rfl) ?_
            refine Gx.val rfl rfl rfl (val_pickT rfl rfl rfl) ?_
            refine Gx.done ?_
            refine Gx.thenN ?_
            refine Gx.decF rfl (fun q => q (by obtain ⟨h1, j, h2, h3, h4⟩ := hsm h17; exact ag_same h1 (by omega) h2 hno h3 hy h4)) ?_
            refine Gx.skip ?_
            refine Gx.thenN ?_
            refine Gx.seq ?_
            refine Gx.region ?_
            refine Gx.val rfl rfl rfl (val_assign rfl rfl) ?_
            refine Gx.done ?_
            refine Gx.thenN ?_
            refine Gx.region ?_
            refine Gx.val rfl rfl rfl (val_move rfl rfl) ?_
            refine Gx.val rfl rfl rfl (val_move rfl rfl) ?_
            refine Gx.val rfl rfl rfl (val_ixa rfl Try.underlying22 Try.ty3 rfl rfl (j := i) (rfl) (reach_base hlv1 hy)) ?_
            refine Gx.val rfl rfl rfl (val_load rfl Try.ty3 rfl rfl (cell_base (i := 0) hlv1 hy rfl)) ?_
            refine Gx.val rfl rfl rfl (val_assign rfl rfl) ?_
            refine Gx.done ?_
            refine Gx.thenN ?_
            refine Gx.seq ?_
            refine Gx.region ?_
            refine Gx.val rfl rfl rfl (val_move rfl rfl) ?_
            refine Gx.val rfl rfl rfl (val_len rfl Try.underlying23 rfl (len_base hs6)) ?_
            refine Gx.val rfl rfl rfl (val_eql rfl rfl rfl) ?_
            refine Gx.val rfl rfl rfl (val_move rfl rfl) ?_
            refine Gx.cases (t := 102) rfl (fun h18 => ?_) (fun h18 => ?_)
            · refine Gx.valg rfl rfl rfl rfl rfl (val_move rfl rfl) ?_
              refine Gx.valg rfl rfl rfl rfl rfl (val_gtr rfl rfl rfl) ?_
              refine Gx.val rfl rfl rfl (val_pickT rfl rfl rfl) ?_
              refine Gx.done ?_
              refine Gx.thenN ?_
              refine Gx.dec rfl (fun h19 => ?_) (fun h19 => ?_)
              · refine Gx.seq ?_
                refine Gx.region ?_
                refine Gx.val rfl rfl rfl (val_move rfl rfl) ?_
                refine Gx.val rfl rfl rfl (val_len rfl Try.underlying22 rfl (len_base hs5)) ?_
                refine Gx.val rfl rfl rfl (val_move rfl rfl) ?_
                refine Gx.done ?_
                refine Gx.thenN ?_
                refine Gx.block ?_
                refine Gx.loop (ι := Nat) (fun ξ => (ξ ≤ vals.length)) (fun ξ => [(0, vs), (1, .int .i64 ((R : Nat) : Int)), (2, va), (7, .slice sa7 sn8 sc9), (9, .bool true), (10, .int .i64 y), (11, .int .i64 ((i : Nat) : Int)), (106, vs), (107, .int .i64 ((vals.length : Nat) : Int)), (108, .int .i64 ((ξ : Nat) : Int))]) (fun ξ => []) (fun ξ => vals.length - ξ) 0 (by first | omega | (dsimp only; omega)) ((.cons rfl (.cons rfl (.cons rfl (.cons rfl (.cons rfl (.cons rfl (.cons rfl (.cons rfl (.cons rfl (.cons rfl .nil))))))))))) rfl ?_
                rintro k2 hk2
                refine Gx.know (m' := [(0, vs), (1, .int .i64 ((R : Nat) : Int)), (2, va), (7, .slice sa7 sn8 sc9), (9, .bool true), (10, .int .i64 y), (11, .int .i64 ((i : Nat) : Int)), (106, vs), (107, .int .i64 ((vals.length : Nat) : Int)), (108, .int .i64 ((k2 : Nat) : Int))]) (.cons rfl (.cons rfl (.cons rfl (.cons rfl (.cons rfl (.cons rfl (.cons rfl (.cons rfl (.cons rfl (.cons rfl .nil)))))))))) (Gx.norm (l' := []) rfl ?_)
                refine Gx.seq ?_
                refine Gx.region ?_
                refine Gx.val rfl rfl rfl (val_lss rfl rfl rfl) ?_
                refine Gx.done ?_
                refine Gx.thenN ?_
                refine Gx.seq ?_
                refine Gx.dec rfl (fun h20 => ?_) (fun h20 => ?_)
                · refine Gx.skip ?_
                  refine Gx.thenN ?_
                  refine Gx.seq ?_
                  refine Gx.block ?_
                  refine Gx.seq ?_
                  refine Gx.region ?_
                  obtain ⟨x21, hx21⟩ := get_of_lt (xs := vals) (k := k2) (by omega)
                  refine Gx.val rfl rfl rfl (val_ixa rfl Try.underlying22 Try.ty3 rfl rfl (j := k2) (rfl) (reach_base hs5 hx21)) ?_
                  refine Gx.val rfl rfl rfl (val_load rfl Try.ty3 rfl rfl (cell_base (i := 0) hs5 hx21 rfl)) ?_
                  refine Gx.val rfl rfl rfl (val_assign rfl rfl) ?_
                  refine Gx.done ?_
                  refine Gx.thenN ?_
                  refine Gx.seq ?_
                  have hcs : cs = [] := List.eq_nil_of_length_eq_zero (by omega)
                  have hyv : y ≤ x21 := by subst hcs; exact ag_none (by omega) (by omega) hy hx21
                  refine Gx.region ?_
                  refine Gx.val rfl rfl rfl (val_move rfl rfl) ?_
                  refine Gx.val rfl rfl rfl (val_move rfl rfl) ?_
                  refine Gx.val rfl rfl rfl (val_ixa rfl Try.underlying22 Try.ty3 rfl rfl (j := i) (rfl) (reach_base hlv1 hy)) ?_
                  refine Gx.val rfl rfl rfl (val_load rfl Try.ty3 rfl rfl (cell_base (i := 0) hlv1 hy rfl)) ?_
                  refine Gx.val rfl rfl rfl (val_move rfl rfl) ?_
                  refine Gx.val rfl rfl rfl (val_gtr rfl rfl rfl) ?_
                  refine Gx.done ?_
                  refine Gx.thenN ?_
                  refine Gx.decF rfl (by omega) ?_
                  refine Gx.skip ?_
                  refine Gx.blkN ?_
                  refine Gx.thenN ?_
                  refine Gx.region ?_
                  refine Gx.val rfl rfl rfl (val_add rfl rfl rfl (r := ((k2 + 1 : Nat) : Int)) (w64 (by omega) (by omega))) ?_
                  refine Gx.val rfl rfl rfl (val_move rfl rfl) ?_
                  refine Gx.done ?_
                  refine Gx.thenN ?_
                  exact Gx.round (k2 + 1) (by first | omega | (dsimp only; omega)) (by first | omega | (dsimp only; omega)) ((.cons rfl (.cons rfl (.cons rfl (.cons rfl (.cons rfl (.cons rfl (.cons rfl (.cons rfl (.cons rfl (.cons rfl .nil))))))))))) rfl
                · refine Gx.exit ?_
                  refine Gx.thenE ?_
                  refine Gx.thenE ?_
                  refine Gx.blkE ?_
                  refine Gx.blkN ?_
                  refine Gx.thenN ?_
                  refine Gx.region ?_
                  refine Gx.val rfl rfl rfl (val_move rfl rfl) ?_
                  refine Gx.val rfl rfl rfl (val_add rfl rfl rfl (r := ((i + 1 : Nat) : Int)) (w64 (by omega) (by omega))) ?_
                  refine Gx.val rfl rfl rfl (val_assign rfl rfl) ?_
                  refine Gx.done ?_
                  refine Gx.thenN ?_
                  exact Gx.round (i + 1, true, y) ⟨by first | omega | (dsimp only; omega), fun _ => ⟨by omega, i, by omega, hno, hy⟩⟩ (by first | omega | (dsimp only; omega)) ((.cons rfl (.cons rfl (.cons rfl (.cons rfl (.cons rfl (.cons rfl (.cons rfl .nil)))))))) rfl
              · refine Gx.skip ?_
                refine Gx.blkN ?_
                refine Gx.thenN ?_
                refine Gx.region ?_
                refine Gx.val rfl rfl rfl (val_move rfl rfl) ?_
                refine Gx.val rfl rfl rfl (val_add rfl rfl rfl (r := ((i + 1 : Nat) : Int)) (w64 (by omega) (by omega))) ?_
                refine Gx.val rfl rfl rfl (val_assign rfl rfl) ?_
                refine Gx.done ?_
                refine Gx.thenN ?_
                exact Gx.round (i + 1, true, y) ⟨by first | omega | (dsimp only; omega), fun _ => ⟨by omega, i, by omega, hno, hy⟩⟩ (by first | omega | (dsimp only; omega)) ((.cons rfl (.cons rfl (.cons rfl (.cons rfl (.cons rfl (.cons rfl (.cons rfl .nil)))))))) rfl
            · refine Gx.skipg rfl rfl rfl rfl rfl rfl ?_
              refine Gx.skipg rfl rfl rfl rfl rfl rfl ?_
              refine Gx.val rfl rfl rfl (val_pickF rfl rfl rfl) ?_
              refine Gx.done ?_
              refine Gx.thenN ?_
              refine Gx.f rfl ?_
              refine Gx.skip ?_
              refine Gx.blkN ?_
              refine Gx.thenN ?_
              refine Gx.region ?_
              refine Gx.val rfl rfl rfl (val_move rfl rfl) ?_
              refine Gx.val rfl rfl rfl (val_add rfl rfl rfl (r := ((i + 1 : Nat) : Int)) (w64 (by omega) (by omega))) ?_
              refine Gx.val rfl rfl rfl (val_assign rfl rfl) ?_
              refine Gx.done ?_
              refine Gx.thenN ?_
              exact Gx.round (i + 1, true, y) ⟨by first | omega | (dsimp only; omega), fun _ => ⟨by omega, i, by omega, hno, hy⟩⟩ (by first | omega | (dsimp only; omega)) ((.cons rfl (.cons rfl (.cons rfl (.cons rfl (.cons rfl (.cons rfl (.cons rfl .nil)))))))) rfl
          · refine Gx.skipg rfl rfl rfl rfl rfl rfl ?_
            refine Gx.skipg rfl rfl rfl rfl rfl rfl ?_
            refine Gx.skipg rfl rfl rfl rfl rfl rfl ?_
            refine Gx.skipg rfl rfl rfl rfl rfl rfl ?_
            refine Gx.skipg rfl rfl rfl rfl rfl rfl ?_
            refine Gx.skipg rfl rfl rfl rfl rfl rfl ?_
            refine Gx.val rfl rfl rfl (val_pickF rfl rfl rfl) ?_
            refine Gx.done ?_
            refine Gx.thenN ?_
            refine Gx.f rfl ?_
            refine Gx.skip ?_
            refine Gx.thenN ?_
            refine Gx.seq ?_
            refine Gx.region ?_
            refine Gx.val rfl rfl rfl (val_assign rfl rfl) ?_
            refine Gx.done ?_
            refine Gx.thenN ?_
            refine Gx.region ?_
            refine Gx.val rfl rfl rfl (val_move rfl rfl) ?_
            refine Gx.val rfl rfl rfl (val_move rfl rfl) ?_
            refine Gx.val rfl rfl rfl (val_ixa rfl Try.underlying22 Try.ty3 rfl rfl (j := i) (rfl) (reach_base hlv1 hy)) ?_
            refine Gx.val rfl rfl rfl (val_load rfl Try.ty3 rfl rfl (cell_base (i := 0) hlv1 hy rfl)) ?_
            refine Gx.val rfl rfl rfl (val_assign rfl rfl) ?_
            refine Gx.done ?_
            refine Gx.thenN ?_
            refine Gx.seq ?_
            refine Gx.region ?_
            refine Gx.val rfl rfl rfl (val_move rfl rfl) ?_
            refine Gx.val rfl rfl rfl (val_len rfl Try.underlying23 rfl (len_base hs6)) ?_
            refine Gx.val rfl rfl rfl (val_eql rfl rfl rfl) ?_
            refine Gx.val rfl rfl rfl (val_move rfl rfl) ?_
            refine Gx.cases (t := 102) rfl (fun h22 => ?_) (fun h22 => ?_)
            · refine Gx.valg rfl rfl rfl rfl rfl (val_move rfl rfl) ?_
              refine Gx.valg rfl rfl rfl rfl rfl (val_gtr rfl rfl rfl) ?_
              refine Gx.val rfl rfl rfl (val_pickT rfl rfl rfl) ?_
              refine Gx.done ?_
              refine Gx.thenN ?_
              refine Gx.dec rfl (fun h23 => ?_) (fun h23 => ?_)
              · refine Gx.seq ?_
                refine Gx.region ?_
                refine Gx.val rfl rfl rfl (val_move rfl rfl) ?_
                refine Gx.val rfl rfl rfl (val_len rfl Try.underlying22 rfl (len_base hs5)) ?_
                refine Gx.val rfl rfl rfl (val_move rfl rfl) ?_
                refine Gx.done ?_
                refine Gx.thenN ?_
                refine Gx.block ?_
                refine Gx.loop (ι := Nat) (fun ξ => (ξ ≤ vals.length)) (fun ξ => [(0, vs), (1, .int .i64 ((R : Nat) : Int)), (2, va), (7, .slice sa7 sn8 sc9), (9, .bool true), (10, .int .i64 y), (11, .int .i64 ((i : Nat) : Int)), (106, vs), (107, .int .i64 ((vals.length : Nat) : Int)), (108, .int .i64 ((ξ : Nat) : Int))]) (fun ξ => []) (fun ξ => vals.length - ξ) 0 (by first | omega | (dsimp only; omega)) ((.cons rfl (.cons rfl (.cons rfl (.cons rfl (.cons rfl (.cons rfl (.cons rfl (.cons rfl (.cons rfl (.cons rfl .nil))))))))))) rfl ?_
                rintro k2 hk2
                refine Gx.know (m' := [(0, vs), (1, .int .i64 ((R : Nat) : Int)), (2, va), (7, .slice sa7 sn8 sc9), (9, .bool true), (10, .int .i64 y), (11, .int .i64 ((i : Nat) : Int)), (106, vs), (107, .int .i64 ((vals.length : Nat) : Int)), (108, .int .i64 ((k2 : Nat) : Int))]) (.cons rfl (.cons rfl (.cons rfl (.cons rfl (.cons rfl (.cons rfl (.cons rfl (.cons rfl (.cons rfl (.cons rfl .nil)))))))))) (Gx.norm (l' := []) rfl ?_)
                refine Gx.seq ?_
                refine Gx.region ?_
                refine Gx.val rfl rfl rfl (val_lss rfl rfl rfl) ?_
                refine Gx.done ?_
                refine Gx.thenN ?_
                refine Gx.seq ?_
                refine Gx.dec rfl (fun h24 => ?_) (fun h24 => ?_)
                · refine Gx.skip ?_
                  refine Gx.thenN ?_
                  refine Gx.seq ?_
                  refine Gx.block ?_
                  refine Gx.seq ?_
                  refine Gx.region ?_
                  obtain ⟨x25, hx25⟩ := get_of_lt (xs := vals) (k := k2) (by omega)
                  refine Gx.val rfl rfl rfl (val_ixa rfl Try.underlying22 Try.ty3 rfl rfl (j := k2) (rfl) (reach_base hs5 hx25)) ?_
                  refine Gx.val rfl rfl rfl (val_load rfl Try.ty3 rfl rfl (cell_base (i := 0) hs5 hx25 rfl)) ?_
                  refine Gx.val rfl rfl rfl (val_assign rfl rfl) ?_
                  refine Gx.done ?_
                  refine Gx.thenN ?_
                  refine Gx.seq ?_
                  have hcs : cs = [] := List.eq_nil_of_length_eq_zero (by omega)
                  have hyv : y ≤ x25 := by subst hcs; exact ag_none (by omega) (by omega) hy hx25
                  refine Gx.region ?_
                  refine Gx.val rfl rfl rfl (val_move rfl rfl) ?_
                  refine Gx.val rfl rfl rfl (val_move rfl rfl) ?_
                  refine Gx.val rfl rfl rfl (val_ixa rfl Try.underlying22 Try.ty3 rfl rfl (j := i) (rfl) (reach_base hlv1 hy)) ?_
                  refine Gx.val rfl rfl rfl (val_load rfl Try.ty3 rfl rfl (cell_base (i := 0) hlv1 hy rfl)) ?_
                  refine Gx.val rfl rfl rfl (val_move rfl rfl) ?_
                  refine Gx.val rfl rfl rfl (val_gtr rfl rfl rfl) ?_
                  refine Gx.done ?_
                  refine Gx.thenN ?_
                  refine Gx.decF rfl (by omega) ?_
                  refine Gx.skip ?_
                  refine Gx.blkN ?_
                  refine Gx.thenN ?_
                  refine Gx.region ?_
                  refine Gx.val rfl rfl rfl (val_add rfl rfl rfl (r := ((k2 + 1 : Nat) : Int)) (w64 (by omega) (by omega))) ?_
                  refine Gx.val rfl rfl rfl (val_move rfl rfl) ?_
                  refine Gx.done ?_
                  refine Gx.thenN ?_
                  exact Gx.round (k2 + 1) (by first | omega | (dsimp only; omega)) (by first | omega | (dsimp only; omega)) ((.cons rfl (.cons rfl (.cons rfl (.cons rfl (.cons rfl (.cons rfl (.cons rfl (.cons rfl (.cons rfl (.cons rfl .nil))))))))))) rfl
                · refine Gx.exit ?_
                  refine Gx.thenE ?_
                  refine Gx.thenE ?_
                  refine Gx.blkE ?_
                  refine Gx.blkN ?_
                  refine Gx.thenN ?_
                  refine Gx.region ?_
                  refine Gx.val rfl rfl rfl (val_move rfl rfl) ?_
                  refine Gx.val rfl rfl rfl (val_add rfl rfl rfl (r := ((i + 1 : Nat) : Int)) (w64 (by omega) (by omega))) ?_
                  refine Gx.val rfl rfl rfl (val_assign rfl rfl) ?_
                  refine Gx.done ?_
                  refine Gx.thenN ?_
                  exact Gx.round (i + 1, true, y) ⟨by first | omega | (dsimp only; omega), fun _ => ⟨by omega, i, by omega, hno, hy⟩⟩ (by first | omega | (dsimp only; omega)) ((.cons rfl (.cons rfl (.cons rfl (.cons rfl (.cons rfl (.cons rfl (.cons rfl .nil)))))))) rfl
              · refine Gx.skip ?_
                refine Gx.blkN ?_
                refine Gx.thenN ?_
                refine Gx.region ?_
                refine Gx.val rfl rfl rfl (val_move rfl rfl) ?_
                refine Gx.val rfl rfl rfl (val_add rfl rfl rfl (r := ((i + 1 : Nat) : Int)) (w64 (by omega) (by omega))) ?_
                refine Gx.val rfl rfl rfl (val_assign rfl rfl) ?_
                refine Gx.done ?_
                refine Gx.thenN ?_
                exact Gx.round (i + 1, true, y) ⟨by first | omega | (dsimp only; omega), fun _ => ⟨by omega, i, by omega, hno, hy⟩⟩ (by first | omega | (dsimp only; omega)) ((.cons rfl (.cons rfl (.cons rfl (.cons rfl (.cons rfl (.cons rfl (.cons rfl .nil)))))))) rfl
            · refine Gx.skipg rfl rfl rfl rfl rfl rfl ?_
              refine Gx.skipg rfl rfl rfl rfl rfl rfl ?_
              refine Gx.val rfl rfl rfl (val_pickF rfl rfl rfl) ?_
              refine Gx.done ?_
              refine Gx.thenN ?_
              refine Gx.f rfl ?_
              refine Gx.skip ?_
              refine Gx.blkN ?_
              refine Gx.thenN ?_
              refine Gx.region ?_
              refine Gx.val rfl rfl rfl (val_move rfl rfl) ?_
              refine Gx.val rfl rfl rfl (val_add rfl rfl rfl (r := ((i + 1 : Nat) : Int)) (w64 (by omega) (by omega))) ?_
              refine Gx.val rfl rfl rfl (val_assign rfl rfl) ?_
              refine Gx.done ?_
              refine Gx.thenN ?_
              exact Gx.round (i + 1, true, y) ⟨by first | omega | (dsimp only; omega), fun _ => ⟨by omega, i, by omega, hno, hy⟩⟩ (by first | omega | (dsimp only; omega)) ((.cons rfl (.cons rfl (.cons rfl (.cons rfl (.cons rfl (.cons rfl (.cons rfl .nil)))))))) rfl
        · refine Gx.skip ?_
          refine Gx.thenN ?_
          refine Gx.seq ?_
          refine Gx.region ?_
          refine Gx.val rfl rfl rfl (val_move rfl rfl) ?_
          refine Gx.val rfl rfl rfl (val_len rfl Try.underlying23 rfl (len_base hs6)) ?_
          refine Gx.val rfl rfl rfl (val_eql rfl rfl rfl) ?_
          refine Gx.val rfl rfl rfl (val_move rfl rfl) ?_
          refine Gx.cases (t := 102) rfl (fun h26 => ?_) (fun h26 => ?_)
          · refine Gx.valg rfl rfl rfl rfl rfl (val_move rfl rfl) ?_
            refine Gx.valg rfl rfl rfl rfl rfl (val_gtr rfl rfl rfl) ?_
            refine Gx.val rfl rfl rfl (val_pickT rfl rfl rfl) ?_
            refine Gx.done ?_
            refine Gx.thenN ?_
            refine Gx.dec rfl (fun h27 => ?_) (fun h27 => ?_)
            · refine Gx.seq ?_
              refine Gx.region ?_
              refine Gx.val rfl rfl rfl (val_move rfl rfl) ?_
              refine Gx.val rfl rfl rfl (val_len rfl Try.underlying22 rfl (len_base hs5)) ?_
              refine Gx.val rfl rfl rfl (val_move rfl rfl) ?_
              refine Gx.done ?_
              refine Gx.thenN ?_
              refine Gx.block ?_
              refine Gx.loop (ι := Nat) (fun ξ => (ξ ≤ vals.length)) (fun ξ => [(0, vs), (1, .int .i64 ((R : Nat) : Int)), (2, va), (7, .slice sa7 sn8 sc9), (9, .bool sm), (10, .int .i64 hd), (11, .int .i64 ((i : Nat) : Int)), (106, vs), (107, .int .i64 ((vals.length : Nat) : Int)), (108, .int .i64 ((ξ : Nat) : Int))]) (fun ξ => []) (fun ξ => vals.length - ξ) 0 (by first | omega | (dsimp only; omega)) ((.cons rfl (.cons rfl (.cons rfl (.cons rfl (.cons rfl (.cons rfl (.cons rfl (.cons rfl (.cons rfl (.cons rfl .nil))))))))))) rfl ?_
              rintro k2 hk2
              refine Gx.know (m' := [(0, vs), (1, .int .i64 ((R : Nat) : Int)), (2, va), (7, .slice sa7 sn8 sc9), (9, .bool sm), (10, .int .i64 hd), (11, .int .i64 ((i : Nat) : Int)), (106, vs), (107, .int .i64 ((vals.length : Nat) : Int)), (108, .int .i64 ((k2 : Nat) : Int))]) (.cons rfl (.cons rfl (.cons rfl (.cons rfl (.cons rfl (.cons rfl (.cons rfl (.cons rfl (.cons rfl (.cons rfl .nil)))))))))) (Gx.norm (l' := []) rfl ?_)
              refine Gx.seq ?_
              refine Gx.region ?_
              refine Gx.val rfl rfl rfl (val_lss rfl rfl rfl) ?_
              refine Gx.done ?_
              refine Gx.thenN ?_
              refine Gx.seq ?_
              refine Gx.dec rfl (fun h28 => ?_) (fun h28 => ?_)
              · refine Gx.skip ?_
                refine Gx.thenN ?_
                refine Gx.seq ?_
                refine Gx.block ?_
                refine Gx.seq ?_
                refine Gx.region ?_
                obtain ⟨x29, hx29⟩ := get_of_lt (xs := vals) (k := k2) (by omega)
                refine Gx.val rfl rfl rfl (val_ixa rfl Try.underlying22 Try.ty3 rfl rfl (j := k2) (rfl) (reach_base hs5 hx29)) ?_
                refine Gx.val rfl rfl rfl (val_load rfl Try.ty3 rfl rfl (cell_base (i := 0) hs5 hx29 rfl)) ?_
                refine Gx.val rfl rfl rfl (val_assign rfl rfl) ?_
                refine Gx.done ?_
                refine Gx.thenN ?_
                refine Gx.seq ?_
                have hcs : cs = [] := List.eq_nil_of_length_eq_zero (by omega)
                have hyv : y ≤ x29 := by subst hcs; exact ag_none (by omega) (by omega) hy hx29
                refine Gx.region ?_
                refine Gx.val rfl rfl rfl (val_move rfl rfl) ?_
                refine Gx.val rfl rfl rfl (val_move rfl rfl) ?_
                refine Gx.val rfl rfl rfl (val_ixa rfl Try.underlying22 Try.ty3 rfl rfl (j := i) (rfl) (reach_base hlv1 hy)) ?_
                refine Gx.val rfl rfl rfl (val_load rfl Try.ty3 rfl rfl (cell_base (i := 0) hlv1 hy rfl)) ?_
                refine Gx.val rfl rfl rfl (val_move rfl rfl) ?_
                refine Gx.val rfl rfl rfl (val_gtr rfl rfl rfl) ?_
                refine Gx.done ?_
                refine Gx.thenN ?_
                refine Gx.decF rfl (by omega) ?_
                refine Gx.skip ?_
                refine Gx.blkN ?_
                refine Gx.thenN ?_
                refine Gx.region ?_
                refine Gx.val rfl rfl rfl (val_add rfl rfl rfl (r := ((k2 + 1 : Nat) : Int)) (w64 (by omega) (by omega))) ?_
                refine Gx.val rfl rfl rfl (val_move rfl rfl) ?_
                refine Gx.done ?_
                refine Gx.thenN ?_
                exact Gx.round (k2 + 1) (by first | omega | (dsimp only; omega)) (by first | omega | (dsimp only; omega)) ((.cons rfl (.cons rfl (.cons rfl (.cons rfl (.cons rfl (.cons rfl (.cons rfl (.cons rfl (.cons rfl (.cons rfl .nil))))))))))) rfl
              · refine Gx.exit ?_
                refine Gx.thenE ?_
                refine Gx.thenE ?_
                refine Gx.blkE ?_
                refine Gx.blkN ?_
                refine Gx.thenN ?_
                refine Gx.region ?_
                refine Gx.val rfl rfl rfl (val_move rfl rfl) ?_
                refine Gx.val rfl rfl rfl (val_add rfl rfl rfl (r := ((i + 1 : Nat) : Int)) (w64 (by omega) (by omega))) ?_
                refine Gx.val rfl rfl rfl (val_assign rfl rfl) ?_
                refine Gx.done ?_
                refine Gx.thenN ?_
                exact Gx.round (i + 1, sm, hd) ⟨by first | omega | (dsimp only; omega), hsm⟩ (by first | omega | (dsimp only; omega)) ((.cons rfl (.cons rfl (.cons rfl (.cons rfl (.cons rfl (.cons rfl (.cons rfl .nil)))))))) rfl
            · refine Gx.skip ?_
              refine Gx.blkN ?_
              refine Gx.thenN ?_
              refine Gx.region ?_
              refine Gx.val rfl rfl rfl (val_move rfl rfl) ?_
              refine Gx.val rfl rfl rfl (val_add rfl rfl rfl (r := ((i + 1 : Nat) : Int)) (w64 (by omega) (by omega))) ?_
              refine Gx.val rfl rfl rfl (val_assign rfl rfl) ?_
              refine Gx.done ?_
              refine Gx.thenN ?_
              exact Gx.round (i + 1, sm, hd) ⟨by first | omega | (dsimp only; omega), hsm⟩ (by first | omega | (dsimp only; omega)) ((.cons rfl (.cons rfl (.cons rfl (.cons rfl (.cons rfl (.cons rfl (.cons rfl .nil)))))))) rfl
          · refine Gx.skipg rfl rfl rfl rfl rfl rfl ?_
            refine Gx.skipg rfl rfl rfl rfl rfl rfl ?_
            refine Gx.val rfl rfl rfl (val_pickF rfl rfl rfl) ?_
            refine Gx.done ?_
            refine Gx.thenN ?_
            refine Gx.f rfl ?_
            refine Gx.skip ?_
            refine Gx.blkN ?_
            refine Gx.thenN ?_
            refine Gx.region ?_
            refine Gx.val rfl rfl rfl (val_move rfl rfl) ?_
            refine Gx.val rfl rfl rfl (val_add rfl rfl rfl (r := ((i + 1 : Nat) : Int)) (w64 (by omega) (by omega))) ?_
            refine Gx.val rfl rfl rfl (val_assign rfl rfl) ?_
            refine Gx.done ?_
            refine Gx.thenN ?_
            exact Gx.round (i + 1, sm, hd) ⟨by first | omega | (dsimp only; omega), hsm⟩ (by first | omega | (dsimp only; omega)) ((.cons rfl (.cons rfl (.cons rfl (.cons rfl (.cons rfl (.cons rfl (.cons rfl .nil)))))))) rfl
      · refine Gx.skipg rfl rfl rfl rfl rfl rfl ?_
        refine Gx.skipg rfl rfl rfl rfl rfl rfl ?_
        refine Gx.skipg rfl rfl rfl rfl rfl rfl ?_
        refine Gx.skipg rfl rfl rfl rfl rfl rfl ?_
        refine Gx.val rfl rfl rfl (val_pickF rfl rfl rfl) ?_
        refine Gx.done ?_
        refine Gx.thenN ?_
        refine Gx.f rfl ?_
        refine Gx.skip ?_
        refine Gx.thenN ?_
        refine Gx.seq ?_
        refine Gx.region ?_
        refine Gx.val rfl rfl rfl (val_move rfl rfl) ?_
        refine Gx.val rfl rfl rfl (val_len rfl Try.underlying23 rfl (len_base hs6)) ?_
        refine Gx.val rfl rfl rfl (val_eql rfl rfl rfl) ?_
        refine Gx.val rfl rfl rfl (val_move rfl rfl) ?_
        refine Gx.cases (t := 102) rfl (fun h30 => ?_) (fun h30 => ?_)
        · refine Gx.valg rfl rfl rfl rfl rfl (val_move rfl rfl) ?_
          refine Gx.valg rfl rfl rfl rfl rfl (val_gtr rfl rfl rfl) ?_
          refine Gx.val rfl rfl rfl (val_pickT rfl rfl rfl) ?_
          refine Gx.done ?_
          refine Gx.thenN ?_
          refine Gx.dec rfl (fun h31 => ?_) (fun h31 => ?_)
          · refine Gx.seq ?_
            refine Gx.region ?_
            refine Gx.val rfl rfl rfl (val_move rfl rfl) ?_
            refine Gx.val rfl rfl rfl (val_len rfl Try.underlying22 rfl (len_base hs5)) ?_
            refine Gx.val rfl rfl rfl (val_move rfl rfl) ?_
            refine Gx.done ?_
            refine Gx.thenN ?_
            refine Gx.block ?_
            refine Gx.loop (ι := Nat) (fun ξ => (ξ ≤ vals.length)) (fun ξ => [(0, vs), (1, .int .i64 ((R : Nat) : Int)), (2, va), (7, .slice sa7 sn8 sc9), (9, .bool sm), (10, .int .i64 hd), (11, .int .i64 ((i : Nat) : Int)), (106, vs), (107, .int .i64 ((vals.length : Nat) : Int)), (108, .int .i64 ((ξ : Nat) : Int))]) (fun ξ => []) (fun ξ => vals.length - ξ) 0 (by first | omega | (dsimp only; omega)) ((.cons rfl (.cons rfl (.cons rfl (.cons rfl (.cons rfl (.cons rfl (.cons rfl (.cons rfl (.cons rfl (.cons rfl .nil))))))))))) rfl ?_
            rintro k2 hk2
            refine Gx.know (m' := [(0, vs), (1, .int .i64 ((R : Nat) : Int)), (2, va), (7, .slice sa7 sn8 sc9), (9, .bool sm), (10, .int .i64 hd), (11, .int .i64 ((i : Nat) : Int)), (106, vs), (107, .int .i64 ((vals.length : Nat) : Int)), (108, .int .i64 ((k2 : Nat) : Int))]) (.cons rfl (.cons rfl (.cons rfl (.cons rfl (.cons rfl (.cons rfl (.cons rfl (.cons rfl (.cons rfl (.cons rfl .nil)))))))))) (Gx.norm (l' := []) rfl ?_)
            refine Gx.seq ?_
            refine Gx.region ?_
            refine Gx.val rfl rfl rfl (val_lss rfl rfl rfl) ?_
            refine Gx.done ?_
            refine Gx.thenN ?_
            refine Gx.seq ?_
            refine Gx.dec rfl (fun h32 => ?_) (fun h32 => ?_)
            · refine Gx.skip ?_
              refine Gx.thenN ?_
              refine Gx.seq ?_
              refine Gx.block ?_
              refine Gx.seq ?_
              refine Gx.region ?_
              obtain ⟨x33, hx33⟩ := get_of_lt (xs := vals) (k := k2) (by omega)
              refine Gx.val rfl rfl rfl (val_ixa rfl Try.underlying22 Try.ty3 rfl rfl (j := k2) (rfl) (reach_base hs5 hx33)) ?_
              refine Gx.val rfl rfl rfl (val_load rfl Try.ty3 rfl rfl (cell_base (i := 0) hs5 hx33 rfl)) ?_
              refine Gx.val rfl rfl rfl (val_assign rfl rfl) ?_
              refine Gx.done ?_
              refine Gx.thenN ?_
              refine Gx.seq ?_
              have hcs : cs = [] := List.eq_nil_of_length_eq_zero (by omega)
              have hyv : y ≤ x33 := by subst hcs; exact ag_none (by omega) (by omega) hy hx33
              refine Gx.region ?_
              refine Gx.val rfl rfl rfl (val_move rfl rfl) ?_
              refine Gx.val rfl rfl rfl (val_move rfl rfl) ?_
              refine Gx.val rfl rfl rfl (val_ixa rfl Try.underlying22 Try.ty3 rfl rfl (j := i) (rfl) (reach_base hlv1 hy)) ?_
              refine Gx.val rfl rfl rfl (val_load rfl Try.ty3 rfl rfl (cell_base (i := 0) hlv1 hy rfl)) ?_
              refine Gx.val rfl rfl rfl (val_move rfl rfl) ?_
              refine Gx.val rfl rfl rfl (val_gtr rfl rfl rfl) ?_
              refine Gx.done ?_
              refine Gx.thenN ?_
              refine Gx.decF rfl (by omega) ?_
              refine Gx.skip ?_
              refine Gx.blkN ?_
              refine Gx.thenN ?_
              refine Gx.region ?_
              refine Gx.val rfl rfl rfl (val_add rfl rfl rfl (r := ((k2 + 1 : Nat) : Int)) (w64 (by omega) (by omega))) ?_
              refine Gx.val rfl rfl rfl (val_move rfl rfl) ?_
              refine Gx.done ?_
              refine Gx.thenN ?_
              exact Gx.round (k2 + 1) (by first | omega | (dsimp only; omega)) (by first | omega | (dsimp only; omega)) ((.cons rfl (.cons rfl (.cons rfl (.cons rfl (.cons rfl (.cons rfl (.cons rfl (.cons rfl (.cons rfl (.cons rfl .nil))))))))))) rfl
            · refine Gx.exit ?_
              refine Gx.thenE ?_
              refine Gx.thenE ?_
              refine Gx.blkE ?_
              refine Gx.blkN ?_
              refine Gx.thenN ?_
              refine Gx.region ?_
              refine Gx.val rfl rfl rfl (val_move rfl rfl) ?_
              refine Gx.val rfl rfl rfl (val_add rfl rfl rfl (r := ((i + 1 : Nat) : Int)) (w64 (by omega) (by omega))) ?_
              refine Gx.val rfl rfl rfl (val_assign rfl rfl) ?_
              refine Gx.done ?_
              refine Gx.thenN ?_
              exact Gx.round (i + 1, sm, hd) ⟨by first | omega | (dsimp only; omega), hsm⟩ (by first | omega | (dsimp only; omega)) ((.cons rfl (.cons rfl (.cons rfl (.cons rfl (.cons rfl (.cons rfl (.cons rfl .nil)))))))) rfl
          · refine Gx.skip ?_
            refine Gx.blkN ?_
            refine Gx.thenN ?_
            refine Gx.region ?_
            refine Gx.val rfl rfl rfl (val_move rfl rfl) ?_
            refine Gx.val rfl rfl rfl (val_add rfl rfl rfl (r := ((i + 1 : Nat) : Int)) (w64 (by omega) (by omega))) ?_
            refine Gx.val rfl rfl rfl (val_assign rfl rfl) ?_
            refine Gx.done ?_
            refine Gx.thenN ?_
            exact Gx.round (i + 1, sm, hd) ⟨by first | omega | (dsimp only; omega), hsm⟩ (by first | omega | (dsimp only; omega)) ((.cons rfl (.cons rfl (.cons rfl (.cons rfl (.cons rfl (.cons rfl (.cons rfl .nil)))))))) rfl
        · refine Gx.skipg rfl rfl rfl rfl rfl rfl ?_
          refine Gx.skipg rfl rfl rfl rfl rfl rfl ?_
          refine Gx.val rfl rfl rfl (val_pickF rfl rfl rfl) ?_
          refine Gx.done ?_
          refine Gx.thenN ?_
          refine Gx.f rfl ?_
          refine Gx.skip ?_
          refine Gx.blkN ?_
          refine Gx.thenN ?_
          refine Gx.region ?_
          refine Gx.val rfl rfl rfl (val_move rfl rfl) ?_
          refine Gx.val rfl rfl rfl (val_add rfl rfl rfl (r := ((i + 1 : Nat) : Int)) (w64 (by omega) (by omega))) ?_
          refine Gx.val rfl rfl rfl (val_assign rfl rfl) ?_
          refine Gx.done ?_
          refine Gx.thenN ?_
          exact Gx.round (i + 1, sm, hd) ⟨by first | omega | (dsimp only; omega), hsm⟩ (by first | omega | (dsimp only; omega)) ((.cons rfl (.cons rfl (.cons rfl (.cons rfl (.cons rfl (.cons rfl (.cons rfl .nil)))))))) rfl
  · refine Gx.exit ?_
    refine Gx.thenE ?_
    refine Gx.thenE ?_
    refine Gx.blkE ?_
    refine Gx.thenN ?_
    refine Gx.seq ?_
    refine Gx.region ?_
    refine Gx.val rfl rfl rfl (val_assign rfl rfl) ?_
    refine Gx.done ?_
    refine Gx.thenN ?_
    refine Gx.ret ?_
    refine Gx.ret1B hW4 Try.results3 rfl ?_
    rfl

theorem agrees_any {W : World} {vs va : Value} {vals : List Int} {cs : List Cr} {r : Int} (hv : SlS FI 1 W vs vals) (hin : ∀ x ∈ vals, (Lit.int .i64 x).wf = true) (ha : SlS FC 3 W va cs) (hto : ∀ c ∈ cs, c.to_ < 4294967296) :
    Calls Try.prog 3 #[vs, .int .i64 r, va] W fun e w' => e = .returned (.bool true) ∧ Below W.heap.size W w' := by
  by_cases hbad : vals.length = 0 ∨ 6 < vals.length ∨ r < 0 ∨ 6 < r ∨ 6 < cs.length
  · exact agrees_no1 hv ha hto hbad
  obtain ⟨R, rfl⟩ : ∃ R : Nat, r = (R : Int) := ⟨r.toNat, by omega⟩
  by_cases hok : wrC vals.length cs [] = 0
  · exact agrees_yes hv ha hto (by omega) (by omega) (by omega) (by omega) hin hok
  · exact agrees_no2 hv ha hto (by omega) (by omega) (by omega) (by omega) hok
end Go.Proofs.Ytmkhjlmhobihmaa
