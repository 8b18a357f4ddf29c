/- When all rest and nothing is on its way, it is told. No condition. -/
import Derived.Test.YtgnpngiecnkfiaaB3
namespace Go.Proofs.Ytgnpngiecnkfiaa
open Go.RowKit
set_option linter.unusedVariables false
set_option linter.unusedSimpArgs false
set_option maxRecDepth 100000

theorem FC_one (p : Cm) (u : Value) (h : u ∈ FC p) : u.oneCell' = true := by simp [FC] at h; rcases h with rfl | rfl | rfl <;> rfl
theorem Try.eCm : Elem Try.prog 22 32 (.agg #[.int .i64 0, .int .i64 0, .int .i64 0]) 3 24 := ⟨Try.underlying22, by kernel_rfl, rfl, by decide⟩
theorem tells {n : Nat} {cs : List Cm} {ks : List Int} {ws bs : List Bool} {aw : Nat} {dn : Bool} (F : PlayF n cs ks ws bs aw dn) : dn = (!(ws.any id) && decide (aw = 0)) := by
  rw [Bool.eq_iff_iff]
  constructor
  · intro hd
    have h0 := F.away hd
    have : ws.any id = false := by
      rw [List.any_eq_false]
      intro x hx
      obtain ⟨i, hi⟩ := List.getElem?_of_mem hx
      have := (notyet F).2 hd
      simp [this.2 i x hi]
    simp [this, h0]
  · intro h
    simp only [Bool.and_eq_true, Bool.not_eq_true', decide_eq_true_eq] at h
    rw [F.d]
    refine quiet_tells F.tr F.sl (fun i => ?_) (F.a ▸ h.2)
    rcases Nat.lt_or_ge i.val n with hi | hi
    · obtain ⟨x, hx⟩ := get_of_lt (xs := ws) (k := i.val) (by rw [F.wl]; exact hi)
      have h1 := F.wi hx
      rw [smN_val] at h1
      rw [← h1]
      have := (List.any_eq_false.1 h.1) x (List.mem_of_getElem? hx)
      simpa using this
    · unfold prc
      rw [List.getElem?_eq_none (by rw [stQ_len, qs0_len]; exact hi)]
      rfl
theorem tells_out {W : World} {sv : Value} {cs : List Cm} {n : Int} (hs : SlS FC 3 W sv cs) (hbad : n < 1 ∨ 3 < n ∨ 10 < (cs.length : Int)) :
    Calls Try.prog 4 #[.int .i64 n, sv] W fun e w' => e = .returned (.bool true) ∧ Below W.heap.size W w' := by
  refine calls_pure (Gx.enter (l := []) Try.func4 rfl Try.ntmps4 rfl (Sat.start W) ?_)
  refine Gx.know (m' := [(0, .int .i64 n), (1, sv)]) (.cons rfl (.cons rfl .nil)) ?_
  refine Gx.seq ?_
  refine Gx.region ?_
  refine Gx.val rfl rfl rfl (val_assign rfl rfl) ?_
  refine Gx.done ?_
  refine Gx.thenN ?_
  refine Gx.seq ?_
  refine Gx.seq ?_
  refine Gx.region ?_
  refine Gx.val rfl rfl rfl (val_move rfl rfl) ?_
  refine Gx.val rfl rfl rfl (val_lss rfl rfl rfl) ?_
  refine Gx.val rfl rfl rfl (val_move rfl rfl) ?_
  refine Gx.cases (t := 19) rfl (fun h1 => ?_) (fun h1 => ?_)
  · refine Gx.skipg rfl rfl rfl rfl rfl rfl ?_
    refine Gx.skipg rfl rfl rfl rfl rfl rfl ?_
    refine Gx.val rfl rfl rfl (val_pickT rfl rfl rfl) ?_
    refine Gx.val rfl rfl rfl (val_move rfl rfl) ?_
    refine Gx.skipg rfl rfl rfl rfl rfl rfl ?_
    refine Gx.skipg rfl rfl rfl rfl rfl rfl ?_
    refine Gx.skipg rfl rfl rfl rfl rfl rfl ?_
    refine Gx.val rfl rfl rfl (val_pickT rfl rfl rfl) ?_
    refine Gx.done ?_
    refine Gx.thenN ?_
    refine Gx.t rfl ?_
    refine Gx.seq ?_
    refine Gx.region ?_
    refine Gx.val rfl rfl rfl (val_assign rfl rfl) ?_
    refine Gx.done ?_
    refine Gx.thenN ?_
    refine Gx.ret ?_
    refine Gx.thenR ?_
    refine Gx.ret1 Try.results4 rfl ?_
    rfl
  · refine Gx.valg rfl rfl rfl rfl rfl (val_move rfl rfl) ?_
    refine Gx.valg rfl rfl rfl rfl rfl (val_gtr rfl rfl rfl) ?_
    refine Gx.val rfl rfl rfl (val_pickF rfl rfl rfl) ?_
    refine Gx.val rfl rfl rfl (val_move rfl rfl) ?_
    refine Gx.cases (t := 23) rfl (fun h2 => ?_) (fun h2 => ?_)
    · refine Gx.skipg rfl rfl rfl rfl rfl rfl ?_
      refine Gx.skipg rfl rfl rfl rfl rfl rfl ?_
      refine Gx.skipg rfl rfl rfl rfl rfl rfl ?_
      refine Gx.val rfl rfl rfl (val_pickT rfl rfl rfl) ?_
      refine Gx.done ?_
      refine Gx.thenN ?_
      refine Gx.t rfl ?_
      refine Gx.seq ?_
      refine Gx.region ?_
      refine Gx.val rfl rfl rfl (val_assign rfl rfl) ?_
      refine Gx.done ?_
      refine Gx.thenN ?_
      refine Gx.ret ?_
      refine Gx.thenR ?_
      refine Gx.ret1 Try.results4 rfl ?_
      rfl
    · refine Gx.valg rfl rfl rfl rfl rfl (val_move rfl rfl) ?_
      refine Gx.valg rfl rfl rfl rfl rfl (val_len rfl Try.underlying22 rfl (len_base hs)) ?_
      refine Gx.valg rfl rfl rfl rfl rfl (val_gtr rfl rfl rfl) ?_
      refine Gx.val rfl rfl rfl (val_pickF rfl rfl rfl) ?_
      refine Gx.done ?_
      refine Gx.thenN ?_
      refine Gx.dec rfl (fun h3 => ?_) (fun h3 => ?_)
      · refine Gx.seq ?_
        refine Gx.region ?_
        refine Gx.val rfl rfl rfl (val_assign rfl rfl) ?_
        refine Gx.done ?_
        refine Gx.thenN ?_
        refine Gx.ret ?_
        refine Gx.thenR ?_
        refine Gx.ret1 Try.results4 rfl ?_
        rfl
      · exfalso; omega

theorem tells_in1 {W : World} {sv : Value} {cs : List Cm}  (hs : SlS FC 3 W sv cs) (hl : cs.length ≤ 10) :
    Calls Try.prog 4 #[.int .i64 1, sv] W fun e w' => e = .returned (.bool true) ∧ Below W.heap.size W w' := by
  refine calls_pure (Gx.enter (l := []) Try.func4 rfl Try.ntmps4 rfl (Sat.start W) ?_)
  refine Gx.know (m' := [(0, .int .i64 1), (1, sv)]) (.cons rfl (.cons rfl .nil)) ?_
  refine Gx.seq ?_
  refine Gx.region ?_
  refine Gx.val rfl rfl rfl (val_assign rfl rfl) ?_
  refine Gx.done ?_
  refine Gx.thenN ?_
  refine Gx.seq ?_
  refine Gx.seq ?_
  refine Gx.region ?_
  refine Gx.val rfl rfl rfl (val_move rfl rfl) ?_
  refine Gx.val rfl rfl rfl (Val.cast (val_lss rfl rfl rfl) (v' := .bool false) rfl) ?_
  refine Gx.val rfl rfl rfl (val_move rfl rfl) ?_
  refine Gx.valg rfl rfl rfl rfl rfl (val_move rfl rfl) ?_
  refine Gx.valg rfl rfl rfl rfl rfl (Val.cast (val_gtr rfl rfl rfl) (v' := .bool false) rfl) ?_
  refine Gx.val rfl rfl rfl (val_pickF rfl rfl rfl) ?_
  refine Gx.val rfl rfl rfl (val_move rfl rfl) ?_
  refine Gx.valg rfl rfl rfl rfl rfl (val_move rfl rfl) ?_
  refine Gx.valg rfl rfl rfl rfl rfl (val_len rfl Try.underlying22 rfl (len_base hs)) ?_
  refine Gx.valg rfl rfl rfl rfl rfl (val_gtr rfl rfl rfl) ?_
  refine Gx.val rfl rfl rfl (val_pickF rfl rfl rfl) ?_
  refine Gx.done ?_
  refine Gx.thenN ?_
  refine Gx.decF rfl (by omega) ?_
  refine Gx.skip ?_
  refine Gx.thenN ?_
  refine Gx.seq ?_
  refine Gx.region ?_
  refine Gx.eff rfl rfl rfl (eff_buildNil (f := FC) (sz := 3) (e := 32) rfl Try.underlying22 (fun w => by first | (go_simp; done) | (go_simp; rfl))) ?_
  rintro v1 _ ⟨hiv1, rfl⟩
  refine Gx.val rfl rfl rfl (val_move rfl rfl) ?_
  refine Gx.eff rfl rfl rfl (eff_pushAll (k := 0) (ys := cs) rfl Try.eCm FC_len FC_one rfl rfl (fun w H => hs.below H.below) rfl (by simp; omega) (by simp; omega)) ?_
  rintro v2 _ ⟨hiv2, rfl⟩
  refine Gx.norm (l' := [Hp.own FC 3 v2 cs]) rfl ?_
  refine Gx.val rfl rfl rfl (val_assign rfl rfl) ?_
  refine Gx.done ?_
  refine Gx.thenN ?_
  refine Gx.seq ?_
  refine Gx.seq ?_
  refine Gx.region ?_
  refine Gx.val rfl rfl rfl (val_assign rfl rfl) ?_
  refine Gx.done ?_
  refine Gx.thenN ?_
  refine Gx.block ?_
  refine Gx.loop (ι := Nat × Value × (List Cm)) (fun ξ => (ξ.1 ≤ 12) ∧ (ξ.2.2.length ≤ 120)) (fun ξ => [(0, .int .i64 1), (5, ξ.2.1), (6, .int .i64 ((ξ.1 : Nat) : Int))]) (fun ξ => [Hp.own FC 3 ξ.2.1 ξ.2.2]) (fun ξ => 12 - ξ.1) (0, v2, cs) ⟨by first | omega | (dsimp only; omega), by first | omega | (dsimp only; omega)⟩ ((.cons rfl (.cons rfl (.cons rfl .nil)))) rfl ?_
  rintro ⟨t, av, xs⟩ ⟨ht, hx⟩
  dsimp only at ht hx
  refine Gx.know (m' := [(0, .int .i64 1), (5, av), (6, .int .i64 ((t : Nat) : Int))]) (.cons rfl (.cons rfl (.cons rfl .nil))) (Gx.norm (l' := [Hp.own FC 3 av xs]) rfl ?_)
  refine Gx.seq ?_
  refine Gx.seq ?_
  refine Gx.region ?_
  refine Gx.val rfl rfl rfl (val_move rfl rfl) ?_
  refine Gx.val rfl rfl rfl (val_lss rfl rfl rfl) ?_
  refine Gx.val rfl rfl rfl (val_move rfl rfl) ?_
  refine Gx.cases (t := 33) rfl (fun h3 => ?_) (fun h3 => ?_)
  · refine Gx.valg rfl rfl rfl rfl rfl (val_move rfl rfl) ?_
    refine Gx.valg rfl rfl rfl rfl rfl (val_len rfl Try.underlying22 rfl (len_own (k := 0) rfl)) ?_
    refine Gx.valg rfl rfl rfl rfl rfl (val_move rfl rfl) ?_
    refine Gx.valg rfl rfl rfl rfl rfl (val_mul rfl rfl rfl (r := 3) (w64 (by omega) (by omega))) ?_
    refine Gx.valg rfl rfl rfl rfl rfl (val_move rfl rfl) ?_
    refine Gx.valg rfl rfl rfl rfl rfl (val_mul rfl rfl rfl (r := 3) (w64 (by omega) (by omega))) ?_
    refine Gx.valg rfl rfl rfl rfl rfl (val_add rfl rfl rfl (r := ((xs.length + 3 : Nat) : Int)) (w64 (by omega) (by omega))) ?_
    refine Gx.valg rfl rfl rfl rfl rfl (val_leq rfl rfl rfl) ?_
    refine Gx.val rfl rfl rfl (val_pickT rfl rfl rfl) ?_
    refine Gx.done ?_
    refine Gx.thenN ?_
    refine Gx.dec rfl (fun h4 => ?_) (fun h4 => ?_)
    · refine Gx.skip ?_
      refine Gx.thenN ?_
      refine Gx.seq ?_
      refine Gx.block ?_
      refine Gx.seq ?_
      refine Gx.seq ?_
      refine Gx.region ?_
      refine Gx.val rfl rfl rfl (val_assign rfl rfl) ?_
      refine Gx.done ?_
      refine Gx.thenN ?_
      refine Gx.block ?_
      refine Gx.loop (ι := Nat × Value × (List Cm)) (fun ξ => (ξ.1 ≤ 1) ∧ (ξ.2.2.length + 3 ≤ 120 + 1 * ξ.1)) (fun ξ => [(0, .int .i64 1), (5, ξ.2.1), (6, .int .i64 ((t : Nat) : Int)), (7, .int .i64 ((ξ.1 : Nat) : Int))]) (fun ξ => [Hp.own FC 3 ξ.2.1 ξ.2.2]) (fun ξ => 1 - ξ.1) (0, av, xs) ⟨by first | omega | (dsimp only; omega), by first | omega | (dsimp only; omega)⟩ ((.cons rfl (.cons rfl (.cons rfl (.cons rfl .nil))))) rfl ?_
      rintro ⟨i, av, xs⟩ ⟨hi, hx⟩
      dsimp only at hi hx
      refine Gx.know (m' := [(0, .int .i64 1), (5, av), (6, .int .i64 ((t : Nat) : Int)), (7, .int .i64 ((i : Nat) : Int))]) (.cons rfl (.cons rfl (.cons rfl (.cons rfl .nil)))) (Gx.norm (l' := [Hp.own FC 3 av xs]) rfl ?_)
      refine Gx.seq ?_
      refine Gx.seq ?_
      refine Gx.region ?_
      refine Gx.val rfl rfl rfl (val_move rfl rfl) ?_
      refine Gx.val rfl rfl rfl (val_move rfl rfl) ?_
      refine Gx.val rfl rfl rfl (val_lss rfl rfl rfl) ?_
      refine Gx.done ?_
      refine Gx.thenN ?_
      refine Gx.dec rfl (fun h5 => ?_) (fun h5 => ?_)
      · refine Gx.skip ?_
        refine Gx.thenN ?_
        refine Gx.seq ?_
        refine Gx.block ?_
        refine Gx.seq ?_
        refine Gx.region ?_
        refine Gx.val rfl rfl rfl (val_assign rfl rfl) ?_
        refine Gx.done ?_
        refine Gx.thenN ?_
        refine Gx.block ?_
        refine Gx.loop (ι := Nat × Value × (List Cm)) (fun ξ => (ξ.1 ≤ 1) ∧ (ξ.2.2.length + 3 ≤ 120 + 1 * i + ξ.1)) (fun ξ => [(0, .int .i64 1), (5, ξ.2.1), (6, .int .i64 ((t : Nat) : Int)), (7, .int .i64 ((i : Nat) : Int)), (8, .int .i64 ((ξ.1 : Nat) : Int))]) (fun ξ => [Hp.own FC 3 ξ.2.1 ξ.2.2]) (fun ξ => 1 - ξ.1) (0, av, xs) ⟨by first | omega | (dsimp only; omega), by first | omega | (dsimp only; omega)⟩ ((.cons rfl (.cons rfl (.cons rfl (.cons rfl (.cons rfl .nil)))))) rfl ?_
        rintro ⟨j, av, xs⟩ ⟨hj, hx⟩
        dsimp only at hj hx
        refine Gx.know (m' := [(0, .int .i64 1), (5, av), (6, .int .i64 ((t : Nat) : Int)), (7, .int .i64 ((i : Nat) : Int)), (8, .int .i64 ((j : Nat) : Int))]) (.cons rfl (.cons rfl (.cons rfl (.cons rfl (.cons rfl .nil))))) (Gx.norm (l' := [Hp.own FC 3 av xs]) rfl ?_)
        refine Gx.seq ?_
        refine Gx.seq ?_
        refine Gx.region ?_
        refine Gx.val rfl rfl rfl (val_move rfl rfl) ?_
        refine Gx.val rfl rfl rfl (val_move rfl rfl) ?_
        refine Gx.val rfl rfl rfl (val_lss rfl rfl rfl) ?_
        refine Gx.done ?_
        refine Gx.thenN ?_
        refine Gx.dec rfl (fun h6 => ?_) (fun h6 => ?_)
        · refine Gx.skip ?_
          refine Gx.thenN ?_
          refine Gx.seq ?_
          refine Gx.block ?_
          refine Gx.seq ?_
          refine Gx.region ?_
          refine Gx.val rfl rfl rfl (val_move rfl rfl) ?_
          refine Gx.val rfl rfl rfl (val_move rfl rfl) ?_
          refine Gx.val rfl rfl rfl (val_neq rfl rfl rfl) ?_
          refine Gx.done ?_
          refine Gx.thenN ?_
          refine Gx.dec rfl (fun h7 => ?_) (fun h7 => ?_)
          · refine Gx.region ?_
            refine Gx.val rfl rfl rfl (val_move rfl rfl) ?_
            refine Gx.val rfl rfl rfl (val_move rfl rfl) ?_
            refine Gx.val rfl rfl rfl (val_move rfl rfl) ?_
            refine Gx.val rfl rfl rfl (val_build rfl (qs := [(0, .int .i64 2), (1, .int .i64 ((i : Nat) : Int)), (2, .int .i64 ((j : Nat) : Int))]) rfl rfl (fun w => by go_simp) (v := .agg #[.int .i64 2, .int .i64 ((i : Nat) : Int), .int .i64 ((j : Nat) : Int)])) ?_
            refine Gx.eff rfl rfl rfl (eff_buildSlice rfl (qs := [(0, .agg #[.int .i64 2, .int .i64 ((i : Nat) : Int), .int .i64 ((j : Nat) : Int)])]) rfl rfl (cs := #[.int .i64 2, .int .i64 ((i : Nat) : Int), .int .i64 ((j : Nat) : Int)]) (vs := [.int .i64 2, .int .i64 ((i : Nat) : Int), .int .i64 ((j : Nat) : Int)]) (E := 32) rfl (fun w => by first | (go_simp; done) | (go_simp; rfl))) ?_
            rintro _ _ ⟨b8, rfl, rfl⟩
            refine Gx.eff rfl rfl rfl (eff_push (r := (⟨2, ((i : Nat) : Int), ((j : Nat) : Int)⟩ : Cm)) rfl Try.eCm FC_len FC_one rfl rfl (k := 0) rfl rfl (k' := 0) rfl (by omega) (by omega)) ?_
            rintro v9 _ ⟨hiv9, rfl⟩
            refine Gx.norm (l' := [Hp.own FC 3 v9 (xs ++ [(⟨2, ((i : Nat) : Int), ((j : Nat) : Int)⟩ : Cm)])]) rfl ?_
            refine Gx.val rfl rfl rfl (val_assign rfl rfl) ?_
            refine Gx.done ?_
            refine Gx.blkN ?_
            refine Gx.thenN ?_
            refine Gx.region ?_
            refine Gx.val rfl rfl rfl (val_move rfl rfl) ?_
            refine Gx.val rfl rfl rfl (val_add rfl rfl rfl (r := ((j + 1 : Nat) : Int)) (w64 (by omega) (by omega))) ?_
            refine Gx.val rfl rfl rfl (val_assign rfl rfl) ?_
            refine Gx.done ?_
            refine Gx.thenN ?_
            exact Gx.round (j + 1, v9, (xs ++ [(⟨2, ((i : Nat) : Int), ((j : Nat) : Int)⟩ : Cm)])) ⟨by first | omega | (dsimp only; omega), by first | omega | (dsimp only; omega) | (simp only [List.length_append, List.length_cons, List.length_nil]; omega)⟩ (by first | omega | (dsimp only; omega)) ((.cons rfl (.cons rfl (.cons rfl (.cons rfl (.cons rfl .nil)))))) rfl
          · refine Gx.skip ?_
            refine Gx.blkN ?_
            refine Gx.thenN ?_
            refine Gx.region ?_
            refine Gx.val rfl rfl rfl (val_move rfl rfl) ?_
            refine Gx.val rfl rfl rfl (val_add rfl rfl rfl (r := ((j + 1 : Nat) : Int)) (w64 (by omega) (by omega))) ?_
            refine Gx.val rfl rfl rfl (val_assign rfl rfl) ?_
            refine Gx.done ?_
            refine Gx.thenN ?_
            exact Gx.round (j + 1, av, xs) ⟨by first | omega | (dsimp only; omega), by first | omega | (dsimp only; omega) | (simp only [List.length_append, List.length_cons, List.length_nil]; omega)⟩ (by first | omega | (dsimp only; omega)) ((.cons rfl (.cons rfl (.cons rfl (.cons rfl (.cons rfl .nil)))))) rfl
        · refine Gx.exit ?_
          refine Gx.thenE ?_
          refine Gx.thenE ?_
          refine Gx.blkE ?_
          refine Gx.blkN ?_
          refine Gx.thenN ?_
          refine Gx.region ?_
          refine Gx.val rfl rfl rfl (val_move rfl rfl) ?_
          refine Gx.val rfl rfl rfl (val_add rfl rfl rfl (r := ((i + 1 : Nat) : Int)) (w64 (by omega) (by omega))) ?_
          refine Gx.val rfl rfl rfl (val_assign rfl rfl) ?_
          refine Gx.done ?_
          refine Gx.thenN ?_
          exact Gx.round (i + 1, av, xs) ⟨by first | omega | (dsimp only; omega), by first | omega | (dsimp only; omega) | (simp only [List.length_append, List.length_cons, List.length_nil]; omega)⟩ (by first | omega | (dsimp only; omega)) ((.cons rfl (.cons rfl (.cons rfl (.cons rfl .nil))))) rfl
      · refine Gx.exit ?_
        refine Gx.thenE ?_
        refine Gx.thenE ?_
        refine Gx.blkE ?_
        refine Gx.thenN ?_
        refine Gx.seq ?_
        refine Gx.seq ?_
        refine Gx.region ?_
        refine Gx.val rfl rfl rfl (val_assign rfl rfl) ?_
        refine Gx.done ?_
        refine Gx.thenN ?_
        refine Gx.block ?_
        refine Gx.loop (ι := Nat × Value × (List Cm)) (fun ξ => (ξ.1 ≤ 1) ∧ (ξ.2.2.length + 2 ≤ 120 + ξ.1)) (fun ξ => [(0, .int .i64 1), (5, ξ.2.1), (6, .int .i64 ((t : Nat) : Int)), (9, .int .i64 ((ξ.1 : Nat) : Int))]) (fun ξ => [Hp.own FC 3 ξ.2.1 ξ.2.2]) (fun ξ => 1 - ξ.1) (0, av, xs) ⟨by first | omega | (dsimp only; omega), by first | omega | (dsimp only; omega)⟩ ((.cons rfl (.cons rfl (.cons rfl (.cons rfl .nil))))) rfl ?_
        rintro ⟨i, av, xs⟩ ⟨hi, hx⟩
        dsimp only at hi hx
        refine Gx.know (m' := [(0, .int .i64 1), (5, av), (6, .int .i64 ((t : Nat) : Int)), (9, .int .i64 ((i : Nat) : Int))]) (.cons rfl (.cons rfl (.cons rfl (.cons rfl .nil)))) (Gx.norm (l' := [Hp.own FC 3 av xs]) rfl ?_)
        refine Gx.seq ?_
        refine Gx.seq ?_
        refine Gx.region ?_
        refine Gx.val rfl rfl rfl (val_move rfl rfl) ?_
        refine Gx.val rfl rfl rfl (val_move rfl rfl) ?_
        refine Gx.val rfl rfl rfl (val_lss rfl rfl rfl) ?_
        refine Gx.done ?_
        refine Gx.thenN ?_
        refine Gx.dec rfl (fun h10 => ?_) (fun h10 => ?_)
        · refine Gx.skip ?_
          refine Gx.thenN ?_
          refine Gx.seq ?_
          refine Gx.block ?_
          refine Gx.region ?_
          refine Gx.val rfl rfl rfl (val_move rfl rfl) ?_
          refine Gx.val rfl rfl rfl (val_move rfl rfl) ?_
          refine Gx.val rfl rfl rfl (val_build rfl (qs := [(0, .int .i64 3), (1, .int .i64 ((i : Nat) : Int))]) rfl rfl (fun w => by go_simp) (v := .agg #[.int .i64 3, .int .i64 ((i : Nat) : Int), .int .i64 0])) ?_
          refine Gx.eff rfl rfl rfl (eff_buildSlice rfl (qs := [(0, .agg #[.int .i64 3, .int .i64 ((i : Nat) : Int), .int .i64 0])]) rfl rfl (cs := #[.int .i64 3, .int .i64 ((i : Nat) : Int), .int .i64 0]) (vs := [.int .i64 3, .int .i64 ((i : Nat) : Int), .int .i64 0]) (E := 32) rfl (fun w => by first | (go_simp; done) | (go_simp; rfl))) ?_
          rintro _ _ ⟨b11, rfl, rfl⟩
          refine Gx.eff rfl rfl rfl (eff_push (r := (⟨3, ((i : Nat) : Int), 0⟩ : Cm)) rfl Try.eCm FC_len FC_one rfl rfl (k := 0) rfl rfl (k' := 0) rfl (by omega) (by omega)) ?_
          rintro v12 _ ⟨hiv12, rfl⟩
          refine Gx.norm (l' := [Hp.own FC 3 v12 (xs ++ [(⟨3, ((i : Nat) : Int), 0⟩ : Cm)])]) rfl ?_
          refine Gx.val rfl rfl rfl (val_assign rfl rfl) ?_
          refine Gx.done ?_
          refine Gx.blkN ?_
          refine Gx.thenN ?_
          refine Gx.region ?_
          refine Gx.val rfl rfl rfl (val_move rfl rfl) ?_
          refine Gx.val rfl rfl rfl (val_add rfl rfl rfl (r := ((i + 1 : Nat) : Int)) (w64 (by omega) (by omega))) ?_
          refine Gx.val rfl rfl rfl (val_assign rfl rfl) ?_
          refine Gx.done ?_
          refine Gx.thenN ?_
          exact Gx.round (i + 1, v12, (xs ++ [(⟨3, ((i : Nat) : Int), 0⟩ : Cm)])) ⟨by first | omega | (dsimp only; omega), by first | omega | (dsimp only; omega) | (simp only [List.length_append, List.length_cons, List.length_nil]; omega)⟩ (by first | omega | (dsimp only; omega)) ((.cons rfl (.cons rfl (.cons rfl (.cons rfl .nil))))) rfl
        · refine Gx.exit ?_
          refine Gx.thenE ?_
          refine Gx.thenE ?_
          refine Gx.blkE ?_
          refine Gx.thenN ?_
          refine Gx.seq ?_
          refine Gx.region ?_
          refine Gx.val rfl rfl rfl (val_move rfl rfl) ?_
          refine Gx.val rfl rfl rfl (val_sub rfl rfl rfl (r := 0) (w64 (by omega) (by omega))) ?_
          refine Gx.val rfl rfl rfl (val_assign rfl rfl) ?_
          refine Gx.done ?_
          refine Gx.thenN ?_
          refine Gx.block ?_
          refine Gx.loop (ι := Int × Value × (List Cm)) (fun ξ => (-1 ≤ ξ.1 ∧ ξ.1 < 1) ∧ ((ξ.2.2.length : Int) + 1 ≤ 120 + 1 * (1 - 1 - ξ.1))) (fun ξ => [(0, .int .i64 1), (5, ξ.2.1), (6, .int .i64 ((t : Nat) : Int)), (10, .int .i64 ξ.1)]) (fun ξ => [Hp.own FC 3 ξ.2.1 ξ.2.2]) (fun ξ => (ξ.1 + 1).toNat) (0, av, xs) ⟨by first | omega | (dsimp only; omega), by first | omega | (dsimp only; omega)⟩ ((.cons rfl (.cons rfl (.cons rfl (.cons rfl .nil))))) rfl ?_
          rintro ⟨p, av, xs⟩ ⟨hp, hx⟩
          dsimp only at hp hx
          refine Gx.know (m' := [(0, .int .i64 1), (5, av), (6, .int .i64 ((t : Nat) : Int)), (10, .int .i64 p)]) (.cons rfl (.cons rfl (.cons rfl (.cons rfl .nil)))) (Gx.norm (l' := [Hp.own FC 3 av xs]) rfl ?_)
          refine Gx.seq ?_
          refine Gx.seq ?_
          refine Gx.region ?_
          refine Gx.val rfl rfl rfl (val_move rfl rfl) ?_
          refine Gx.val rfl rfl rfl (val_geq rfl rfl rfl) ?_
          refine Gx.done ?_
          refine Gx.thenN ?_
          refine Gx.dec rfl (fun h13 => ?_) (fun h13 => ?_)
          · refine Gx.skip ?_
            refine Gx.thenN ?_
            refine Gx.seq ?_
            refine Gx.block ?_
            refine Gx.seq ?_
            refine Gx.region ?_
            refine Gx.val rfl rfl rfl (val_assign rfl rfl) ?_
            refine Gx.done ?_
            refine Gx.thenN ?_
            refine Gx.block ?_
            refine Gx.loop (ι := Nat × Value × (List Cm)) (fun ξ => (ξ.1 ≤ 1) ∧ ((ξ.2.2.length : Int) + 1 ≤ 120 + 1 * (1 - 1 - p) + ξ.1)) (fun ξ => [(0, .int .i64 1), (5, ξ.2.1), (6, .int .i64 ((t : Nat) : Int)), (10, .int .i64 p), (11, .int .i64 ((ξ.1 : Nat) : Int))]) (fun ξ => [Hp.own FC 3 ξ.2.1 ξ.2.2]) (fun ξ => 1 - ξ.1) (0, av, xs) ⟨by first | omega | (dsimp only; omega), by first | omega | (dsimp only; omega)⟩ ((.cons rfl (.cons rfl (.cons rfl (.cons rfl (.cons rfl .nil)))))) rfl ?_
            rintro ⟨j, av, xs⟩ ⟨hj, hx⟩
            dsimp only at hj hx
            refine Gx.know (m' := [(0, .int .i64 1), (5, av), (6, .int .i64 ((t : Nat) : Int)), (10, .int .i64 p), (11, .int .i64 ((j : Nat) : Int))]) (.cons rfl (.cons rfl (.cons rfl (.cons rfl (.cons rfl .nil))))) (Gx.norm (l' := [Hp.own FC 3 av xs]) rfl ?_)
            refine Gx.seq ?_
            refine Gx.seq ?_
            refine Gx.region ?_
            refine Gx.val rfl rfl rfl (val_move rfl rfl) ?_
            refine Gx.val rfl rfl rfl (val_move rfl rfl) ?_
            refine Gx.val rfl rfl rfl (val_lss rfl rfl rfl) ?_
            refine Gx.done ?_
            refine Gx.thenN ?_
            refine Gx.dec rfl (fun h14 => ?_) (fun h14 => ?_)
            · refine Gx.skip ?_
              refine Gx.thenN ?_
              refine Gx.seq ?_
              refine Gx.block ?_
              refine Gx.seq ?_
              refine Gx.region ?_
              refine Gx.val rfl rfl rfl (val_move rfl rfl) ?_
              refine Gx.val rfl rfl rfl (val_move rfl rfl) ?_
              refine Gx.val rfl rfl rfl (val_neq rfl rfl rfl) ?_
              refine Gx.done ?_
              refine Gx.thenN ?_
              refine Gx.dec rfl (fun h15 => ?_) (fun h15 => ?_)
              · refine Gx.region ?_
                refine Gx.val rfl rfl rfl (val_move rfl rfl) ?_
                refine Gx.val rfl rfl rfl (val_move rfl rfl) ?_
                refine Gx.val rfl rfl rfl (val_move rfl rfl) ?_
                refine Gx.val rfl rfl rfl (val_build rfl (qs := [(0, .int .i64 4), (1, .int .i64 p), (2, .int .i64 ((j : Nat) : Int))]) rfl rfl (fun w => by go_simp) (v := .agg #[.int .i64 4, .int .i64 p, .int .i64 ((j : Nat) : Int)])) ?_
                refine Gx.eff rfl rfl rfl (eff_buildSlice rfl (qs := [(0, .agg #[.int .i64 4, .int .i64 p, .int .i64 ((j : Nat) : Int)])]) rfl rfl (cs := #[.int .i64 4, .int .i64 p, .int .i64 ((j : Nat) : Int)]) (vs := [.int .i64 4, .int .i64 p, .int .i64 ((j : Nat) : Int)]) (E := 32) rfl (fun w => by first | (go_simp; done) | (go_simp; rfl))) ?_
                rintro _ _ ⟨b16, rfl, rfl⟩
                refine Gx.eff rfl rfl rfl (eff_push (r := (⟨4, p, ((j : Nat) : Int)⟩ : Cm)) rfl Try.eCm FC_len FC_one rfl rfl (k := 0) rfl rfl (k' := 0) rfl (by omega) (by omega)) ?_
                rintro v17 _ ⟨hiv17, rfl⟩
                refine Gx.norm (l' := [Hp.own FC 3 v17 (xs ++ [(⟨4, p, ((j : Nat) : Int)⟩ : Cm)])]) rfl ?_
                refine Gx.val rfl rfl rfl (val_assign rfl rfl) ?_
                refine Gx.done ?_
                refine Gx.blkN ?_
                refine Gx.thenN ?_
                refine Gx.region ?_
                refine Gx.val rfl rfl rfl (val_move rfl rfl) ?_
                refine Gx.val rfl rfl rfl (val_add rfl rfl rfl (r := ((j + 1 : Nat) : Int)) (w64 (by omega) (by omega))) ?_
                refine Gx.val rfl rfl rfl (val_assign rfl rfl) ?_
                refine Gx.done ?_
                refine Gx.thenN ?_
                exact Gx.round (j + 1, v17, (xs ++ [(⟨4, p, ((j : Nat) : Int)⟩ : Cm)])) ⟨by first | omega | (dsimp only; omega), by first | omega | (dsimp only; omega) | (simp only [List.length_append, List.length_cons, List.length_nil]; omega)⟩ (by first | omega | (dsimp only; omega)) ((.cons rfl (.cons rfl (.cons rfl (.cons rfl (.cons rfl .nil)))))) rfl
              · refine Gx.skip ?_
                refine Gx.blkN ?_
                refine Gx.thenN ?_
                refine Gx.region ?_
                refine Gx.val rfl rfl rfl (val_move rfl rfl) ?_
                refine Gx.val rfl rfl rfl (val_add rfl rfl rfl (r := ((j + 1 : Nat) : Int)) (w64 (by omega) (by omega))) ?_
                refine Gx.val rfl rfl rfl (val_assign rfl rfl) ?_
                refine Gx.done ?_
                refine Gx.thenN ?_
                exact Gx.round (j + 1, av, xs) ⟨by first | omega | (dsimp only; omega), by first | omega | (dsimp only; omega) | (simp only [List.length_append, List.length_cons, List.length_nil]; omega)⟩ (by first | omega | (dsimp only; omega)) ((.cons rfl (.cons rfl (.cons rfl (.cons rfl (.cons rfl .nil)))))) rfl
            · refine Gx.exit ?_
              refine Gx.thenE ?_
              refine Gx.thenE ?_
              refine Gx.blkE ?_
              refine Gx.blkN ?_
              refine Gx.thenN ?_
              refine Gx.region ?_
              refine Gx.val rfl rfl rfl (val_move rfl rfl) ?_
              refine Gx.val rfl rfl rfl (val_sub rfl rfl rfl (r := (p - 1)) (w64 rfl (by omega))) ?_
              refine Gx.val rfl rfl rfl (val_assign rfl rfl) ?_
              refine Gx.done ?_
              refine Gx.thenN ?_
              exact Gx.round ((p - 1), av, xs) ⟨by first | omega | (dsimp only; omega), by first | omega | (dsimp only; omega) | (simp only [List.length_append, List.length_cons, List.length_nil]; omega)⟩ (by first | omega | (dsimp only; omega)) ((.cons rfl (.cons rfl (.cons rfl (.cons rfl .nil))))) rfl
          · refine Gx.exit ?_
            refine Gx.thenE ?_
            refine Gx.thenE ?_
            refine Gx.blkE ?_
            refine Gx.blkN ?_
            refine Gx.thenN ?_
            refine Gx.region ?_
            refine Gx.val rfl rfl rfl (val_move rfl rfl) ?_
            refine Gx.val rfl rfl rfl (val_add rfl rfl rfl (r := ((t + 1 : Nat) : Int)) (w64 (by omega) (by omega))) ?_
            refine Gx.val rfl rfl rfl (val_assign rfl rfl) ?_
            refine Gx.done ?_
            refine Gx.thenN ?_
            exact Gx.round (t + 1, av, xs) ⟨by first | omega | (dsimp only; omega), by first | omega | (dsimp only; omega) | (simp only [List.length_append, List.length_cons, List.length_nil]; omega)⟩ (by first | omega | (dsimp only; omega)) ((.cons rfl (.cons rfl (.cons rfl .nil)))) rfl
    · refine Gx.exit ?_
      refine Gx.thenE ?_
      refine Gx.thenE ?_
      refine Gx.blkE ?_
      refine Gx.thenN ?_
      refine Gx.seq ?_
      refine Gx.region ?_
      refine Gx.val rfl rfl rfl (val_move rfl rfl) ?_
      refine Gx.val rfl rfl rfl (val_move rfl rfl) ?_
      refine Gx.callB rfl rfl rfl (vs := [.int .i64 1, av]) rfl Try.fn7 rfl (R := PlayV 1 xs) (fun w H => (play_v (n := 1) ((H.at_ (k := 0) rfl).sls (by omega)) (by omega) (by omega) (by omega))) ?_
      rintro _ W19 ⟨a118, c118, a218, c218, a318, c318, ks18, ws18, bs18, aw18, dn18, rfl, hk18, hw18, hb18, hF18⟩ H20
      have hW21 := H20.below
      have hs22 := hs.below H20.below
      have hs23 := (H20.at_ (k := 0) rfl).sls (by first | omega | (simp; omega))
      have hkl18 := hF18.kl
      have hwl18 := hF18.wl
      have hbl18 := hF18.bl
      refine Gx.val rfl rfl rfl (val_move rfl rfl) ?_
      refine Gx.val rfl rfl rfl (val_extract rfl rfl rfl) ?_
      refine Gx.val rfl rfl rfl (val_extract rfl rfl rfl) ?_
      refine Gx.eff rfl rfl rfl (eff_alloc rfl Try.ty26 (vs := [.slice none 0 0, .slice none 0 0, .slice none 0 0, .int .i64 0, .bool false]) rfl) ?_
      rintro _ _ ⟨b24, rfl, rfl⟩
      refine Gx.eff0 rfl rfl (eff_store rfl Try.ty26 rfl rfl (us := [.slice a118 xs.length c118, .slice a218 1 c218, .slice a318 1 c318, .int .i64 ((aw18 : Nat) : Int), .bool dn18]) rfl rfl rfl (k := 0) rfl rfl (vs' := [.slice a118 xs.length c118, .slice a218 1 c218, .slice a318 1 c318, .int .i64 ((aw18 : Nat) : Int), .bool dn18]) rfl (l' := [Hp.rec_ b24 [.slice a118 xs.length c118, .slice a218 1 c218, .slice a318 1 c318, .int .i64 ((aw18 : Nat) : Int), .bool dn18]]) rfl) ?_
      rintro _ _ rfl
      refine Gx.val rfl rfl rfl (val_assign rfl rfl) ?_
      refine Gx.done ?_
      refine Gx.thenN ?_
      refine Gx.seq ?_
      refine Gx.seq ?_
      refine Gx.region ?_
      refine Gx.val rfl rfl rfl (val_move rfl rfl) ?_
      refine Gx.val rfl rfl rfl (Val.cast (val_neq rfl rfl rfl) (v' := .bool false) rfl) ?_
      refine Gx.val rfl rfl rfl (val_move rfl rfl) ?_
      refine Gx.valg rfl rfl rfl rfl rfl (Val.cast (val_fieldAddr rfl Try.underlying26 rfl Try.ty24 rfl rfl) (v' := ptr b24 1) rfl) ?_
      refine Gx.valg rfl rfl rfl rfl rfl (val_load rfl Try.ty24 rfl rfl (cell_rec (k := 0) rfl rfl)) ?_
      refine Gx.valg rfl rfl rfl rfl rfl (val_len rfl Try.underlying24 rfl (len_base hw18)) ?_
      refine Gx.valg rfl rfl rfl rfl rfl (val_move rfl rfl) ?_
      refine Gx.valg rfl rfl rfl rfl rfl (val_neq rfl rfl rfl) ?_
      refine Gx.val rfl rfl rfl (val_pickF rfl rfl rfl) ?_
      refine Gx.done ?_
      refine Gx.thenN ?_
      refine Gx.dec rfl (fun h25 => ?_) (fun h25 => ?_)
      · refine Gx.seq ?_
        refine Gx.region ?_
        refine Gx.val rfl rfl rfl (val_assign rfl rfl) ?_
        refine Gx.done ?_
        refine Gx.thenN ?_
        refine Gx.ret ?_
        refine Gx.thenR ?_
        refine Gx.ret1B hW21 Try.results4 rfl ?_
        exfalso; omega
      · refine Gx.skip ?_
        refine Gx.thenN ?_
        refine Gx.seq ?_
        refine Gx.region ?_
        refine Gx.val rfl rfl rfl (val_assign rfl rfl) ?_
        refine Gx.done ?_
        refine Gx.thenN ?_
        refine Gx.seq ?_
        refine Gx.seq ?_
        refine Gx.region ?_
        refine Gx.val rfl rfl rfl (Val.cast (val_fieldAddr rfl Try.underlying26 rfl Try.ty24 rfl rfl) (v' := ptr b24 1) rfl) ?_
        refine Gx.val rfl rfl rfl (val_load rfl Try.ty24 rfl rfl (cell_rec (k := 0) rfl rfl)) ?_
        refine Gx.val rfl rfl rfl (val_len rfl Try.underlying24 rfl (len_base hw18)) ?_
        refine Gx.val rfl rfl rfl (val_move rfl rfl) ?_
        refine Gx.done ?_
        refine Gx.thenN ?_
        refine Gx.block ?_
        refine Gx.loop (ι := Nat × Bool) (fun ξ => (ξ.1 ≤ ws18.length) ∧ (ξ.2 = (ws18.take ξ.1).any id)) (fun ξ => [(12, ptr b24 0), (110, .slice a218 1 c218), (111, .int .i64 ((ws18.length : Nat) : Int)), (14, .bool ξ.2), (112, .int .i64 ((ξ.1 : Nat) : Int))]) (fun ξ => [Hp.rec_ b24 [.slice a118 xs.length c118, .slice a218 1 c218, .slice a318 1 c318, .int .i64 ((aw18 : Nat) : Int), .bool dn18]]) (fun ξ => ws18.length - ξ.1) (0, false) ⟨by first | omega | (dsimp only; omega), rfl⟩ ((.cons rfl (.cons rfl (.cons rfl (.cons rfl (.cons rfl .nil)))))) rfl ?_
        rintro ⟨k, b⟩ ⟨hk, hb⟩
        dsimp only at hk hb
        refine Gx.know (m' := [(12, ptr b24 0), (110, .slice a218 1 c218), (111, .int .i64 ((ws18.length : Nat) : Int)), (14, .bool b), (112, .int .i64 ((k : Nat) : Int))]) (.cons rfl (.cons rfl (.cons rfl (.cons rfl (.cons rfl .nil))))) (Gx.norm (l' := [Hp.rec_ b24 [.slice a118 xs.length c118, .slice a218 1 c218, .slice a318 1 c318, .int .i64 ((aw18 : Nat) : Int), .bool dn18]]) rfl ?_)
        refine Gx.seq ?_
        refine Gx.region ?_
        refine Gx.val rfl rfl rfl (val_lss rfl rfl rfl) ?_
        refine Gx.done ?_
        refine Gx.thenN ?_
        refine Gx.seq ?_
        refine Gx.dec rfl (fun h26 => ?_) (fun h26 => ?_)
        · refine Gx.skip ?_
          refine Gx.thenN ?_
          refine Gx.seq ?_
          refine Gx.block ?_
          refine Gx.seq ?_
          refine Gx.region ?_
          obtain ⟨x27, hx27⟩ := get_of_lt (xs := ws18) (k := k) (by omega)
          refine Gx.val rfl rfl rfl (val_ixa rfl Try.underlying24 Try.ty4 rfl rfl (j := k) (rfl) (reach_base hw18 hx27)) ?_
          refine Gx.val rfl rfl rfl (val_load rfl Try.ty4 rfl rfl (cell_base (i := 0) hw18 hx27 rfl)) ?_
          refine Gx.val rfl rfl rfl (val_assign rfl rfl) ?_
          refine Gx.done ?_
          refine Gx.thenN ?_
          refine Gx.region ?_
          refine Gx.val rfl rfl rfl (val_move rfl rfl) ?_
          refine Gx.val rfl rfl rfl (val_move rfl rfl) ?_
          refine Gx.casesB (t := 117) rfl (fun h28 => ?_) (fun h28 => ?_)
          · refine Gx.skipg rfl rfl rfl rfl rfl rfl ?_
            refine Gx.val rfl rfl rfl (val_pickT rfl rfl rfl) ?_
            refine Gx.val rfl rfl rfl (val_assign rfl rfl) ?_
            refine Gx.done ?_
            refine Gx.blkN ?_
            refine Gx.thenN ?_
            refine Gx.region ?_
            refine Gx.val rfl rfl rfl (val_add rfl rfl rfl (r := ((k + 1 : Nat) : Int)) (w64 (by omega) (by omega))) ?_
            refine Gx.val rfl rfl rfl (val_move rfl rfl) ?_
            refine Gx.done ?_
            refine Gx.thenN ?_
            exact Gx.round (k + 1, true) ⟨by first | omega | (dsimp only; omega), by rw [take_of hx27, List.any_append, ← hb]; simp_all⟩ (by first | omega | (dsimp only; omega)) ((.cons rfl (.cons rfl (.cons rfl (.cons rfl (.cons rfl .nil)))))) rfl
          · refine Gx.valg rfl rfl rfl rfl rfl (val_move rfl rfl) ?_
            refine Gx.val rfl rfl rfl (val_pickF rfl rfl rfl) ?_
            refine Gx.val rfl rfl rfl (val_assign rfl rfl) ?_
            refine Gx.done ?_
            refine Gx.blkN ?_
            refine Gx.thenN ?_
            refine Gx.region ?_
            refine Gx.val rfl rfl rfl (val_add rfl rfl rfl (r := ((k + 1 : Nat) : Int)) (w64 (by omega) (by omega))) ?_
            refine Gx.val rfl rfl rfl (val_move rfl rfl) ?_
            refine Gx.done ?_
            refine Gx.thenN ?_
            exact Gx.round (k + 1, x27) ⟨by first | omega | (dsimp only; omega), by rw [take_of hx27, List.any_append, ← hb]; simp_all⟩ (by first | omega | (dsimp only; omega)) ((.cons rfl (.cons rfl (.cons rfl (.cons rfl (.cons rfl .nil)))))) rfl
        · refine Gx.exit ?_
          refine Gx.thenE ?_
          refine Gx.thenE ?_
          refine Gx.blkE ?_
          refine Gx.thenN ?_
          refine Gx.seq ?_
          refine Gx.region ?_
          refine Gx.val rfl rfl rfl (Val.cast (val_fieldAddr rfl Try.underlying26 rfl Try.ty4 rfl rfl) (v' := ptr b24 4) rfl) ?_
          refine Gx.val rfl rfl rfl (val_load rfl Try.ty4 rfl rfl (cell_rec (k := 0) rfl rfl)) ?_
          refine Gx.val rfl rfl rfl (val_move rfl rfl) ?_
          refine Gx.val rfl rfl rfl (val_not rfl rfl) ?_
          refine Gx.val rfl rfl rfl (val_move rfl rfl) ?_
          refine Gx.casesB (t := 125) rfl (fun h29 => ?_) (fun h29 => ?_)
          · refine Gx.valg rfl rfl rfl rfl rfl (Val.cast (val_fieldAddr rfl Try.underlying26 rfl Try.ty3 rfl rfl) (v' := ptr b24 3) rfl) ?_
            refine Gx.valg rfl rfl rfl rfl rfl (val_load rfl Try.ty3 rfl rfl (cell_rec (k := 0) rfl rfl)) ?_
            refine Gx.valg rfl rfl rfl rfl rfl (val_eql rfl rfl rfl) ?_
            refine Gx.val rfl rfl rfl (val_pickT rfl rfl rfl) ?_
            refine Gx.val rfl rfl rfl (val_eqlB Try.underlying4 rfl rfl rfl) ?_
            refine Gx.val rfl rfl rfl (val_assign rfl rfl) ?_
            refine Gx.done ?_
            refine Gx.thenN ?_
            refine Gx.ret ?_
            have ek : k = ws18.length := by omega
            subst ek
            rw [List.take_length] at hb
            have hT := tells hF18
            rw [← hb] at hT
            refine Gx.ret1B hW21 Try.results4 rfl ?_
            exact congrArg Value.bool (by rw [hT]; simp_all)
          · refine Gx.skipg rfl rfl rfl rfl rfl rfl ?_
            refine Gx.skipg rfl rfl rfl rfl rfl rfl ?_
            refine Gx.skipg rfl rfl rfl rfl rfl rfl ?_
            refine Gx.val rfl rfl rfl (val_pickF rfl rfl rfl) ?_
            refine Gx.val rfl rfl rfl (val_eqlB Try.underlying4 rfl rfl rfl) ?_
            refine Gx.val rfl rfl rfl (val_assign rfl rfl) ?_
            refine Gx.done ?_
            refine Gx.thenN ?_
            refine Gx.ret ?_
            have ek : k = ws18.length := by omega
            subst ek
            rw [List.take_length] at hb
            have hT := tells hF18
            rw [← hb] at hT
            refine Gx.ret1B hW21 Try.results4 rfl ?_
            exact congrArg Value.bool (by rw [hT]; simp_all)
  · refine Gx.skipg rfl rfl rfl rfl rfl rfl ?_
    refine Gx.skipg rfl rfl rfl rfl rfl rfl ?_
    refine Gx.skipg rfl rfl rfl rfl rfl rfl ?_
    refine Gx.skipg rfl rfl rfl rfl rfl rfl ?_
    refine Gx.skipg rfl rfl rfl rfl rfl rfl ?_
    refine Gx.skipg rfl rfl rfl rfl rfl rfl ?_
    refine Gx.skipg rfl rfl rfl rfl rfl rfl ?_
    refine Gx.skipg rfl rfl rfl rfl rfl rfl ?_
    refine Gx.val rfl rfl rfl (val_pickF rfl rfl rfl) ?_
    refine Gx.done ?_
    refine Gx.thenN ?_
    refine Gx.f rfl ?_
    refine Gx.exit ?_
    refine Gx.thenE ?_
    refine Gx.thenE ?_
    refine Gx.blkE ?_
    refine Gx.thenN ?_
    refine Gx.seq ?_
    refine Gx.region ?_
    refine Gx.val rfl rfl rfl (val_move rfl rfl) ?_
    refine Gx.val rfl rfl rfl (val_move rfl rfl) ?_
    refine Gx.callB rfl rfl rfl (vs := [.int .i64 1, av]) rfl Try.fn7 rfl (R := PlayV 1 xs) (fun w H => (play_v (n := 1) ((H.at_ (k := 0) rfl).sls (by omega)) (by omega) (by omega) (by omega))) ?_
    rintro _ W31 ⟨a130, c130, a230, c230, a330, c330, ks30, ws30, bs30, aw30, dn30, rfl, hk30, hw30, hb30, hF30⟩ H32
    have hW33 := H32.below
    have hs34 := hs.below H32.below
    have hs35 := (H32.at_ (k := 0) rfl).sls (by first | omega | (simp; omega))
    have hkl30 := hF30.kl
    have hwl30 := hF30.wl
    have hbl30 := hF30.bl
    refine Gx.val rfl rfl rfl (val_move rfl rfl) ?_
    refine Gx.val rfl rfl rfl (val_extract rfl rfl rfl) ?_
    refine Gx.val rfl rfl rfl (val_extract rfl rfl rfl) ?_
    refine Gx.eff rfl rfl rfl (eff_alloc rfl Try.ty26 (vs := [.slice none 0 0, .slice none 0 0, .slice none 0 0, .int .i64 0, .bool false]) rfl) ?_
    rintro _ _ ⟨b36, rfl, rfl⟩
    refine Gx.eff0 rfl rfl (eff_store rfl Try.ty26 rfl rfl (us := [.slice a130 xs.length c130, .slice a230 1 c230, .slice a330 1 c330, .int .i64 ((aw30 : Nat) : Int), .bool dn30]) rfl rfl rfl (k := 0) rfl rfl (vs' := [.slice a130 xs.length c130, .slice a230 1 c230, .slice a330 1 c330, .int .i64 ((aw30 : Nat) : Int), .bool dn30]) rfl (l' := [Hp.rec_ b36 [.slice a130 xs.length c130, .slice a230 1 c230, .slice a330 1 c330, .int .i64 ((aw30 : Nat) : Int), .bool dn30]]) rfl) ?_
    rintro _ _ rfl
    refine Gx.val rfl rfl rfl (val_assign rfl rfl) ?_
    refine Gx.done ?_
    refine Gx.thenN ?_
    refine Gx.seq ?_
    refine Gx.seq ?_
    refine Gx.region ?_
    refine Gx.val rfl rfl rfl (val_move rfl rfl) ?_
    refine Gx.val rfl rfl rfl (Val.cast (val_neq rfl rfl rfl) (v' := .bool false) rfl) ?_
    refine Gx.val rfl rfl rfl (val_move rfl rfl) ?_
    refine Gx.valg rfl rfl rfl rfl rfl (Val.cast (val_fieldAddr rfl Try.underlying26 rfl Try.ty24 rfl rfl) (v' := ptr b36 1) rfl) ?_
    refine Gx.valg rfl rfl rfl rfl rfl (val_load rfl Try.ty24 rfl rfl (cell_rec (k := 0) rfl rfl)) ?_
    refine Gx.valg rfl rfl rfl rfl rfl (val_len rfl Try.underlying24 rfl (len_base hw30)) ?_
    refine Gx.valg rfl rfl rfl rfl rfl (val_move rfl rfl) ?_
    refine Gx.valg rfl rfl rfl rfl rfl (val_neq rfl rfl rfl) ?_
    refine Gx.val rfl rfl rfl (val_pickF rfl rfl rfl) ?_
    refine Gx.done ?_
    refine Gx.thenN ?_
    refine Gx.dec rfl (fun h37 => ?_) (fun h37 => ?_)
    · refine Gx.seq ?_
      refine Gx.region ?_
      refine Gx.val rfl rfl rfl (val_assign rfl rfl) ?_
      refine Gx.done ?_
      refine Gx.thenN ?_
      refine Gx.ret ?_
      refine Gx.thenR ?_
      refine Gx.ret1B hW33 Try.results4 rfl ?_
      exfalso; omega
    · refine Gx.skip ?_
      refine Gx.thenN ?_
      refine Gx.seq ?_
      refine Gx.region ?_
      refine Gx.val rfl rfl rfl (val_assign rfl rfl) ?_
      refine Gx.done ?_
      refine Gx.thenN ?_
      refine Gx.seq ?_
      refine Gx.seq ?_
      refine Gx.region ?_
      refine Gx.val rfl rfl rfl (Val.cast (val_fieldAddr rfl Try.underlying26 rfl Try.ty24 rfl rfl) (v' := ptr b36 1) rfl) ?_
      refine Gx.val rfl rfl rfl (val_load rfl Try.ty24 rfl rfl (cell_rec (k := 0) rfl rfl)) ?_
      refine Gx.val rfl rfl rfl (val_len rfl Try.underlying24 rfl (len_base hw30)) ?_
      refine Gx.val rfl rfl rfl (val_move rfl rfl) ?_
      refine Gx.done ?_
      refine Gx.thenN ?_
      refine Gx.block ?_
      refine Gx.loop (ι := Nat × Bool) (fun ξ => (ξ.1 ≤ ws30.length) ∧ (ξ.2 = (ws30.take ξ.1).any id)) (fun ξ => [(12, ptr b36 0), (110, .slice a230 1 c230), (111, .int .i64 ((ws30.length : Nat) : Int)), (14, .bool ξ.2), (112, .int .i64 ((ξ.1 : Nat) : Int))]) (fun ξ => [Hp.rec_ b36 [.slice a130 xs.length c130, .slice a230 1 c230, .slice a330 1 c330, .int .i64 ((aw30 : Nat) : Int), .bool dn30]]) (fun ξ => ws30.length - ξ.1) (0, false) ⟨by first | omega | (dsimp only; omega), rfl⟩ ((.cons rfl (.cons rfl (.cons rfl (.cons rfl (.cons rfl .nil)))))) rfl ?_
      rintro ⟨k, b⟩ ⟨hk, hb⟩
      dsimp only at hk hb
      refine Gx.know (m' := [(12, ptr b36 0), (110, .slice a230 1 c230), (111, .int .i64 ((ws30.length : Nat) : Int)), (14, .bool b), (112, .int .i64 ((k : Nat) : Int))]) (.cons rfl (.cons rfl (.cons rfl (.cons rfl (.cons rfl .nil))))) (Gx.norm (l' := [Hp.rec_ b36 [.slice a130 xs.length c130, .slice a230 1 c230, .slice a330 1 c330, .int .i64 ((aw30 : Nat) : Int), .bool dn30]]) rfl ?_)
      refine Gx.seq ?_
      refine Gx.region ?_
      refine Gx.val rfl rfl rfl (val_lss rfl rfl rfl) ?_
      refine Gx.done ?_
      refine Gx.thenN ?_
      refine Gx.seq ?_
      refine Gx.dec rfl (fun h38 => ?_) (fun h38 => ?_)
      · refine Gx.skip ?_
        refine Gx.thenN ?_
        refine Gx.seq ?_
        refine Gx.block ?_
        refine Gx.seq ?_
        refine Gx.region ?_
        obtain ⟨x39, hx39⟩ := get_of_lt (xs := ws30) (k := k) (by omega)
        refine Gx.val rfl rfl rfl (val_ixa rfl Try.underlying24 Try.ty4 rfl rfl (j := k) (rfl) (reach_base hw30 hx39)) ?_
        refine Gx.val rfl rfl rfl (val_load rfl Try.ty4 rfl rfl (cell_base (i := 0) hw30 hx39 rfl)) ?_
        refine Gx.val rfl rfl rfl (val_assign rfl rfl) ?_
        refine Gx.done ?_
        refine Gx.thenN ?_
        refine Gx.region ?_
        refine Gx.val rfl rfl rfl (val_move rfl rfl) ?_
        refine Gx.val rfl rfl rfl (val_move rfl rfl) ?_
        refine Gx.casesB (t := 117) rfl (fun h40 => ?_) (fun h40 => ?_)
        · refine Gx.skipg rfl rfl rfl rfl rfl rfl ?_
          refine Gx.val rfl rfl rfl (val_pickT rfl rfl rfl) ?_
          refine Gx.val rfl rfl rfl (val_assign rfl rfl) ?_
          refine Gx.done ?_
          refine Gx.blkN ?_
          refine Gx.thenN ?_
          refine Gx.region ?_
          refine Gx.val rfl rfl rfl (val_add rfl rfl rfl (r := ((k + 1 : Nat) : Int)) (w64 (by omega) (by omega))) ?_
          refine Gx.val rfl rfl rfl (val_move rfl rfl) ?_
          refine Gx.done ?_
          refine Gx.thenN ?_
          exact Gx.round (k + 1, true) ⟨by first | omega | (dsimp only; omega), by rw [take_of hx39, List.any_append, ← hb]; simp_all⟩ (by first | omega | (dsimp only; omega)) ((.cons rfl (.cons rfl (.cons rfl (.cons rfl (.cons rfl .nil)))))) rfl
        · refine Gx.valg rfl rfl rfl rfl rfl (val_move rfl rfl) ?_
          refine Gx.val rfl rfl rfl (val_pickF rfl rfl rfl) ?_
          refine Gx.val rfl rfl rfl (val_assign rfl rfl) ?_
          refine Gx.done ?_
          refine Gx.blkN ?_
          refine Gx.thenN ?_
          refine Gx.region ?_
          refine Gx.val rfl rfl rfl (val_add rfl rfl rfl (r := ((k + 1 : Nat) : Int)) (w64 (by omega) (by omega))) ?_
          refine Gx.val rfl rfl rfl (val_move rfl rfl) ?_
          refine Gx.done ?_
          refine Gx.thenN ?_
          exact Gx.round (k + 1, x39) ⟨by first | omega | (dsimp only; omega), by rw [take_of hx39, List.any_append, ← hb]; simp_all⟩ (by first | omega | (dsimp only; omega)) ((.cons rfl (.cons rfl (.cons rfl (.cons rfl (.cons rfl .nil)))))) rfl
      · refine Gx.exit ?_
        refine Gx.thenE ?_
        refine Gx.thenE ?_
        refine Gx.blkE ?_
        refine Gx.thenN ?_
        refine Gx.seq ?_
        refine Gx.region ?_
        refine Gx.val rfl rfl rfl (Val.cast (val_fieldAddr rfl Try.underlying26 rfl Try.ty4 rfl rfl) (v' := ptr b36 4) rfl) ?_
        refine Gx.val rfl rfl rfl (val_load rfl Try.ty4 rfl rfl (cell_rec (k := 0) rfl rfl)) ?_
        refine Gx.val rfl rfl rfl (val_move rfl rfl) ?_
        refine Gx.val rfl rfl rfl (val_not rfl rfl) ?_
        refine Gx.val rfl rfl rfl (val_move rfl rfl) ?_
        refine Gx.casesB (t := 125) rfl (fun h41 => ?_) (fun h41 => ?_)
        · refine Gx.valg rfl rfl rfl rfl rfl (Val.cast (val_fieldAddr rfl Try.underlying26 rfl Try.ty3 rfl rfl) (v' := ptr b36 3) rfl) ?_
          refine Gx.valg rfl rfl rfl rfl rfl (val_load rfl Try.ty3 rfl rfl (cell_rec (k := 0) rfl rfl)) ?_
          refine Gx.valg rfl rfl rfl rfl rfl (val_eql rfl rfl rfl) ?_
          refine Gx.val rfl rfl rfl (val_pickT rfl rfl rfl) ?_
          refine Gx.val rfl rfl rfl (val_eqlB Try.underlying4 rfl rfl rfl) ?_
          refine Gx.val rfl rfl rfl (val_assign rfl rfl) ?_
          refine Gx.done ?_
          refine Gx.thenN ?_
          refine Gx.ret ?_
          have ek : k = ws30.length := by omega
          subst ek
          rw [List.take_length] at hb
          have hT := tells hF30
          rw [← hb] at hT
          refine Gx.ret1B hW33 Try.results4 rfl ?_
          exact congrArg Value.bool (by rw [hT]; simp_all)
        · refine Gx.skipg rfl rfl rfl rfl rfl rfl ?_
          refine Gx.skipg rfl rfl rfl rfl rfl rfl ?_
          refine Gx.skipg rfl rfl rfl rfl rfl rfl ?_
          refine Gx.val rfl rfl rfl (val_pickF rfl rfl rfl) ?_
          refine Gx.val rfl rfl rfl (val_eqlB Try.underlying4 rfl rfl rfl) ?_
          refine Gx.val rfl rfl rfl (val_assign rfl rfl) ?_
          refine Gx.done ?_
          refine Gx.thenN ?_
          refine Gx.ret ?_
          have ek : k = ws30.length := by omega
          subst ek
          rw [List.take_length] at hb
          have hT := tells hF30
          rw [← hb] at hT
          refine Gx.ret1B hW33 Try.results4 rfl ?_
          exact congrArg Value.bool (by rw [hT]; simp_all)

theorem tells_in2 {W : World} {sv : Value} {cs : List Cm}  (hs : SlS FC 3 W sv cs) (hl : cs.length ≤ 10) :
    Calls Try.prog 4 #[.int .i64 2, sv] W fun e w' => e = .returned (.bool true) ∧ Below W.heap.size W w' := by
  refine calls_pure (Gx.enter (l := []) Try.func4 rfl Try.ntmps4 rfl (Sat.start W) ?_)
  refine Gx.know (m' := [(0, .int .i64 2), (1, sv)]) (.cons rfl (.cons rfl .nil)) ?_
  refine Gx.seq ?_
  refine Gx.region ?_
  refine Gx.val rfl rfl rfl (val_assign rfl rfl) ?_
  refine Gx.done ?_
  refine Gx.thenN ?_
  refine Gx.seq ?_
  refine Gx.seq ?_
  refine Gx.region ?_
  refine Gx.val rfl rfl rfl (val_move rfl rfl) ?_
  refine Gx.val rfl rfl rfl (Val.cast (val_lss rfl rfl rfl) (v' := .bool false) rfl) ?_
  refine Gx.val rfl rfl rfl (val_move rfl rfl) ?_
  refine Gx.valg rfl rfl rfl rfl rfl (val_move rfl rfl) ?_
  refine Gx.valg rfl rfl rfl rfl rfl (Val.cast (val_gtr rfl rfl rfl) (v' := .bool false) rfl) ?_
  refine Gx.val rfl rfl rfl (val_pickF rfl rfl rfl) ?_
  refine Gx.val rfl rfl rfl (val_move rfl rfl) ?_
  refine Gx.valg rfl rfl rfl rfl rfl (val_move rfl rfl) ?_
  refine Gx.valg rfl rfl rfl rfl rfl (val_len rfl Try.underlying22 rfl (len_base hs)) ?_
  refine Gx.valg rfl rfl rfl rfl rfl (val_gtr rfl rfl rfl) ?_
  refine Gx.val rfl rfl rfl (val_pickF rfl rfl rfl) ?_
  refine Gx.done ?_
  refine Gx.thenN ?_
  refine Gx.decF rfl (by omega) ?_
  refine Gx.skip ?_
  refine Gx.thenN ?_
  refine Gx.seq ?_
  refine Gx.region ?_
  refine Gx.eff rfl rfl rfl (eff_buildNil (f := FC) (sz := 3) (e := 32) rfl Try.underlying22 (fun w => by first | (go_simp; done) | (go_simp; rfl))) ?_
  rintro v1 _ ⟨hiv1, rfl⟩
  refine Gx.val rfl rfl rfl (val_move rfl rfl) ?_
  refine Gx.eff rfl rfl rfl (eff_pushAll (k := 0) (ys := cs) rfl Try.eCm FC_len FC_one rfl rfl (fun w H => hs.below H.below) rfl (by simp; omega) (by simp; omega)) ?_
  rintro v2 _ ⟨hiv2, rfl⟩
  refine Gx.norm (l' := [Hp.own FC 3 v2 cs]) rfl ?_
  refine Gx.val rfl rfl rfl (val_assign rfl rfl) ?_
  refine Gx.done ?_
  refine Gx.thenN ?_
  refine Gx.seq ?_
  refine Gx.seq ?_
  refine Gx.region ?_
  refine Gx.val rfl rfl rfl (val_assign rfl rfl) ?_
  refine Gx.done ?_
  refine Gx.thenN ?_
  refine Gx.block ?_
  refine Gx.loop (ι := Nat × Value × (List Cm)) (fun ξ => (ξ.1 ≤ 12) ∧ (ξ.2.2.length ≤ 120)) (fun ξ => [(0, .int .i64 2), (5, ξ.2.1), (6, .int .i64 ((ξ.1 : Nat) : Int))]) (fun ξ => [Hp.own FC 3 ξ.2.1 ξ.2.2]) (fun ξ => 12 - ξ.1) (0, v2, cs) ⟨by first | omega | (dsimp only; omega), by first | omega | (dsimp only; omega)⟩ ((.cons rfl (.cons rfl (.cons rfl .nil)))) rfl ?_
  rintro ⟨t, av, xs⟩ ⟨ht, hx⟩
  dsimp only at ht hx
  refine Gx.know (m' := [(0, .int .i64 2), (5, av), (6, .int .i64 ((t : Nat) : Int))]) (.cons rfl (.cons rfl (.cons rfl .nil))) (Gx.norm (l' := [Hp.own FC 3 av xs]) rfl ?_)
  refine Gx.seq ?_
  refine Gx.seq ?_
  refine Gx.region ?_
  refine Gx.val rfl rfl rfl (val_move rfl rfl) ?_
  refine Gx.val rfl rfl rfl (val_lss rfl rfl rfl) ?_
  refine Gx.val rfl rfl rfl (val_move rfl rfl) ?_
  refine Gx.cases (t := 33) rfl (fun h3 => ?_) (fun h3 => ?_)
  · refine Gx.valg rfl rfl rfl rfl rfl (val_move rfl rfl) ?_
    refine Gx.valg rfl rfl rfl rfl rfl (val_len rfl Try.underlying22 rfl (len_own (k := 0) rfl)) ?_
    refine Gx.valg rfl rfl rfl rfl rfl (val_move rfl rfl) ?_
    refine Gx.valg rfl rfl rfl rfl rfl (val_mul rfl rfl rfl (r := 6) (w64 (by omega) (by omega))) ?_
    refine Gx.valg rfl rfl rfl rfl rfl (val_move rfl rfl) ?_
    refine Gx.valg rfl rfl rfl rfl rfl (val_mul rfl rfl rfl (r := 12) (w64 (by omega) (by omega))) ?_
    refine Gx.valg rfl rfl rfl rfl rfl (val_add rfl rfl rfl (r := ((xs.length + 12 : Nat) : Int)) (w64 (by omega) (by omega))) ?_
    refine Gx.valg rfl rfl rfl rfl rfl (val_leq rfl rfl rfl) ?_
    refine Gx.val rfl rfl rfl (val_pickT rfl rfl rfl) ?_
    refine Gx.done ?_
    refine Gx.thenN ?_
    refine Gx.dec rfl (fun h4 => ?_) (fun h4 => ?_)
    · refine Gx.skip ?_
      refine Gx.thenN ?_
      refine Gx.seq ?_
      refine Gx.block ?_
      refine Gx.seq ?_
      refine Gx.seq ?_
      refine Gx.region ?_
      refine Gx.val rfl rfl rfl (val_assign rfl rfl) ?_
      refine Gx.done ?_
      refine Gx.thenN ?_
      refine Gx.block ?_
      refine Gx.loop (ι := Nat × Value × (List Cm)) (fun ξ => (ξ.1 ≤ 2) ∧ (ξ.2.2.length + 12 ≤ 120 + 2 * ξ.1)) (fun ξ => [(0, .int .i64 2), (5, ξ.2.1), (6, .int .i64 ((t : Nat) : Int)), (7, .int .i64 ((ξ.1 : Nat) : Int))]) (fun ξ => [Hp.own FC 3 ξ.2.1 ξ.2.2]) (fun ξ => 2 - ξ.1) (0, av, xs) ⟨by first | omega | (dsimp only; omega), by first | omega | (dsimp only; omega)⟩ ((.cons rfl (.cons rfl (.cons rfl (.cons rfl .nil))))) rfl ?_
      rintro ⟨i, av, xs⟩ ⟨hi, hx⟩
      dsimp only at hi hx
      refine Gx.know (m' := [(0, .int .i64 2), (5, av), (6, .int .i64 ((t : Nat) : Int)), (7, .int .i64 ((i : Nat) : Int))]) (.cons rfl (.cons rfl (.cons rfl (.cons rfl .nil)))) (Gx.norm (l' := [Hp.own FC 3 av xs]) rfl ?_)
      refine Gx.seq ?_
      refine Gx.seq ?_
      refine Gx.region ?_
      refine Gx.val rfl rfl rfl (val_move rfl rfl) ?_
      refine Gx.val rfl rfl rfl (val_move rfl rfl) ?_
      refine Gx.val rfl rfl rfl (val_lss rfl rfl rfl) ?_
      refine Gx.done ?_
      refine Gx.thenN ?_
      refine Gx.dec rfl (fun h5 => ?_) (fun h5 => ?_)
      · refine Gx.skip ?_
        refine Gx.thenN ?_
        refine Gx.seq ?_
        refine Gx.block ?_
        refine Gx.seq ?_
        refine Gx.region ?_
        refine Gx.val rfl rfl rfl (val_assign rfl rfl) ?_
        refine Gx.done ?_
        refine Gx.thenN ?_
        refine Gx.block ?_
        refine Gx.loop (ι := Nat × Value × (List Cm)) (fun ξ => (ξ.1 ≤ 2) ∧ (ξ.2.2.length + 12 ≤ 120 + 2 * i + ξ.1)) (fun ξ => [(0, .int .i64 2), (5, ξ.2.1), (6, .int .i64 ((t : Nat) : Int)), (7, .int .i64 ((i : Nat) : Int)), (8, .int .i64 ((ξ.1 : Nat) : Int))]) (fun ξ => [Hp.own FC 3 ξ.2.1 ξ.2.2]) (fun ξ => 2 - ξ.1) (0, av, xs) ⟨by first | omega | (dsimp only; omega), by first | omega | (dsimp only; omega)⟩ ((.cons rfl (.cons rfl (.cons rfl (.cons rfl (.cons rfl .nil)))))) rfl ?_
        rintro ⟨j, av, xs⟩ ⟨hj, hx⟩
        dsimp only at hj hx
        refine Gx.know (m' := [(0, .int .i64 2), (5, av), (6, .int .i64 ((t : Nat) : Int)), (7, .int .i64 ((i : Nat) : Int)), (8, .int .i64 ((j : Nat) : Int))]) (.cons rfl (.cons rfl (.cons rfl (.cons rfl (.cons rfl .nil))))) (Gx.norm (l' := [Hp.own FC 3 av xs]) rfl ?_)
        refine Gx.seq ?_
        refine Gx.seq ?_
        refine Gx.region ?_
        refine Gx.val rfl rfl rfl (val_move rfl rfl) ?_
        refine Gx.val rfl rfl rfl (val_move rfl rfl) ?_
        refine Gx.val rfl rfl rfl (val_lss rfl rfl rfl) ?_
        refine Gx.done ?_
        refine Gx.thenN ?_
        refine Gx.dec rfl (fun h6 => ?_) (fun h6 => ?_)
        · refine Gx.skip ?_
          refine Gx.thenN ?_
          refine Gx.seq ?_
          refine Gx.block ?_
          refine Gx.seq ?_
          refine Gx.region ?_
          refine Gx.val rfl rfl rfl (val_move rfl rfl) ?_
          refine Gx.val rfl rfl rfl (val_move rfl rfl) ?_
          refine Gx.val rfl rfl rfl (val_neq rfl rfl rfl) ?_
          refine Gx.done ?_
          refine Gx.thenN ?_
          refine Gx.dec rfl (fun h7 => ?_) (fun h7 => ?_)
          · refine Gx.region ?_
            refine Gx.val rfl rfl rfl (val_move rfl rfl) ?_
            refine Gx.val rfl rfl rfl (val_move rfl rfl) ?_
            refine Gx.val rfl rfl rfl (val_move rfl rfl) ?_
            refine Gx.val rfl rfl rfl (val_build rfl (qs := [(0, .int .i64 2), (1, .int .i64 ((i : Nat) : Int)), (2, .int .i64 ((j : Nat) : Int))]) rfl rfl (fun w => by go_simp) (v := .agg #[.int .i64 2, .int .i64 ((i : Nat) : Int), .int .i64 ((j : Nat) : Int)])) ?_
            refine Gx.eff rfl rfl rfl (eff_buildSlice rfl (qs := [(0, .agg #[.int .i64 2, .int .i64 ((i : Nat) : Int), .int .i64 ((j : Nat) : Int)])]) rfl rfl (cs := #[.int .i64 2, .int .i64 ((i : Nat) : Int), .int .i64 ((j : Nat) : Int)]) (vs := [.int .i64 2, .int .i64 ((i : Nat) : Int), .int .i64 ((j : Nat) : Int)]) (E := 32) rfl (fun w => by first | (go_simp; done) | (go_simp; rfl))) ?_
            rintro _ _ ⟨b8, rfl, rfl⟩
            refine Gx.eff rfl rfl rfl (eff_push (r := (⟨2, ((i : Nat) : Int), ((j : Nat) : Int)⟩ : Cm)) rfl Try.eCm FC_len FC_one rfl rfl (k := 0) rfl rfl (k' := 0) rfl (by omega) (by omega)) ?_
            rintro v9 _ ⟨hiv9, rfl⟩
            refine Gx.norm (l' := [Hp.own FC 3 v9 (xs ++ [(⟨2, ((i : Nat) : Int), ((j : Nat) : Int)⟩ : Cm)])]) rfl ?_
            refine Gx.val rfl rfl rfl (val_assign rfl rfl) ?_
            refine Gx.done ?_
            refine Gx.blkN ?_
            refine Gx.thenN ?_
            refine Gx.region ?_
            refine Gx.val rfl rfl rfl (val_move rfl rfl) ?_
            refine Gx.val rfl rfl rfl (val_add rfl rfl rfl (r := ((j + 1 : Nat) : Int)) (w64 (by omega) (by omega))) ?_
            refine Gx.val rfl rfl rfl (val_assign rfl rfl) ?_
            refine Gx.done ?_
            refine Gx.thenN ?_
            exact Gx.round (j + 1, v9, (xs ++ [(⟨2, ((i : Nat) : Int), ((j : Nat) : Int)⟩ : Cm)])) ⟨by first | omega | (dsimp only; omega), by first | omega | (dsimp only; omega) | (simp only [List.length_append, List.length_cons, List.length_nil]; omega)⟩ (by first | omega | (dsimp only; omega)) ((.cons rfl (.cons rfl (.cons rfl (.cons rfl (.cons rfl .nil)))))) rfl
          · refine Gx.skip ?_
            refine Gx.blkN ?_
            refine Gx.thenN ?_
            refine Gx.region ?_
            refine Gx.val rfl rfl rfl (val_move rfl rfl) ?_
            refine Gx.val rfl rfl rfl (val_add rfl rfl rfl (r := ((j + 1 : Nat) : Int)) (w64 (by omega) (by omega))) ?_
            refine Gx.val rfl rfl rfl (val_assign rfl rfl) ?_
            refine Gx.done ?_
            refine Gx.thenN ?_
            exact Gx.round (j + 1, av, xs) ⟨by first | omega | (dsimp only; omega), by first | omega | (dsimp only; omega) | (simp only [List.length_append, List.length_cons, List.length_nil]; omega)⟩ (by first | omega | (dsimp only; omega)) ((.cons rfl (.cons rfl (.cons rfl (.cons rfl (.cons rfl .nil)))))) rfl
        · refine Gx.exit ?_
          refine Gx.thenE ?_
          refine Gx.thenE ?_
          refine Gx.blkE ?_
          refine Gx.blkN ?_
          refine Gx.thenN ?_
          refine Gx.region ?_
          refine Gx.val rfl rfl rfl (val_move rfl rfl) ?_
          refine Gx.val rfl rfl rfl (val_add rfl rfl rfl (r := ((i + 1 : Nat) : Int)) (w64 (by omega) (by omega))) ?_
          refine Gx.val rfl rfl rfl (val_assign rfl rfl) ?_
          refine Gx.done ?_
          refine Gx.thenN ?_
          exact Gx.round (i + 1, av, xs) ⟨by first | omega | (dsimp only; omega), by first | omega | (dsimp only; omega) | (simp only [List.length_append, List.length_cons, List.length_nil]; omega)⟩ (by first | omega | (dsimp only; omega)) ((.cons rfl (.cons rfl (.cons rfl (.cons rfl .nil))))) rfl
      · refine Gx.exit ?_
        refine Gx.thenE ?_
        refine Gx.thenE ?_
        refine Gx.blkE ?_
        refine Gx.thenN ?_
        refine Gx.seq ?_
        refine Gx.seq ?_
        refine Gx.region ?_
        refine Gx.val rfl rfl rfl (val_assign rfl rfl) ?_
        refine Gx.done ?_
        refine Gx.thenN ?_
        refine Gx.block ?_
        refine Gx.loop (ι := Nat × Value × (List Cm)) (fun ξ => (ξ.1 ≤ 2) ∧ (ξ.2.2.length + 8 ≤ 120 + ξ.1)) (fun ξ => [(0, .int .i64 2), (5, ξ.2.1), (6, .int .i64 ((t : Nat) : Int)), (9, .int .i64 ((ξ.1 : Nat) : Int))]) (fun ξ => [Hp.own FC 3 ξ.2.1 ξ.2.2]) (fun ξ => 2 - ξ.1) (0, av, xs) ⟨by first | omega | (dsimp only; omega), by first | omega | (dsimp only; omega)⟩ ((.cons rfl (.cons rfl (.cons rfl (.cons rfl .nil))))) rfl ?_
        rintro ⟨i, av, xs⟩ ⟨hi, hx⟩
        dsimp only at hi hx
        refine Gx.know (m' := [(0, .int .i64 2), (5, av), (6, .int .i64 ((t : Nat) : Int)), (9, .int .i64 ((i : Nat) : Int))]) (.cons rfl (.cons rfl (.cons rfl (.cons rfl .nil)))) (Gx.norm (l' := [Hp.own FC 3 av xs]) rfl ?_)
        refine Gx.seq ?_
        refine Gx.seq ?_
        refine Gx.region ?_
        refine Gx.val rfl rfl rfl (val_move rfl rfl) ?_
        refine Gx.val rfl rfl rfl (val_move rfl rfl) ?_
        refine Gx.val rfl rfl rfl (val_lss rfl rfl rfl) ?_
        refine Gx.done ?_
        refine Gx.thenN ?_
        refine Gx.dec rfl (fun h10 => ?_) (fun h10 => ?_)
        · refine Gx.skip ?_
          refine Gx.thenN ?_
          refine Gx.seq ?_
          refine Gx.block ?_
          refine Gx.region ?_
          refine Gx.val rfl rfl rfl (val_move rfl rfl) ?_
          refine Gx.val rfl rfl rfl (val_move rfl rfl) ?_
          refine Gx.val rfl rfl rfl (val_build rfl (qs := [(0, .int .i64 3), (1, .int .i64 ((i : Nat) : Int))]) rfl rfl (fun w => by go_simp) (v := .agg #[.int .i64 3, .int .i64 ((i : Nat) : Int), .int .i64 0])) ?_
          refine Gx.eff rfl rfl rfl (eff_buildSlice rfl (qs := [(0, .agg #[.int .i64 3, .int .i64 ((i : Nat) : Int), .int .i64 0])]) rfl rfl (cs := #[.int .i64 3, .int .i64 ((i : Nat) : Int), .int .i64 0]) (vs := [.int .i64 3, .int .i64 ((i : Nat) : Int), .int .i64 0]) (E := 32) rfl (fun w => by first | (go_simp; done) | (go_simp; rfl))) ?_
          rintro _ _ ⟨b11, rfl, rfl⟩
          refine Gx.eff rfl rfl rfl (eff_push (r := (⟨3, ((i : Nat) : Int), 0⟩ : Cm)) rfl Try.eCm FC_len FC_one rfl rfl (k := 0) rfl rfl (k' := 0) rfl (by omega) (by omega)) ?_
          rintro v12 _ ⟨hiv12, rfl⟩
          refine Gx.norm (l' := [Hp.own FC 3 v12 (xs ++ [(⟨3, ((i : Nat) : Int), 0⟩ : Cm)])]) rfl ?_
          refine Gx.val rfl rfl rfl (val_assign rfl rfl) ?_
          refine Gx.done ?_
          refine Gx.blkN ?_
          refine Gx.thenN ?_
          refine Gx.region ?_
          refine Gx.val rfl rfl rfl (val_move rfl rfl) ?_
          refine Gx.val rfl rfl rfl (val_add rfl rfl rfl (r := ((i + 1 : Nat) : Int)) (w64 (by omega) (by omega))) ?_
          refine Gx.val rfl rfl rfl (val_assign rfl rfl) ?_
          refine Gx.done ?_
          refine Gx.thenN ?_
          exact Gx.round (i + 1, v12, (xs ++ [(⟨3, ((i : Nat) : Int), 0⟩ : Cm)])) ⟨by first | omega | (dsimp only; omega), by first | omega | (dsimp only; omega) | (simp only [List.length_append, List.length_cons, List.length_nil]; omega)⟩ (by first | omega | (dsimp only; omega)) ((.cons rfl (.cons rfl (.cons rfl (.cons rfl .nil))))) rfl
        · refine Gx.exit ?_
          refine Gx.thenE ?_
          refine Gx.thenE ?_
          refine Gx.blkE ?_
          refine Gx.thenN ?_
          refine Gx.seq ?_
          refine Gx.region ?_
          refine Gx.val rfl rfl rfl (val_move rfl rfl) ?_
          refine Gx.val rfl rfl rfl (val_sub rfl rfl rfl (r := 1) (w64 (by omega) (by omega))) ?_
          refine Gx.val rfl rfl rfl (val_assign rfl rfl) ?_
          refine Gx.done ?_
          refine Gx.thenN ?_
          refine Gx.block ?_
          refine Gx.loop (ι := Int × Value × (List Cm)) (fun ξ => (-1 ≤ ξ.1 ∧ ξ.1 < 2) ∧ ((ξ.2.2.length : Int) + 4 ≤ 120 + 2 * (2 - 1 - ξ.1))) (fun ξ => [(0, .int .i64 2), (5, ξ.2.1), (6, .int .i64 ((t : Nat) : Int)), (10, .int .i64 ξ.1)]) (fun ξ => [Hp.own FC 3 ξ.2.1 ξ.2.2]) (fun ξ => (ξ.1 + 1).toNat) (1, av, xs) ⟨by first | omega | (dsimp only; omega), by first | omega | (dsimp only; omega)⟩ ((.cons rfl (.cons rfl (.cons rfl (.cons rfl .nil))))) rfl ?_
          rintro ⟨p, av, xs⟩ ⟨hp, hx⟩
          dsimp only at hp hx
          refine Gx.know (m' := [(0, .int .i64 2), (5, av), (6, .int .i64 ((t : Nat) : Int)), (10, .int .i64 p)]) (.cons rfl (.cons rfl (.cons rfl (.cons rfl .nil)))) (Gx.norm (l' := [Hp.own FC 3 av xs]) rfl ?_)
          refine Gx.seq ?_
          refine Gx.seq ?_
          refine Gx.region ?_
          refine Gx.val rfl rfl rfl (val_move rfl rfl) ?_
          refine Gx.val rfl rfl rfl (val_geq rfl rfl rfl) ?_
          refine Gx.done ?_
          refine Gx.thenN ?_
          refine Gx.dec rfl (fun h13 => ?_) (fun h13 => ?_)
          · refine Gx.skip ?_
            refine Gx.thenN ?_
            refine Gx.seq ?_
            refine Gx.block ?_
            refine Gx.seq ?_
            refine Gx.region ?_
            refine Gx.val rfl rfl rfl (val_assign rfl rfl) ?_
            refine Gx.done ?_
            refine Gx.thenN ?_
            refine Gx.block ?_
            refine Gx.loop (ι := Nat × Value × (List Cm)) (fun ξ => (ξ.1 ≤ 2) ∧ ((ξ.2.2.length : Int) + 4 ≤ 120 + 2 * (2 - 1 - p) + ξ.1)) (fun ξ => [(0, .int .i64 2), (5, ξ.2.1), (6, .int .i64 ((t : Nat) : Int)), (10, .int .i64 p), (11, .int .i64 ((ξ.1 : Nat) : Int))]) (fun ξ => [Hp.own FC 3 ξ.2.1 ξ.2.2]) (fun ξ => 2 - ξ.1) (0, av, xs) ⟨by first | omega | (dsimp only; omega), by first | omega | (dsimp only; omega)⟩ ((.cons rfl (.cons rfl (.cons rfl (.cons rfl (.cons rfl .nil)))))) rfl ?_
            rintro ⟨j, av, xs⟩ ⟨hj, hx⟩
            dsimp only at hj hx
            refine Gx.know (m' := [(0, .int .i64 2), (5, av), (6, .int .i64 ((t : Nat) : Int)), (10, .int .i64 p), (11, .int .i64 ((j : Nat) : Int))]) (.cons rfl (.cons rfl (.cons rfl (.cons rfl (.cons rfl .nil))))) (Gx.norm (l' := [Hp.own FC 3 av xs]) rfl ?_)
            refine Gx.seq ?_
            refine Gx.seq ?_
            refine Gx.region ?_
            refine Gx.val rfl rfl rfl (val_move rfl rfl) ?_
            refine Gx.val rfl rfl rfl (val_move rfl rfl) ?_
            refine Gx.val rfl rfl rfl (val_lss rfl rfl rfl) ?_
            refine Gx.done ?_
            refine Gx.thenN ?_
            refine Gx.dec rfl (fun h14 => ?_) (fun h14 => ?_)
            · refine Gx.skip ?_
              refine Gx.thenN ?_
              refine Gx.seq ?_
              refine Gx.block ?_
              refine Gx.seq ?_
              refine Gx.region ?_
              refine Gx.val rfl rfl rfl (val_move rfl rfl) ?_
              refine Gx.val rfl rfl rfl (val_move rfl rfl) ?_
              refine Gx.val rfl rfl rfl (val_neq rfl rfl rfl) ?_
              refine Gx.done ?_
              refine Gx.thenN ?_
              refine Gx.dec rfl (fun h15 => ?_) (fun h15 => ?_)
              · refine Gx.region ?_
                refine Gx.val rfl rfl rfl (val_move rfl rfl) ?_
                refine Gx.val rfl rfl rfl (val_move rfl rfl) ?_
                refine Gx.val rfl rfl rfl (val_move rfl rfl) ?_
                refine Gx.val rfl rfl rfl (val_build rfl (qs := [(0, .int .i64 4), (1, .int .i64 p), (2, .int .i64 ((j : Nat) : Int))]) rfl rfl (fun w => by go_simp) (v := .agg #[.int .i64 4, .int .i64 p, .int .i64 ((j : Nat) : Int)])) ?_
                refine Gx.eff rfl rfl rfl (eff_buildSlice rfl (qs := [(0, .agg #[.int .i64 4, .int .i64 p, .int .i64 ((j : Nat) : Int)])]) rfl rfl (cs := #[.int .i64 4, .int .i64 p, .int .i64 ((j : Nat) : Int)]) (vs := [.int .i64 4, .int .i64 p, .int .i64 ((j : Nat) : Int)]) (E := 32) rfl (fun w => by first | (go_simp; done) | (go_simp; rfl))) ?_
                rintro _ _ ⟨b16, rfl, rfl⟩
                refine Gx.eff rfl rfl rfl (eff_push (r := (⟨4, p, ((j : Nat) : Int)⟩ : Cm)) rfl Try.eCm FC_len FC_one rfl rfl (k := 0) rfl rfl (k' := 0) rfl (by omega) (by omega)) ?_
                rintro v17 _ ⟨hiv17, rfl⟩
                refine Gx.norm (l' := [Hp.own FC 3 v17 (xs ++ [(⟨4, p, ((j : Nat) : Int)⟩ : Cm)])]) rfl ?_
                refine Gx.val rfl rfl rfl (val_assign rfl rfl) ?_
                refine Gx.done ?_
                refine Gx.blkN ?_
                refine Gx.thenN ?_
                refine Gx.region ?_
                refine Gx.val rfl rfl rfl (val_move rfl rfl) ?_
                refine Gx.val rfl rfl rfl (val_add rfl rfl rfl (r := ((j + 1 : Nat) : Int)) (w64 (by omega) (by omega))) ?_
                refine Gx.val rfl rfl rfl (val_assign rfl rfl) ?_
                refine Gx.done ?_
                refine Gx.thenN ?_
                exact Gx.round (j + 1, v17, (xs ++ [(⟨4, p, ((j : Nat) : Int)⟩ : Cm)])) ⟨by first | omega | (dsimp only; omega), by first | omega | (dsimp only; omega) | (simp only [List.length_append, List.length_cons, List.length_nil]; omega)⟩ (by first | omega | (dsimp only; omega)) ((.cons rfl (.cons rfl (.cons rfl (.cons rfl (.cons rfl .nil)))))) rfl
              · refine Gx.skip ?_
                refine Gx.blkN ?_
                refine Gx.thenN ?_
                refine Gx.region ?_
                refine Gx.val rfl rfl rfl (val_move rfl rfl) ?_
                refine Gx.val rfl rfl rfl (val_add rfl rfl rfl (r := ((j + 1 : Nat) : Int)) (w64 (by omega) (by omega))) ?_
                refine Gx.val rfl rfl rfl (val_assign rfl rfl) ?_
                refine Gx.done ?_
                refine Gx.thenN ?_
                exact Gx.round (j + 1, av, xs) ⟨by first | omega | (dsimp only; omega), by first | omega | (dsimp only; omega) | (simp only [List.length_append, List.length_cons, List.length_nil]; omega)⟩ (by first | omega | (dsimp only; omega)) ((.cons rfl (.cons rfl (.cons rfl (.cons rfl (.cons rfl .nil)))))) rfl
            · refine Gx.exit ?_
              refine Gx.thenE ?_
              refine Gx.thenE ?_
              refine Gx.blkE ?_
              refine Gx.blkN ?_
              refine Gx.thenN ?_
              refine Gx.region ?_
              refine Gx.val rfl rfl rfl (val_move rfl rfl) ?_
              refine Gx.val rfl rfl rfl (val_sub rfl rfl rfl (r := (p - 1)) (w64 rfl (by omega))) ?_
              refine Gx.val rfl rfl rfl (val_assign rfl rfl) ?_
              refine Gx.done ?_
              refine Gx.thenN ?_
              exact Gx.round ((p - 1), av, xs) ⟨by first | omega | (dsimp only; omega), by first | omega | (dsimp only; omega) | (simp only [List.length_append, List.length_cons, List.length_nil]; omega)⟩ (by first | omega | (dsimp only; omega)) ((.cons rfl (.cons rfl (.cons rfl (.cons rfl .nil))))) rfl
          · refine Gx.exit ?_
            refine Gx.thenE ?_
            refine Gx.thenE ?_
            refine Gx.blkE ?_
            refine Gx.blkN ?_
            refine Gx.thenN ?_
            refine Gx.region ?_
            refine Gx.val rfl rfl rfl (val_move rfl rfl) ?_
            refine Gx.val rfl rfl rfl (val_add rfl rfl rfl (r := ((t + 1 : Nat) : Int)) (w64 (by omega) (by omega))) ?_
            refine Gx.val rfl rfl rfl (val_assign rfl rfl) ?_
            refine Gx.done ?_
            refine Gx.thenN ?_
            exact Gx.round (t + 1, av, xs) ⟨by first | omega | (dsimp only; omega), by first | omega | (dsimp only; omega) | (simp only [List.length_append, List.length_cons, List.length_nil]; omega)⟩ (by first | omega | (dsimp only; omega)) ((.cons rfl (.cons rfl (.cons rfl .nil)))) rfl
    · refine Gx.exit ?_
      refine Gx.thenE ?_
      refine Gx.thenE ?_
      refine Gx.blkE ?_
      refine Gx.thenN ?_
      refine Gx.seq ?_
      refine Gx.region ?_
      refine Gx.val rfl rfl rfl (val_move rfl rfl) ?_
      refine Gx.val rfl rfl rfl (val_move rfl rfl) ?_
      refine Gx.callB rfl rfl rfl (vs := [.int .i64 2, av]) rfl Try.fn7 rfl (R := PlayV 2 xs) (fun w H => (play_v (n := 2) ((H.at_ (k := 0) rfl).sls (by omega)) (by omega) (by omega) (by omega))) ?_
      rintro _ W19 ⟨a118, c118, a218, c218, a318, c318, ks18, ws18, bs18, aw18, dn18, rfl, hk18, hw18, hb18, hF18⟩ H20
      have hW21 := H20.below
      have hs22 := hs.below H20.below
      have hs23 := (H20.at_ (k := 0) rfl).sls (by first | omega | (simp; omega))
      have hkl18 := hF18.kl
      have hwl18 := hF18.wl
      have hbl18 := hF18.bl
      refine Gx.val rfl rfl rfl (val_move rfl rfl) ?_
      refine Gx.val rfl rfl rfl (val_extract rfl rfl rfl) ?_
      refine Gx.val rfl rfl rfl (val_extract rfl rfl rfl) ?_
      refine Gx.eff rfl rfl rfl (eff_alloc rfl Try.ty26 (vs := [.slice none 0 0, .slice none 0 0, .slice none 0 0, .int .i64 0, .bool false]) rfl) ?_
      rintro _ _ ⟨b24, rfl, rfl⟩
      refine Gx.eff0 rfl rfl (eff_store rfl Try.ty26 rfl rfl (us := [.slice a118 xs.length c118, .slice a218 2 c218, .slice a318 2 c318, .int .i64 ((aw18 : Nat) : Int), .bool dn18]) rfl rfl rfl (k := 0) rfl rfl (vs' := [.slice a118 xs.length c118, .slice a218 2 c218, .slice a318 2 c318, .int .i64 ((aw18 : Nat) : Int), .bool dn18]) rfl (l' := [Hp.rec_ b24 [.slice a118 xs.length c118, .slice a218 2 c218, .slice a318 2 c318, .int .i64 ((aw18 : Nat) : Int), .bool dn18]]) rfl) ?_
      rintro _ _ rfl
      refine Gx.val rfl rfl rfl (val_assign rfl rfl) ?_
      refine Gx.done ?_
      refine Gx.thenN ?_
      refine Gx.seq ?_
      refine Gx.seq ?_
      refine Gx.region ?_
      refine Gx.val rfl rfl rfl (val_move rfl rfl) ?_
      refine Gx.val rfl rfl rfl (Val.cast (val_neq rfl rfl rfl) (v' := .bool false) rfl) ?_
      refine Gx.val rfl rfl rfl (val_move rfl rfl) ?_
      refine Gx.valg rfl rfl rfl rfl rfl (Val.cast (val_fieldAddr rfl Try.underlying26 rfl Try.ty24 rfl rfl) (v' := ptr b24 1) rfl) ?_
      refine Gx.valg rfl rfl rfl rfl rfl (val_load rfl Try.ty24 rfl rfl (cell_rec (k := 0) rfl rfl)) ?_
      refine Gx.valg rfl rfl rfl rfl rfl (val_len rfl Try.underlying24 rfl (len_base hw18)) ?_
      refine Gx.valg rfl rfl rfl rfl rfl (val_move rfl rfl) ?_
      refine Gx.valg rfl rfl rfl rfl rfl (val_neq rfl rfl rfl) ?_
      refine Gx.val rfl rfl rfl (val_pickF rfl rfl rfl) ?_
      refine Gx.done ?_
      refine Gx.thenN ?_
      refine Gx.dec rfl (fun h25 => ?_) (fun h25 => ?_)
      · refine Gx.seq ?_
        refine Gx.region ?_
        refine Gx.val rfl rfl rfl (val_assign rfl rfl) ?_
        refine Gx.done ?_
        refine Gx.thenN ?_
        refine Gx.ret ?_
        refine Gx.thenR ?_
        refine Gx.ret1B hW21 Try.results4 rfl ?_
        exfalso; omega
      · refine Gx.skip ?_
        refine Gx.thenN ?_
        refine Gx.seq ?_
        refine Gx.region ?_
        refine Gx.val rfl rfl rfl (val_assign rfl rfl) ?_
        refine Gx.done ?_
        refine Gx.thenN ?_
        refine Gx.seq ?_
        refine Gx.seq ?_
        refine Gx.region ?_
        refine Gx.val rfl rfl rfl (Val.cast (val_fieldAddr rfl Try.underlying26 rfl Try.ty24 rfl rfl) (v' := ptr b24 1) rfl) ?_
        refine Gx.val rfl rfl rfl (val_load rfl Try.ty24 rfl rfl (cell_rec (k := 0) rfl rfl)) ?_
        refine Gx.val rfl rfl rfl (val_len rfl Try.underlying24 rfl (len_base hw18)) ?_
        refine Gx.val rfl rfl rfl (val_move rfl rfl) ?_
        refine Gx.done ?_
        refine Gx.thenN ?_
        refine Gx.block ?_
        refine Gx.loop (ι := Nat × Bool) (fun ξ => (ξ.1 ≤ ws18.length) ∧ (ξ.2 = (ws18.take ξ.1).any id)) (fun ξ => [(12, ptr b24 0), (110, .slice a218 2 c218), (111, .int .i64 ((ws18.length : Nat) : Int)), (14, .bool ξ.2), (112, .int .i64 ((ξ.1 : Nat) : Int))]) (fun ξ => [Hp.rec_ b24 [.slice a118 xs.length c118, .slice a218 2 c218, .slice a318 2 c318, .int .i64 ((aw18 : Nat) : Int), .bool dn18]]) (fun ξ => ws18.length - ξ.1) (0, false) ⟨by first | omega | (dsimp only; omega), rfl⟩ ((.cons rfl (.cons rfl (.cons rfl (.cons rfl (.cons rfl .nil)))))) rfl ?_
        rintro ⟨k, b⟩ ⟨hk, hb⟩
        dsimp only at hk hb
        refine Gx.know (m' := [(12, ptr b24 0), (110, .slice a218 2 c218), (111, .int .i64 ((ws18.length : Nat) : Int)), (14, .bool b), (112, .int .i64 ((k : Nat) : Int))]) (.cons rfl (.cons rfl (.cons rfl (.cons rfl (.cons rfl .nil))))) (Gx.norm (l' := [Hp.rec_ b24 [.slice a118 xs.length c118, .slice a218 2 c218, .slice a318 2 c318, .int .i64 ((aw18 : Nat) : Int), .bool dn18]]) rfl ?_)
        refine Gx.seq ?_
        refine Gx.region ?_
        refine Gx.val rfl rfl rfl (val_lss rfl rfl rfl) ?_
        refine Gx.done ?_
        refine Gx.thenN ?_
        refine Gx.seq ?_
        refine Gx.dec rfl (fun h26 => ?_) (fun h26 => ?_)
        · refine Gx.skip ?_
          refine Gx.thenN ?_
          refine Gx.seq ?_
          refine Gx.block ?_
          refine Gx.seq ?_
          refine Gx.region ?_
          obtain ⟨x27, hx27⟩ := get_of_lt (xs := ws18) (k := k) (by omega)
          refine Gx.val rfl rfl rfl (val_ixa rfl Try.underlying24 Try.ty4 rfl rfl (j := k) (rfl) (reach_base hw18 hx27)) ?_
          refine Gx.val rfl rfl rfl (val_load rfl Try.ty4 rfl rfl (cell_base (i := 0) hw18 hx27 rfl)) ?_
          refine Gx.val rfl rfl rfl (val_assign rfl rfl) ?_
          refine Gx.done ?_
          refine Gx.thenN ?_
          refine Gx.region ?_
          refine Gx.val rfl rfl rfl (val_move rfl rfl) ?_
          refine Gx.val rfl rfl rfl (val_move rfl rfl) ?_
          refine Gx.casesB (t := 117) rfl (fun h28 => ?_) (fun h28 => ?_)
          · refine Gx.skipg rfl rfl rfl rfl rfl rfl ?_
            refine Gx.val rfl rfl rfl (val_pickT rfl rfl rfl) ?_
            refine Gx.val rfl rfl rfl (val_assign rfl rfl) ?_
            refine Gx.done ?_
            refine Gx.blkN ?_
            refine Gx.thenN ?_
            refine Gx.region ?_
            refine Gx.val rfl rfl rfl (val_add rfl rfl rfl (r := ((k + 1 : Nat) : Int)) (w64 (by omega) (by omega))) ?_
            refine Gx.val rfl rfl rfl (val_move rfl rfl) ?_
            refine Gx.done ?_
            refine Gx.thenN ?_
            exact Gx.round (k + 1, true) ⟨by first | omega | (dsimp only; omega), by rw [take_of hx27, List.any_append, ← hb]; simp_all⟩ (by first | omega | (dsimp only; omega)) ((.cons rfl (.cons rfl (.cons rfl (.cons rfl (.cons rfl .nil)))))) rfl
          · refine Gx.valg rfl rfl rfl rfl rfl (val_move rfl rfl) ?_
            refine Gx.val rfl rfl rfl (val_pickF rfl rfl rfl) ?_
            refine Gx.val rfl rfl rfl (val_assign rfl rfl) ?_
            refine Gx.done ?_
            refine Gx.blkN ?_
            refine Gx.thenN ?_
            refine Gx.region ?_
            refine Gx.val rfl rfl rfl (val_add rfl rfl rfl (r := ((k + 1 : Nat) : Int)) (w64 (by omega) (by omega))) ?_
            refine Gx.val rfl rfl rfl (val_move rfl rfl) ?_
            refine Gx.done ?_
            refine Gx.thenN ?_
            exact Gx.round (k + 1, x27) ⟨by first | omega | (dsimp only; omega), by rw [take_of hx27, List.any_append, ← hb]; simp_all⟩ (by first | omega | (dsimp only; omega)) ((.cons rfl (.cons rfl (.cons rfl (.cons rfl (.cons rfl .nil)))))) rfl
        · refine Gx.exit ?_
          refine Gx.thenE ?_
          refine Gx.thenE ?_
          refine Gx.blkE ?_
          refine Gx.thenN ?_
          refine Gx.seq ?_
          refine Gx.region ?_
          refine Gx.val rfl rfl rfl (Val.cast (val_fieldAddr rfl Try.underlying26 rfl Try.ty4 rfl rfl) (v' := ptr b24 4) rfl) ?_
          refine Gx.val rfl rfl rfl (val_load rfl Try.ty4 rfl rfl (cell_rec (k := 0) rfl rfl)) ?_
          refine Gx.val rfl rfl rfl (val_move rfl rfl) ?_
          refine Gx.val rfl rfl rfl (val_not rfl rfl) ?_
          refine Gx.val rfl rfl rfl (val_move rfl rfl) ?_
          refine Gx.casesB (t := 125) rfl (fun h29 => ?_) (fun h29 => ?_)
          · refine Gx.valg rfl rfl rfl rfl rfl (Val.cast (val_fieldAddr rfl Try.underlying26 rfl Try.ty3 rfl rfl) (v' := ptr b24 3) rfl) ?_
            refine Gx.valg rfl rfl rfl rfl rfl (val_load rfl Try.ty3 rfl rfl (cell_rec (k := 0) rfl rfl)) ?_
            refine Gx.valg rfl rfl rfl rfl rfl (val_eql rfl rfl rfl) ?_
            refine Gx.val rfl rfl rfl (val_pickT rfl rfl rfl) ?_
            refine Gx.val rfl rfl rfl (val_eqlB Try.underlying4 rfl rfl rfl) ?_
            refine Gx.val rfl rfl rfl (val_assign rfl rfl) ?_
            refine Gx.done ?_
            refine Gx.thenN ?_
            refine Gx.ret ?_
            have ek : k = ws18.length := by omega
            subst ek
            rw [List.take_length] at hb
            have hT := tells hF18
            rw [← hb] at hT
            refine Gx.ret1B hW21 Try.results4 rfl ?_
            exact congrArg Value.bool (by rw [hT]; simp_all)
          · refine Gx.skipg rfl rfl rfl rfl rfl rfl ?_
            refine Gx.skipg rfl rfl rfl rfl rfl rfl ?_
            refine Gx.skipg rfl rfl rfl rfl rfl rfl ?_
            refine Gx.val rfl rfl rfl (val_pickF rfl rfl rfl) ?_
            refine Gx.val rfl rfl rfl (val_eqlB Try.underlying4 rfl rfl rfl) ?_
            refine Gx.val rfl rfl rfl (val_assign rfl rfl) ?_
            refine Gx.done ?_
            refine Gx.thenN ?_
            refine Gx.ret ?_
            have ek : k = ws18.length := by omega
            subst ek
            rw [List.take_length] at hb
            have hT := tells hF18
            rw [← hb] at hT
            refine Gx.ret1B hW21 Try.results4 rfl ?_
            exact congrArg Value.bool (by rw [hT]; simp_all)
  · refine Gx.skipg rfl rfl rfl rfl rfl rfl ?_
    refine Gx.skipg rfl rfl rfl rfl rfl rfl ?_
    refine Gx.skipg rfl rfl rfl rfl rfl rfl ?_
    refine Gx.skipg rfl rfl rfl rfl rfl rfl ?_
    refine Gx.skipg rfl rfl rfl rfl rfl rfl ?_
    refine Gx.skipg rfl rfl rfl rfl rfl rfl ?_
    refine Gx.skipg rfl rfl rfl rfl rfl rfl ?_
    refine Gx.skipg rfl rfl rfl rfl rfl rfl ?_
    refine Gx.val rfl rfl rfl (val_pickF rfl rfl rfl) ?_
    refine Gx.done ?_
    refine Gx.thenN ?_
    refine Gx.f rfl ?_
    refine Gx.exit ?_
    refine Gx.thenE ?_
    refine Gx.thenE ?_
    refine Gx.blkE ?_
    refine Gx.thenN ?_
    refine Gx.seq ?_
    refine Gx.region ?_
    refine Gx.val rfl rfl rfl (val_move rfl rfl) ?_
    refine Gx.val rfl rfl rfl (val_move rfl rfl) ?_
    refine Gx.callB rfl rfl rfl (vs := [.int .i64 2, av]) rfl Try.fn7 rfl (R := PlayV 2 xs) (fun w H => (play_v (n := 2) ((H.at_ (k := 0) rfl).sls (by omega)) (by omega) (by omega) (by omega))) ?_
    rintro _ W31 ⟨a130, c130, a230, c230, a330, c330, ks30, ws30, bs30, aw30, dn30, rfl, hk30, hw30, hb30, hF30⟩ H32
    have hW33 := H32.below
    have hs34 := hs.below H32.below
    have hs35 := (H32.at_ (k := 0) rfl).sls (by first | omega | (simp; omega))
    have hkl30 := hF30.kl
    have hwl30 := hF30.wl
    have hbl30 := hF30.bl
    refine Gx.val rfl rfl rfl (val_move rfl rfl) ?_
    refine Gx.val rfl rfl rfl (val_extract rfl rfl rfl) ?_
    refine Gx.val rfl rfl rfl (val_extract rfl rfl rfl) ?_
    refine Gx.eff rfl rfl rfl (eff_alloc rfl Try.ty26 (vs := [.slice none 0 0, .slice none 0 0, .slice none 0 0, .int .i64 0, .bool false]) rfl) ?_
    rintro _ _ ⟨b36, rfl, rfl⟩
    refine Gx.eff0 rfl rfl (eff_store rfl Try.ty26 rfl rfl (us := [.slice a130 xs.length c130, .slice a230 2 c230, .slice a330 2 c330, .int .i64 ((aw30 : Nat) : Int), .bool dn30]) rfl rfl rfl (k := 0) rfl rfl (vs' := [.slice a130 xs.length c130, .slice a230 2 c230, .slice a330 2 c330, .int .i64 ((aw30 : Nat) : Int), .bool dn30]) rfl (l' := [Hp.rec_ b36 [.slice a130 xs.length c130, .slice a230 2 c230, .slice a330 2 c330, .int .i64 ((aw30 : Nat) : Int), .bool dn30]]) rfl) ?_
    rintro _ _ rfl
    refine Gx.val rfl rfl rfl (val_assign rfl rfl) ?_
    refine Gx.done ?_
    refine Gx.thenN ?_
    refine Gx.seq ?_
    refine Gx.seq ?_
    refine Gx.region ?_
    refine Gx.val rfl rfl rfl (val_move rfl rfl) ?_
    refine Gx.val rfl rfl rfl (Val.cast (val_neq rfl rfl rfl) (v' := .bool false) rfl) ?_
    refine Gx.val rfl rfl rfl (val_move rfl rfl) ?_
    refine Gx.valg rfl rfl rfl rfl rfl (Val.cast (val_fieldAddr rfl Try.underlying26 rfl Try.ty24 rfl rfl) (v' := ptr b36 1) rfl) ?_
    refine Gx.valg rfl rfl rfl rfl rfl (val_load rfl Try.ty24 rfl rfl (cell_rec (k := 0) rfl rfl)) ?_
    refine Gx.valg rfl rfl rfl rfl rfl (val_len rfl Try.underlying24 rfl (len_base hw30)) ?_
    refine Gx.valg rfl rfl rfl rfl rfl (val_move rfl rfl) ?_
    refine Gx.valg rfl rfl rfl rfl rfl (val_neq rfl rfl rfl) ?_
    refine Gx.val rfl rfl rfl (val_pickF rfl rfl rfl) ?_
    refine Gx.done ?_
    refine Gx.thenN ?_
    refine Gx.dec rfl (fun h37 => ?_) (fun h37 => ?_)
    · refine Gx.seq ?_
      refine Gx.region ?_
      refine Gx.val rfl rfl rfl (val_assign rfl rfl) ?_
      refine Gx.done ?_
      refine Gx.thenN ?_
      refine Gx.ret ?_
      refine Gx.thenR ?_
      refine Gx.ret1B hW33 Try.results4 rfl ?_
      exfalso; omega
    · refine Gx.skip ?_
      refine Gx.thenN ?_
      refine Gx.seq ?_
      refine Gx.region ?_
      refine Gx.val rfl rfl rfl (val_assign rfl rfl) ?_
      refine Gx.done ?_
      refine Gx.thenN ?_
      refine Gx.seq ?_
      refine Gx.seq ?_
      refine Gx.region ?_
      refine Gx.val rfl rfl rfl (Val.cast (val_fieldAddr rfl Try.underlying26 rfl Try.ty24 rfl rfl) (v' := ptr b36 1) rfl) ?_
      refine Gx.val rfl rfl rfl (val_load rfl Try.ty24 rfl rfl (cell_rec (k := 0) rfl rfl)) ?_
      refine Gx.val rfl rfl rfl (val_len rfl Try.underlying24 rfl (len_base hw30)) ?_
      refine Gx.val rfl rfl rfl (val_move rfl rfl) ?_
      refine Gx.done ?_
      refine Gx.thenN ?_
      refine Gx.block ?_
      refine Gx.loop (ι := Nat × Bool) (fun ξ => (ξ.1 ≤ ws30.length) ∧ (ξ.2 = (ws30.take ξ.1).any id)) (fun ξ => [(12, ptr b36 0), (110, .slice a230 2 c230), (111, .int .i64 ((ws30.length : Nat) : Int)), (14, .bool ξ.2), (112, .int .i64 ((ξ.1 : Nat) : Int))]) (fun ξ => [Hp.rec_ b36 [.slice a130 xs.length c130, .slice a230 2 c230, .slice a330 2 c330, .int .i64 ((aw30 : Nat) : Int), .bool dn30]]) (fun ξ => ws30.length - ξ.1) (0, false) ⟨by first | omega | (dsimp only; omega), rfl⟩ ((.cons rfl (.cons rfl (.cons rfl (.cons rfl (.cons rfl .nil)))))) rfl ?_
      rintro ⟨k, b⟩ ⟨hk, hb⟩
      dsimp only at hk hb
      refine Gx.know (m' := [(12, ptr b36 0), (110, .slice a230 2 c230), (111, .int .i64 ((ws30.length : Nat) : Int)), (14, .bool b), (112, .int .i64 ((k : Nat) : Int))]) (.cons rfl (.cons rfl (.cons rfl (.cons rfl (.cons rfl .nil))))) (Gx.norm (l' := [Hp.rec_ b36 [.slice a130 xs.length c130, .slice a230 2 c230, .slice a330 2 c330, .int .i64 ((aw30 : Nat) : Int), .bool dn30]]) rfl ?_)
      refine Gx.seq ?_
      refine Gx.region ?_
      refine Gx.val rfl rfl rfl (val_lss rfl rfl rfl) ?_
      refine Gx.done ?_
      refine Gx.thenN ?_
      refine Gx.seq ?_
      refine Gx.dec rfl (fun h38 => ?_) (fun h38 => ?_)
      · refine Gx.skip ?_
        refine Gx.thenN ?_
        refine Gx.seq ?_
        refine Gx.block ?_
        refine Gx.seq ?_
        refine Gx.region ?_
        obtain ⟨x39, hx39⟩ := get_of_lt (xs := ws30) (k := k) (by omega)
        refine Gx.val rfl rfl rfl (val_ixa rfl Try.underlying24 Try.ty4 rfl rfl (j := k) (rfl) (reach_base hw30 hx39)) ?_
        refine Gx.val rfl rfl rfl (val_load rfl Try.ty4 rfl rfl (cell_base (i := 0) hw30 hx39 rfl)) ?_
        refine Gx.val rfl rfl rfl (val_assign rfl rfl) ?_
        refine Gx.done ?_
        refine Gx.thenN ?_
        refine Gx.region ?_
        refine Gx.val rfl rfl rfl (val_move rfl rfl) ?_
        refine Gx.val rfl rfl rfl (val_move rfl rfl) ?_
        refine Gx.casesB (t := 117) rfl (fun h40 => ?_) (fun h40 => ?_)
        · refine Gx.skipg rfl rfl rfl rfl rfl rfl ?_
          refine Gx.val rfl rfl rfl (val_pickT rfl rfl rfl) ?_
          refine Gx.val rfl rfl rfl (val_assign rfl rfl) ?_
          refine Gx.done ?_
          refine Gx.blkN ?_
          refine Gx.thenN ?_
          refine Gx.region ?_
          refine Gx.val rfl rfl rfl (val_add rfl rfl rfl (r := ((k + 1 : Nat) : Int)) (w64 (by omega) (by omega))) ?_
          refine Gx.val rfl rfl rfl (val_move rfl rfl) ?_
          refine Gx.done ?_
          refine Gx.thenN ?_
          exact Gx.round (k + 1, true) ⟨by first | omega | (dsimp only; omega), by rw [take_of hx39, List.any_append, ← hb]; simp_all⟩ (by first | omega | (dsimp only; omega)) ((.cons rfl (.cons rfl (.cons rfl (.cons rfl (.cons rfl .nil)))))) rfl
        · refine Gx.valg rfl rfl rfl rfl rfl (val_move rfl rfl) ?_
          refine Gx.val rfl rfl rfl (val_pickF rfl rfl rfl) ?_
          refine Gx.val rfl rfl rfl (val_assign rfl rfl) ?_
          refine Gx.done ?_
          refine Gx.blkN ?_
          refine Gx.thenN ?_
          refine Gx.region ?_
          refine Gx.val rfl rfl rfl (val_add rfl rfl rfl (r := ((k + 1 : Nat) : Int)) (w64 (by omega) (by omega))) ?_
          refine Gx.val rfl rfl rfl (val_move rfl rfl) ?_
          refine Gx.done ?_
          refine Gx.thenN ?_
          exact Gx.round (k + 1, x39) ⟨by first | omega | (dsimp only; omega), by rw [take_of hx39, List.any_append, ← hb]; simp_all⟩ (by first | omega | (dsimp only; omega)) ((.cons rfl (.cons rfl (.cons rfl (.cons rfl (.cons rfl .nil)))))) rfl
      · refine Gx.exit ?_
        refine Gx.thenE ?_
        refine Gx.thenE ?_
        refine Gx.blkE ?_
        refine Gx.thenN ?_
        refine Gx.seq ?_
        refine Gx.region ?_
        refine Gx.val rfl rfl rfl (Val.cast (val_fieldAddr rfl Try.underlying26 rfl Try.ty4 rfl rfl) (v' := ptr b36 4) rfl) ?_
        refine Gx.val rfl rfl rfl (val_load rfl Try.ty4 rfl rfl (cell_rec (k := 0) rfl rfl)) ?_
        refine Gx.val rfl rfl rfl (val_move rfl rfl) ?_
        refine Gx.val rfl rfl rfl (val_not rfl rfl) ?_
        refine Gx.val rfl rfl rfl (val_move rfl rfl) ?_
        refine Gx.casesB (t := 125) rfl (fun h41 => ?_) (fun h41 => ?_)
        · refine Gx.valg rfl rfl rfl rfl rfl (Val.cast (val_fieldAddr rfl Try.underlying26 rfl Try.ty3 rfl rfl) (v' := ptr b36 3) rfl) ?_
          refine Gx.valg rfl rfl rfl rfl rfl (val_load rfl Try.ty3 rfl rfl (cell_rec (k := 0) rfl rfl)) ?_
          refine Gx.valg rfl rfl rfl rfl rfl (val_eql rfl rfl rfl) ?_
          refine Gx.val rfl rfl rfl (val_pickT rfl rfl rfl) ?_
          refine Gx.val rfl rfl rfl (val_eqlB Try.underlying4 rfl rfl rfl) ?_
          refine Gx.val rfl rfl rfl (val_assign rfl rfl) ?_
          refine Gx.done ?_
          refine Gx.thenN ?_
          refine Gx.ret ?_
          have ek : k = ws30.length := by omega
          subst ek
          rw [List.take_length] at hb
          have hT := tells hF30
          rw [← hb] at hT
          refine Gx.ret1B hW33 Try.results4 rfl ?_
          exact congrArg Value.bool (by rw [hT]; simp_all)
        · refine Gx.skipg rfl rfl rfl rfl rfl rfl ?_
          refine Gx.skipg rfl rfl rfl rfl rfl rfl ?_
          refine Gx.skipg rfl rfl rfl rfl rfl rfl ?_
          refine Gx.val rfl rfl rfl (val_pickF rfl rfl rfl) ?_
          refine Gx.val rfl rfl rfl (val_eqlB Try.underlying4 rfl rfl rfl) ?_
          refine Gx.val rfl rfl rfl (val_assign rfl rfl) ?_
          refine Gx.done ?_
          refine Gx.thenN ?_
          refine Gx.ret ?_
          have ek : k = ws30.length := by omega
          subst ek
          rw [List.take_length] at hb
          have hT := tells hF30
          rw [← hb] at hT
          refine Gx.ret1B hW33 Try.results4 rfl ?_
          exact congrArg Value.bool (by rw [hT]; simp_all)

theorem tells_in3 {W : World} {sv : Value} {cs : List Cm}  (hs : SlS FC 3 W sv cs) (hl : cs.length ≤ 10) :
    Calls Try.prog 4 #[.int .i64 3, sv] W fun e w' => e = .returned (.bool true) ∧ Below W.heap.size W w' := by
  refine calls_pure (Gx.enter (l := []) Try.func4 rfl Try.ntmps4 rfl (Sat.start W) ?_)
  refine Gx.know (m' := [(0, .int .i64 3), (1, sv)]) (.cons rfl (.cons rfl .nil)) ?_
  refine Gx.seq ?_
  refine Gx.region ?_
  refine Gx.val rfl rfl rfl (val_assign rfl rfl) ?_
  refine Gx.done ?_
  refine Gx.thenN ?_
  refine Gx.seq ?_
  refine Gx.seq ?_
  refine Gx.region ?_
  refine Gx.val rfl rfl rfl (val_move rfl rfl) ?_
  refine Gx.val rfl rfl rfl (Val.cast (val_lss rfl rfl rfl) (v' := .bool false) rfl) ?_
  refine Gx.val rfl rfl rfl (val_move rfl rfl) ?_
  refine Gx.valg rfl rfl rfl rfl rfl (val_move rfl rfl) ?_
  refine Gx.valg rfl rfl rfl rfl rfl (Val.cast (val_gtr rfl rfl rfl) (v' := .bool false) rfl) ?_
  refine Gx.val rfl rfl rfl (val_pickF rfl rfl rfl) ?_
  refine Gx.val rfl rfl rfl (val_move rfl rfl) ?_
  refine Gx.valg rfl rfl rfl rfl rfl (val_move rfl rfl) ?_
  refine Gx.valg rfl rfl rfl rfl rfl (val_len rfl Try.underlying22 rfl (len_base hs)) ?_
  refine Gx.valg rfl rfl rfl rfl rfl (val_gtr rfl rfl rfl) ?_
  refine Gx.val rfl rfl rfl (val_pickF rfl rfl rfl) ?_
  refine Gx.done ?_
  refine Gx.thenN ?_
  refine Gx.decF rfl (by omega) ?_
  refine Gx.skip ?_
  refine Gx.thenN ?_
  refine Gx.seq ?_
  refine Gx.region ?_
  refine Gx.eff rfl rfl rfl (eff_buildNil (f := FC) (sz := 3) (e := 32) rfl Try.underlying22 (fun w => by first | (go_simp; done) | (go_simp; rfl))) ?_
  rintro v1 _ ⟨hiv1, rfl⟩
  refine Gx.val rfl rfl rfl (val_move rfl rfl) ?_
  refine Gx.eff rfl rfl rfl (eff_pushAll (k := 0) (ys := cs) rfl Try.eCm FC_len FC_one rfl rfl (fun w H => hs.below H.below) rfl (by simp; omega) (by simp; omega)) ?_
  rintro v2 _ ⟨hiv2, rfl⟩
  refine Gx.norm (l' := [Hp.own FC 3 v2 cs]) rfl ?_
  refine Gx.val rfl rfl rfl (val_assign rfl rfl) ?_
  refine Gx.done ?_
  refine Gx.thenN ?_
  refine Gx.seq ?_
  refine Gx.seq ?_
  refine Gx.region ?_
  refine Gx.val rfl rfl rfl (val_assign rfl rfl) ?_
  refine Gx.done ?_
  refine Gx.thenN ?_
  refine Gx.block ?_
  refine Gx.loop (ι := Nat × Value × (List Cm)) (fun ξ => (ξ.1 ≤ 12) ∧ (ξ.2.2.length ≤ 120)) (fun ξ => [(0, .int .i64 3), (5, ξ.2.1), (6, .int .i64 ((ξ.1 : Nat) : Int))]) (fun ξ => [Hp.own FC 3 ξ.2.1 ξ.2.2]) (fun ξ => 12 - ξ.1) (0, v2, cs) ⟨by first | omega | (dsimp only; omega), by first | omega | (dsimp only; omega)⟩ ((.cons rfl (.cons rfl (.cons rfl .nil)))) rfl ?_
  rintro ⟨t, av, xs⟩ ⟨ht, hx⟩
  dsimp only at ht hx
  refine Gx.know (m' := [(0, .int .i64 3), (5, av), (6, .int .i64 ((t : Nat) : Int))]) (.cons rfl (.cons rfl (.cons rfl .nil))) (Gx.norm (l' := [Hp.own FC 3 av xs]) rfl ?_)
  refine Gx.seq ?_
  refine Gx.seq ?_
  refine Gx.region ?_
  refine Gx.val rfl rfl rfl (val_move rfl rfl) ?_
  refine Gx.val rfl rfl rfl (val_lss rfl rfl rfl) ?_
  refine Gx.val rfl rfl rfl (val_move rfl rfl) ?_
  refine Gx.cases (t := 33) rfl (fun h3 => ?_) (fun h3 => ?_)
  · refine Gx.valg rfl rfl rfl rfl rfl (val_move rfl rfl) ?_
    refine Gx.valg rfl rfl rfl rfl rfl (val_len rfl Try.underlying22 rfl (len_own (k := 0) rfl)) ?_
    refine Gx.valg rfl rfl rfl rfl rfl (val_move rfl rfl) ?_
    refine Gx.valg rfl rfl rfl rfl rfl (val_mul rfl rfl rfl (r := 9) (w64 (by omega) (by omega))) ?_
    refine Gx.valg rfl rfl rfl rfl rfl (val_move rfl rfl) ?_
    refine Gx.valg rfl rfl rfl rfl rfl (val_mul rfl rfl rfl (r := 27) (w64 (by omega) (by omega))) ?_
    refine Gx.valg rfl rfl rfl rfl rfl (val_add rfl rfl rfl (r := ((xs.length + 27 : Nat) : Int)) (w64 (by omega) (by omega))) ?_
    refine Gx.valg rfl rfl rfl rfl rfl (val_leq rfl rfl rfl) ?_
    refine Gx.val rfl rfl rfl (val_pickT rfl rfl rfl) ?_
    refine Gx.done ?_
    refine Gx.thenN ?_
    refine Gx.dec rfl (fun h4 => ?_) (fun h4 => ?_)
    · refine Gx.skip ?_
      refine Gx.thenN ?_
      refine Gx.seq ?_
      refine Gx.block ?_
      refine Gx.seq ?_
      refine Gx.seq ?_
      refine Gx.region ?_
      refine Gx.val rfl rfl rfl (val_assign rfl rfl) ?_
      refine Gx.done ?_
      refine Gx.thenN ?_
      refine Gx.block ?_
      refine Gx.loop (ι := Nat × Value × (List Cm)) (fun ξ => (ξ.1 ≤ 3) ∧ (ξ.2.2.length + 27 ≤ 120 + 3 * ξ.1)) (fun ξ => [(0, .int .i64 3), (5, ξ.2.1), (6, .int .i64 ((t : Nat) : Int)), (7, .int .i64 ((ξ.1 : Nat) : Int))]) (fun ξ => [Hp.own FC 3 ξ.2.1 ξ.2.2]) (fun ξ => 3 - ξ.1) (0, av, xs) ⟨by first | omega | (dsimp only; omega), by first | omega | (dsimp only; omega)⟩ ((.cons rfl (.cons rfl (.cons rfl (.cons rfl .nil))))) rfl ?_
      rintro ⟨i, av, xs⟩ ⟨hi, hx⟩
      dsimp only at hi hx
      refine Gx.know (m' := [(0, .int .i64 3), (5, av), (6, .int .i64 ((t : Nat) : Int)), (7, .int .i64 ((i : Nat) : Int))]) (.cons rfl (.cons rfl (.cons rfl (.cons rfl .nil)))) (Gx.norm (l' := [Hp.own FC 3 av xs]) rfl ?_)
      refine Gx.seq ?_
      refine Gx.seq ?_
      refine Gx.region ?_
      refine Gx.val rfl rfl rfl (val_move rfl rfl) ?_
      refine Gx.val rfl rfl rfl (val_move rfl rfl) ?_
      refine Gx.val rfl rfl rfl (val_lss rfl rfl rfl) ?_
      refine Gx.done ?_
      refine Gx.thenN ?_
      refine Gx.dec rfl (fun h5 => ?_) (fun h5 => ?_)
      · refine Gx.skip ?_
        refine Gx.thenN ?_
        refine Gx.seq ?_
        refine Gx.block ?_
        refine Gx.seq ?_
        refine Gx.region ?_
        refine Gx.val rfl rfl rfl (val_assign rfl rfl) ?_
        refine Gx.done ?_
        refine Gx.thenN ?_
        refine Gx.block ?_
        refine Gx.loop (ι := Nat × Value × (List Cm)) (fun ξ => (ξ.1 ≤ 3) ∧ (ξ.2.2.length + 27 ≤ 120 + 3 * i + ξ.1)) (fun ξ => [(0, .int .i64 3), (5, ξ.2.1), (6, .int .i64 ((t : Nat) : Int)), (7, .int .i64 ((i : Nat) : Int)), (8, .int .i64 ((ξ.1 : Nat) : Int))]) (fun ξ => [Hp.own FC 3 ξ.2.1 ξ.2.2]) (fun ξ => 3 - ξ.1) (0, av, xs) ⟨by first | omega | (dsimp only; omega), by first | omega | (dsimp only; omega)⟩ ((.cons rfl (.cons rfl (.cons rfl (.cons rfl (.cons rfl .nil)))))) rfl ?_
        rintro ⟨j, av, xs⟩ ⟨hj, hx⟩
        dsimp only at hj hx
        refine Gx.know (m' := [(0, .int .i64 3), (5, av), (6, .int .i64 ((t : Nat) : Int)), (7, .int .i64 ((i : Nat) : Int)), (8, .int .i64 ((j : Nat) : Int))]) (.cons rfl (.cons rfl (.cons rfl (.cons rfl (.cons rfl .nil))))) (Gx.norm (l' := [Hp.own FC 3 av xs]) rfl ?_)
        refine Gx.seq ?_
        refine Gx.seq ?_
        refine Gx.region ?_
        refine Gx.val rfl rfl rfl (val_move rfl rfl) ?_
        refine Gx.val rfl rfl rfl (val_move rfl rfl) ?_
        refine Gx.val rfl rfl rfl (val_lss rfl rfl rfl) ?_
        refine Gx.done ?_
        refine Gx.thenN ?_
        refine Gx.dec rfl (fun h6 => ?_) (fun h6 => ?_)
        · refine Gx.skip ?_
          refine Gx.thenN ?_
          refine Gx.seq ?_
          refine Gx.block ?_
          refine Gx.seq ?_
          refine Gx.region ?_
          refine Gx.val rfl rfl rfl (val_move rfl rfl) ?_
          refine Gx.val rfl rfl rfl (val_move rfl rfl) ?_
          refine Gx.val rfl rfl rfl (val_neq rfl rfl rfl) ?_
          refine Gx.done ?_
          refine Gx.thenN ?_
          refine Gx.dec rfl (fun h7 => ?_) (fun h7 => ?_)
          · refine Gx.region ?_
            refine Gx.val rfl rfl rfl (val_move rfl rfl) ?_
            refine Gx.val rfl rfl rfl (val_move rfl rfl) ?_
            refine Gx.val rfl rfl rfl (val_move rfl rfl) ?_
            refine Gx.val rfl rfl rfl (val_build rfl (qs := [(0, .int .i64 2), (1, .int .i64 ((i : Nat) : Int)), (2, .int .i64 ((j : Nat) : Int))]) rfl rfl (fun w => by go_simp) (v := .agg #[.int .i64 2, .int .i64 ((i : Nat) : Int), .int .i64 ((j : Nat) : Int)])) ?_
            refine Gx.eff rfl rfl rfl (eff_buildSlice rfl (qs := [(0, .agg #[.int .i64 2, .int .i64 ((i : Nat) : Int), .int .i64 ((j : Nat) : Int)])]) rfl rfl (cs := #[.int .i64 2, .int .i64 ((i : Nat) : Int), .int .i64 ((j : Nat) : Int)]) (vs := [.int .i64 2, .int .i64 ((i : Nat) : Int), .int .i64 ((j : Nat) : Int)]) (E := 32) rfl (fun w => by first | (go_simp; done) | (go_simp; rfl))) ?_
            rintro _ _ ⟨b8, rfl, rfl⟩
            refine Gx.eff rfl rfl rfl (eff_push (r := (⟨2, ((i : Nat) : Int), ((j : Nat) : Int)⟩ : Cm)) rfl Try.eCm FC_len FC_one rfl rfl (k := 0) rfl rfl (k' := 0) rfl (by omega) (by omega)) ?_
            rintro v9 _ ⟨hiv9, rfl⟩
            refine Gx.norm (l' := [Hp.own FC 3 v9 (xs ++ [(⟨2, ((i : Nat) : Int), ((j : Nat) : Int)⟩ : Cm)])]) rfl ?_
            refine Gx.val rfl rfl rfl (val_assign rfl rfl) ?_
            refine Gx.done ?_
            refine Gx.blkN ?_
            refine Gx.thenN ?_
            refine Gx.region ?_
            refine Gx.val rfl rfl rfl (val_move rfl rfl) ?_
            refine Gx.val rfl rfl rfl (val_add rfl rfl rfl (r := ((j + 1 : Nat) : Int)) (w64 (by omega) (by omega))) ?_
            refine Gx.val rfl rfl rfl (val_assign rfl rfl) ?_
            refine Gx.done ?_
            refine Gx.thenN ?_
            exact Gx.round (j + 1, v9, (xs ++ [(⟨2, ((i : Nat) : Int), ((j : Nat) : Int)⟩ : Cm)])) ⟨by first | omega | (dsimp only; omega), by first | omega | (dsimp only; omega) | (simp only [List.length_append, List.length_cons, List.length_nil]; omega)⟩ (by first | omega | (dsimp only; omega)) ((.cons rfl (.cons rfl (.cons rfl (.cons rfl (.cons rfl .nil)))))) rfl
          · refine Gx.skip ?_
            refine Gx.blkN ?_
            refine Gx.thenN ?_
            refine Gx.region ?_
            refine Gx.val rfl rfl rfl (val_move rfl rfl) ?_
            refine Gx.val rfl rfl rfl (val_add rfl rfl rfl (r := ((j + 1 : Nat) : Int)) (w64 (by omega) (by omega))) ?_
            refine Gx.val rfl rfl rfl (val_assign rfl rfl) ?_
            refine Gx.done ?_
            refine Gx.thenN ?_
            exact Gx.round (j + 1, av, xs) ⟨by first | omega | (dsimp only; omega), by first | omega | (dsimp only; omega) | (simp only [List.length_append, List.length_cons, List.length_nil]; omega)⟩ (by first | omega | (dsimp only; omega)) ((.cons rfl (.cons rfl (.cons rfl (.cons rfl (.cons rfl .nil)))))) rfl
        · refine Gx.exit ?_
          refine Gx.thenE ?_
          refine Gx.thenE ?_
          refine Gx.blkE ?_
          refine Gx.blkN ?_
          refine Gx.thenN ?_
          refine Gx.region ?_
          refine Gx.val rfl rfl rfl (val_move rfl rfl) ?_
          refine Gx.val rfl rfl rfl (val_add rfl rfl rfl (r := ((i + 1 : Nat) : Int)) (w64 (by omega) (by omega))) ?_
          refine Gx.val rfl rfl rfl (val_assign rfl rfl) ?_
          refine Gx.done ?_
          refine Gx.thenN ?_
          exact Gx.round (i + 1, av, xs) ⟨by first | omega | (dsimp only; omega), by first | omega | (dsimp only; omega) | (simp only [List.length_append, List.length_cons, List.length_nil]; omega)⟩ (by first | omega | (dsimp only; omega)) ((.cons rfl (.cons rfl (.cons rfl (.cons rfl .nil))))) rfl
      · refine Gx.exit ?_
        refine Gx.thenE ?_
        refine Gx.thenE ?_
        refine Gx.blkE ?_
        refine Gx.thenN ?_
        refine Gx.seq ?_
        refine Gx.seq ?_
        refine Gx.region ?_
        refine Gx.val rfl rfl rfl (val_assign rfl rfl) ?_
        refine Gx.done ?_
        refine Gx.thenN ?_
        refine Gx.block ?_
        refine Gx.loop (ι := Nat × Value × (List Cm)) (fun ξ => (ξ.1 ≤ 3) ∧ (ξ.2.2.length + 18 ≤ 120 + ξ.1)) (fun ξ => [(0, .int .i64 3), (5, ξ.2.1), (6, .int .i64 ((t : Nat) : Int)), (9, .int .i64 ((ξ.1 : Nat) : Int))]) (fun ξ => [Hp.own FC 3 ξ.2.1 ξ.2.2]) (fun ξ => 3 - ξ.1) (0, av, xs) ⟨by first | omega | (dsimp only; omega), by first | omega | (dsimp only; omega)⟩ ((.cons rfl (.cons rfl (.cons rfl (.cons rfl .nil))))) rfl ?_
        rintro ⟨i, av, xs⟩ ⟨hi, hx⟩
        dsimp only at hi hx
        refine Gx.know (m' := [(0, .int .i64 3), (5, av), (6, .int .i64 ((t : Nat) : Int)), (9, .int .i64 ((i : Nat) : Int))]) (.cons rfl (.cons rfl (.cons rfl (.cons rfl .nil)))) (Gx.norm (l' := [Hp.own FC 3 av xs]) rfl ?_)
        refine Gx.seq ?_
        refine Gx.seq ?_
        refine Gx.region ?_
        refine Gx.val rfl rfl rfl (val_move rfl rfl) ?_
        refine Gx.val rfl rfl rfl (val_move rfl rfl) ?_
        refine Gx.val rfl rfl rfl (val_lss rfl rfl rfl) ?_
        refine Gx.done ?_
        refine Gx.thenN ?_
        refine Gx.dec rfl (fun h10 => ?_) (fun h10 => ?_)
        · refine Gx.skip ?_
          refine Gx.thenN ?_
          refine Gx.seq ?_
          refine Gx.block ?_
          refine Gx.region ?_
          refine Gx.val rfl rfl rfl (val_move rfl rfl) ?_
          refine Gx.val rfl rfl rfl (val_move rfl rfl) ?_
          refine Gx.val rfl rfl rfl (val_build rfl (qs := [(0, .int .i64 3), (1, .int .i64 ((i : Nat) : Int))]) rfl rfl (fun w => by go_simp) (v := .agg #[.int .i64 3, .int .i64 ((i : Nat) : Int), .int .i64 0])) ?_
          refine Gx.eff rfl rfl rfl (eff_buildSlice rfl (qs := [(0, .agg #[.int .i64 3, .int .i64 ((i : Nat) : Int), .int .i64 0])]) rfl rfl (cs := #[.int .i64 3, .int .i64 ((i : Nat) : Int), .int .i64 0]) (vs := [.int .i64 3, .int .i64 ((i : Nat) : Int), .int .i64 0]) (E := 32) rfl (fun w => by first | (go_simp; done) | (go_simp; rfl))) ?_
          rintro _ _ ⟨b11, rfl, rfl⟩
          refine Gx.eff rfl rfl rfl (eff_push (r := (⟨3, ((i : Nat) : Int), 0⟩ : Cm)) rfl Try.eCm FC_len FC_one rfl rfl (k := 0) rfl rfl (k' := 0) rfl (by omega) (by omega)) ?_
          rintro v12 _ ⟨hiv12, rfl⟩
          refine Gx.norm (l' := [Hp.own FC 3 v12 (xs ++ [(⟨3, ((i : Nat) : Int), 0⟩ : Cm)])]) rfl ?_
          refine Gx.val rfl rfl rfl (val_assign rfl rfl) ?_
          refine Gx.done ?_
          refine Gx.blkN ?_
          refine Gx.thenN ?_
          refine Gx.region ?_
          refine Gx.val rfl rfl rfl (val_move rfl rfl) ?_
          refine Gx.val rfl rfl rfl (val_add rfl rfl rfl (r := ((i + 1 : Nat) : Int)) (w64 (by omega) (by omega))) ?_
          refine Gx.val rfl rfl rfl (val_assign rfl rfl) ?_
          refine Gx.done ?_
          refine Gx.thenN ?_
          exact Gx.round (i + 1, v12, (xs ++ [(⟨3, ((i : Nat) : Int), 0⟩ : Cm)])) ⟨by first | omega | (dsimp only; omega), by first | omega | (dsimp only; omega) | (simp only [List.length_append, List.length_cons, List.length_nil]; omega)⟩ (by first | omega | (dsimp only; omega)) ((.cons rfl (.cons rfl (.cons rfl (.cons rfl .nil))))) rfl
        · refine Gx.exit ?_
          refine Gx.thenE ?_
          refine Gx.thenE ?_
          refine Gx.blkE ?_
          refine Gx.thenN ?_
          refine Gx.seq ?_
          refine Gx.region ?_
          refine Gx.val rfl rfl rfl (val_move rfl rfl) ?_
          refine Gx.val rfl rfl rfl (val_sub rfl rfl rfl (r := 2) (w64 (by omega) (by omega))) ?_
          refine Gx.val rfl rfl rfl (val_assign rfl rfl) ?_
          refine Gx.done ?_
          refine Gx.thenN ?_
          refine Gx.block ?_
          refine Gx.loop (ι := Int × Value × (List Cm)) (fun ξ => (-1 ≤ ξ.1 ∧ ξ.1 < 3) ∧ ((ξ.2.2.length : Int) + 9 ≤ 120 + 3 * (3 - 1 - ξ.1))) (fun ξ => [(0, .int .i64 3), (5, ξ.2.1), (6, .int .i64 ((t : Nat) : Int)), (10, .int .i64 ξ.1)]) (fun ξ => [Hp.own FC 3 ξ.2.1 ξ.2.2]) (fun ξ => (ξ.1 + 1).toNat) (2, av, xs) ⟨by first | omega | (dsimp only; omega), by first | omega | (dsimp only; omega)⟩ ((.cons rfl (.cons rfl (.cons rfl (.cons rfl .nil))))) rfl ?_
          rintro ⟨p, av, xs⟩ ⟨hp, hx⟩
          dsimp only at hp hx
          refine Gx.know (m' := [(0, .int .i64 3), (5, av), (6, .int .i64 ((t : Nat) : Int)), (10, .int .i64 p)]) (.cons rfl (.cons rfl (.cons rfl (.cons rfl .nil)))) (Gx.norm (l' := [Hp.own FC 3 av xs]) rfl ?_)
          refine Gx.seq ?_
          refine Gx.seq ?_
          refine Gx.region ?_
          refine Gx.val rfl rfl rfl (val_move rfl rfl) ?_
          refine Gx.val rfl rfl rfl (val_geq rfl rfl rfl) ?_
          refine Gx.done ?_
          refine Gx.thenN ?_
          refine Gx.dec rfl (fun h13 => ?_) (fun h13 => ?_)
          · refine Gx.skip ?_
            refine Gx.thenN ?_
            refine Gx.seq ?_
            refine Gx.block ?_
            refine Gx.seq ?_
            refine Gx.region ?_
            refine Gx.val rfl rfl rfl (val_assign rfl rfl) ?_
            refine Gx.done ?_
            refine Gx.thenN ?_
            refine Gx.block ?_
            refine Gx.loop (ι := Nat × Value × (List Cm)) (fun ξ => (ξ.1 ≤ 3) ∧ ((ξ.2.2.length : Int) + 9 ≤ 120 + 3 * (3 - 1 - p) + ξ.1)) (fun ξ => [(0, .int .i64 3), (5, ξ.2.1), (6, .int .i64 ((t : Nat) : Int)), (10, .int .i64 p), (11, .int .i64 ((ξ.1 : Nat) : Int))]) (fun ξ => [Hp.own FC 3 ξ.2.1 ξ.2.2]) (fun ξ => 3 - ξ.1) (0, av, xs) ⟨by first | omega | (dsimp only; omega), by first | omega | (dsimp only; omega)⟩ ((.cons rfl (.cons rfl (.cons rfl (.cons rfl (.cons rfl .nil)))))) rfl ?_
            rintro ⟨j, av, xs⟩ ⟨hj, hx⟩
            dsimp only at hj hx
            refine Gx.know (m' := [(0, .int .i64 3), (5, av), (6, .int .i64 ((t : Nat) : Int)), (10, .int .i64 p), (11, .int .i64 ((j : Nat) : Int))]) (.cons rfl (.cons rfl (.cons rfl (.cons rfl (.cons rfl .nil))))) (Gx.norm (l' := [Hp.own FC 3 av xs]) rfl ?_)
            refine Gx.seq ?_
            refine Gx.seq ?_
            refine Gx.region ?_
            refine Gx.val rfl rfl rfl (val_move rfl rfl) ?_
            refine Gx.val rfl rfl rfl (val_move rfl rfl) ?_
            refine Gx.val rfl rfl rfl (val_lss rfl rfl rfl) ?_
            refine Gx.done ?_
            refine Gx.thenN ?_
            refine Gx.dec rfl (fun h14 => ?_) (fun h14 => ?_)
            · refine Gx.skip ?_
              refine Gx.thenN ?_
              refine Gx.seq ?_
              refine Gx.block ?_
              refine Gx.seq ?_
              refine Gx.region ?_
              refine Gx.val rfl rfl rfl (val_move rfl rfl) ?_
              refine Gx.val rfl rfl rfl (val_move rfl rfl) ?_
              refine Gx.val rfl rfl rfl (val_neq rfl rfl rfl) ?_
              refine Gx.done ?_
              refine Gx.thenN ?_
              refine Gx.dec rfl (fun h15 => ?_) (fun h15 => ?_)
              · refine Gx.region ?_
                refine Gx.val rfl rfl rfl (val_move rfl rfl) ?_
                refine Gx.val rfl rfl rfl (val_move rfl rfl) ?_
                refine Gx.val rfl rfl rfl (val_move rfl rfl) ?_
                refine Gx.val rfl rfl rfl (val_build rfl (qs := [(0, .int .i64 4), (1, .int .i64 p), (2, .int .i64 ((j : Nat) : Int))]) rfl rfl (fun w => by go_simp) (v := .agg #[.int .i64 4, .int .i64 p, .int .i64 ((j : Nat) : Int)])) ?_
                refine Gx.eff rfl rfl rfl (eff_buildSlice rfl (qs := [(0, .agg #[.int .i64 4, .int .i64 p, .int .i64 ((j : Nat) : Int)])]) rfl rfl (cs := #[.int .i64 4, .int .i64 p, .int .i64 ((j : Nat) : Int)]) (vs := [.int .i64 4, .int .i64 p, .int .i64 ((j : Nat) : Int)]) (E := 32) rfl (fun w => by first | (go_simp; done) | (go_simp; rfl))) ?_
                rintro _ _ ⟨b16, rfl, rfl⟩
                refine Gx.eff rfl rfl rfl (eff_push (r := (⟨4, p, ((j : Nat) : Int)⟩ : Cm)) rfl Try.eCm FC_len FC_one rfl rfl (k := 0) rfl rfl (k' := 0) rfl (by omega) (by omega)) ?_
                rintro v17 _ ⟨hiv17, rfl⟩
                refine Gx.norm (l' := [Hp.own FC 3 v17 (xs ++ [(⟨4, p, ((j : Nat) : Int)⟩ : Cm)])]) rfl ?_
                refine Gx.val rfl rfl rfl (val_assign rfl rfl) ?_
                refine Gx.done ?_
                refine Gx.blkN ?_
                refine Gx.thenN ?_
                refine Gx.region ?_
                refine Gx.val rfl rfl rfl (val_move rfl rfl) ?_
                refine Gx.val rfl rfl rfl (val_add rfl rfl rfl (r := ((j + 1 : Nat) : Int)) (w64 (by omega) (by omega))) ?_
                refine Gx.val rfl rfl rfl (val_assign rfl rfl) ?_
                refine Gx.done ?_
                refine Gx.thenN ?_
                exact Gx.round (j + 1, v17, (xs ++ [(⟨4, p, ((j : Nat) : Int)⟩ : Cm)])) ⟨by first | omega | (dsimp only; omega), by first | omega | (dsimp only; omega) | (simp only [List.length_append, List.length_cons, List.length_nil]; omega)⟩ (by first | omega | (dsimp only; omega)) ((.cons rfl (.cons rfl (.cons rfl (.cons rfl (.cons rfl .nil)))))) rfl
              · refine Gx.skip ?_
                refine Gx.blkN ?_
                refine Gx.thenN ?_
                refine Gx.region ?_
                refine Gx.val rfl rfl rfl (val_move rfl rfl) ?_
                refine Gx.val rfl rfl rfl (val_add rfl rfl rfl (r := ((j + 1 : Nat) : Int)) (w64 (by omega) (by omega))) ?_
                refine Gx.val rfl rfl rfl (val_assign rfl rfl) ?_
                refine Gx.done ?_
                refine Gx.thenN ?_
                exact Gx.round (j + 1, av, xs) ⟨by first | omega | (dsimp only; omega), by first | omega | (dsimp only; omega) | (simp only [List.length_append, List.length_cons, List.length_nil]; omega)⟩ (by first | omega | (dsimp only; omega)) ((.cons rfl (.cons rfl (.cons rfl (.cons rfl (.cons rfl .nil)))))) rfl
            · refine Gx.exit ?_
              refine Gx.thenE ?_
              refine Gx.thenE ?_
              refine Gx.blkE ?_
              refine Gx.blkN ?_
              refine Gx.thenN ?_
              refine Gx.region ?_
              refine Gx.val rfl rfl rfl (val_move rfl rfl) ?_
              refine Gx.val rfl rfl rfl (val_sub rfl rfl rfl (r := (p - 1)) (w64 rfl (by omega))) ?_
              refine Gx.val rfl rfl rfl (val_assign rfl rfl) ?_
              refine Gx.done ?_
              refine Gx.thenN ?_
              exact Gx.round ((p - 1), av, xs) ⟨by first | omega | (dsimp only; omega), by first | omega | (dsimp only; omega) | (simp only [List.length_append, List.length_cons, List.length_nil]; omega)⟩ (by first | omega | (dsimp only; omega)) ((.cons rfl (.cons rfl (.cons rfl (.cons rfl .nil))))) rfl
          · refine Gx.exit ?_
            refine Gx.thenE ?_
            refine Gx.thenE ?_
            refine Gx.blkE ?_
            refine Gx.blkN ?_
            refine Gx.thenN ?_
            refine Gx.region ?_
            refine Gx.val rfl rfl rfl (val_move rfl rfl) ?_
            refine Gx.val rfl rfl rfl (val_add rfl rfl rfl (r := ((t + 1 : Nat) : Int)) (w64 (by omega) (by omega))) ?_
            refine Gx.val rfl rfl rfl (val_assign rfl rfl) ?_
            refine Gx.done ?_
            refine Gx.thenN ?_
            exact Gx.round (t + 1, av, xs) ⟨by first | omega | (dsimp only; omega), by first | omega | (dsimp only; omega) | (simp only [List.length_append, List.length_cons, List.length_nil]; omega)⟩ (by first | omega | (dsimp only; omega)) ((.cons rfl (.cons rfl (.cons rfl .nil)))) rfl
    · refine Gx.exit ?_
      refine Gx.thenE ?_
      refine Gx.thenE ?_
      refine Gx.blkE ?_
      refine Gx.thenN ?_
      refine Gx.seq ?_
      refine Gx.region ?_
      refine Gx.val rfl rfl rfl (val_move rfl rfl) ?_
      refine Gx.val rfl rfl rfl (val_move rfl rfl) ?_
      refine Gx.callB rfl rfl rfl (vs := [.int .i64 3, av]) rfl Try.fn7 rfl (R := PlayV 3 xs) (fun w H => (play_v (n := 3) ((H.at_ (k := 0) rfl).sls (by omega)) (by omega) (by omega) (by omega))) ?_
      rintro _ W19 ⟨a118, c118, a218, c218, a318, c318, ks18, ws18, bs18, aw18, dn18, rfl, hk18, hw18, hb18, hF18⟩ H20
      have hW21 := H20.below
      have hs22 := hs.below H20.below
      have hs23 := (H20.at_ (k := 0) rfl).sls (by first | omega | (simp; omega))
      have hkl18 := hF18.kl
      have hwl18 := hF18.wl
      have hbl18 := hF18.bl
      refine Gx.val rfl rfl rfl (val_move rfl rfl) ?_
      refine Gx.val rfl rfl rfl (val_extract rfl rfl rfl) ?_
      refine Gx.val rfl rfl rfl (val_extract rfl rfl rfl) ?_
      refine Gx.eff rfl rfl rfl (eff_alloc rfl Try.ty26 (vs := [.slice none 0 0, .slice none 0 0, .slice none 0 0, .int .i64 0, .bool false]) rfl) ?_
      rintro _ _ ⟨b24, rfl, rfl⟩
      refine Gx.eff0 rfl rfl (eff_store rfl Try.ty26 rfl rfl (us := [.slice a118 xs.length c118, .slice a218 3 c218, .slice a318 3 c318, .int .i64 ((aw18 : Nat) : Int), .bool dn18]) rfl rfl rfl (k := 0) rfl rfl (vs' := [.slice a118 xs.length c118, .slice a218 3 c218, .slice a318 3 c318, .int .i64 ((aw18 : Nat) : Int), .bool dn18]) rfl (l' := [Hp.rec_ b24 [.slice a118 xs.length c118, .slice a218 3 c218, .slice a318 3 c318, .int .i64 ((aw18 : Nat) : Int), .bool dn18]]) rfl) ?_
      rintro _ _ rfl
      refine Gx.val rfl rfl rfl (val_assign rfl rfl) ?_
      refine Gx.done ?_
      refine Gx.thenN ?_
      refine Gx.seq ?_
      refine Gx.seq ?_
      refine Gx.region ?_
      refine Gx.val rfl rfl rfl (val_move rfl rfl) ?_
      refine Gx.val rfl rfl rfl (Val.cast (val_neq rfl rfl rfl) (v' := .bool false) rfl) ?_
      refine Gx.val rfl rfl rfl (val_move rfl rfl) ?_
      refine Gx.valg rfl rfl rfl rfl rfl (Val.cast (val_fieldAddr rfl Try.underlying26 rfl Try.ty24 rfl rfl) (v' := ptr b24 1) rfl) ?_
      refine Gx.valg rfl rfl rfl rfl rfl (val_load rfl Try.ty24 rfl rfl (cell_rec (k := 0) rfl rfl)) ?_
      refine Gx.valg rfl rfl rfl rfl rfl (val_len rfl Try.underlying24 rfl (len_base hw18)) ?_
      refine Gx.valg rfl rfl rfl rfl rfl (val_move rfl rfl) ?_
      refine Gx.valg rfl rfl rfl rfl rfl (val_neq rfl rfl rfl) ?_
      refine Gx.val rfl rfl rfl (val_pickF rfl rfl rfl) ?_
      refine Gx.done ?_
      refine Gx.thenN ?_
      refine Gx.dec rfl (fun h25 => ?_) (fun h25 => ?_)
      · refine Gx.seq ?_
        refine Gx.region ?_
        refine Gx.val rfl rfl rfl (val_assign rfl rfl) ?_
        refine Gx.done ?_
        refine Gx.thenN ?_
        refine Gx.ret ?_
        refine Gx.thenR ?_
        refine Gx.ret1B hW21 Try.results4 rfl ?_
        exfalso; omega
      · refine Gx.skip ?_
        refine Gx.thenN ?_
        refine Gx.seq ?_
        refine Gx.region ?_
        refine Gx.val rfl rfl rfl (val_assign rfl rfl) ?_
        refine Gx.done ?_
        refine Gx.thenN ?_
        refine Gx.seq ?_
        refine Gx.seq ?_
        refine Gx.region ?_
        refine Gx.val rfl rfl rfl (Val.cast (val_fieldAddr rfl Try.underlying26 rfl Try.ty24 rfl rfl) (v' := ptr b24 1) rfl) ?_
        refine Gx.val rfl rfl rfl (val_load rfl Try.ty24 rfl rfl (cell_rec (k := 0) rfl rfl)) ?_
        refine Gx.val rfl rfl rfl (val_len rfl Try.underlying24 rfl (len_base hw18)) ?_
        refine Gx.val rfl rfl rfl (val_move rfl rfl) ?_
        refine Gx.done ?_
        refine Gx.thenN ?_
        refine Gx.block ?_
        refine Gx.loop (ι := Nat × Bool) (fun ξ => (ξ.1 ≤ ws18.length) ∧ (ξ.2 = (ws18.take ξ.1).any id)) (fun ξ => [(12, ptr b24 0), (110, .slice a218 3 c218), (111, .int .i64 ((ws18.length : Nat) : Int)), (14, .bool ξ.2), (112, .int .i64 ((ξ.1 : Nat) : Int))]) (fun ξ => [Hp.rec_ b24 [.slice a118 xs.length c118, .slice a218 3 c218, .slice a318 3 c318, .int .i64 ((aw18 : Nat) : Int), .bool dn18]]) (fun ξ => ws18.length - ξ.1) (0, false) ⟨by first | omega | (dsimp only; omega), rfl⟩ ((.cons rfl (.cons rfl (.cons rfl (.cons rfl (.cons rfl .nil)))))) rfl ?_
        rintro ⟨k, b⟩ ⟨hk, hb⟩
        dsimp only at hk hb
        refine Gx.know (m' := [(12, ptr b24 0), (110, .slice a218 3 c218), (111, .int .i64 ((ws18.length : Nat) : Int)), (14, .bool b), (112, .int .i64 ((k : Nat) : Int))]) (.cons rfl (.cons rfl (.cons rfl (.cons rfl (.cons rfl .nil))))) (Gx.norm (l' := [Hp.rec_ b24 [.slice a118 xs.length c118, .slice a218 3 c218, .slice a318 3 c318, .int .i64 ((aw18 : Nat) : Int), .bool dn18]]) rfl ?_)
        refine Gx.seq ?_
        refine Gx.region ?_
        refine Gx.val rfl rfl rfl (val_lss rfl rfl rfl) ?_
        refine Gx.done ?_
        refine Gx.thenN ?_
        refine Gx.seq ?_
        refine Gx.dec rfl (fun h26 => ?_) (fun h26 => ?_)
        · refine Gx.skip ?_
          refine Gx.thenN ?_
          refine Gx.seq ?_
          refine Gx.block ?_
          refine Gx.seq ?_
          refine Gx.region ?_
          obtain ⟨x27, hx27⟩ := get_of_lt (xs := ws18) (k := k) (by omega)
          refine Gx.val rfl rfl rfl (val_ixa rfl Try.underlying24 Try.ty4 rfl rfl (j := k) (rfl) (reach_base hw18 hx27)) ?_
          refine Gx.val rfl rfl rfl (val_load rfl Try.ty4 rfl rfl (cell_base (i := 0) hw18 hx27 rfl)) ?_
          refine Gx.val rfl rfl rfl (val_assign rfl rfl) ?_
          refine Gx.done ?_
          refine Gx.thenN ?_
          refine Gx.region ?_
          refine Gx.val rfl rfl rfl (val_move rfl rfl) ?_
          refine Gx.val rfl rfl rfl (val_move rfl rfl) ?_
          refine Gx.casesB (t := 117) rfl (fun h28 => ?_) (fun h28 => ?_)
          · refine Gx.skipg rfl rfl rfl rfl rfl rfl ?_
            refine Gx.val rfl rfl rfl (val_pickT rfl rfl rfl) ?_
            refine Gx.val rfl rfl rfl (val_assign rfl rfl) ?_
            refine Gx.done ?_
            refine Gx.blkN ?_
            refine Gx.thenN ?_
            refine Gx.region ?_
            refine Gx.val rfl rfl rfl (val_add rfl rfl rfl (r := ((k + 1 : Nat) : Int)) (w64 (by omega) (by omega))) ?_
            refine Gx.val rfl rfl rfl (val_move rfl rfl) ?_
            refine Gx.done ?_
            refine Gx.thenN ?_
            exact Gx.round (k + 1, true) ⟨by first | omega | (dsimp only; omega), by rw [take_of hx27, List.any_append, ← hb]; simp_all⟩ (by first | omega | (dsimp only; omega)) ((.cons rfl (.cons rfl (.cons rfl (.cons rfl (.cons rfl .nil)))))) rfl
          · refine Gx.valg rfl rfl rfl rfl rfl (val_move rfl rfl) ?_
            refine Gx.val rfl rfl rfl (val_pickF rfl rfl rfl) ?_
            refine Gx.val rfl rfl rfl (val_assign rfl rfl) ?_
            refine Gx.done ?_
            refine Gx.blkN ?_
            refine Gx.thenN ?_
            refine Gx.region ?_
            refine Gx.val rfl rfl rfl (val_add rfl rfl rfl (r := ((k + 1 : Nat) : Int)) (w64 (by omega) (by omega))) ?_
            refine Gx.val rfl rfl rfl (val_move rfl rfl) ?_
            refine Gx.done ?_
            refine Gx.thenN ?_
            exact Gx.round (k + 1, x27) ⟨by first | omega | (dsimp only; omega), by rw [take_of hx27, List.any_append, ← hb]; simp_all⟩ (by first | omega | (dsimp only; omega)) ((.cons rfl (.cons rfl (.cons rfl (.cons rfl (.cons rfl .nil)))))) rfl
        · refine Gx.exit ?_
          refine Gx.thenE ?_
          refine Gx.thenE ?_
          refine Gx.blkE ?_
          refine Gx.thenN ?_
          refine Gx.seq ?_
          refine Gx.region ?_
          refine Gx.val rfl rfl rfl (Val.cast (val_fieldAddr rfl Try.underlying26 rfl Try.ty4 rfl rfl) (v' := ptr b24 4) rfl) ?_
          refine Gx.val rfl rfl rfl (val_load rfl Try.ty4 rfl rfl (cell_rec (k := 0) rfl rfl)) ?_
          refine Gx.val rfl rfl rfl (val_move rfl rfl) ?_
          refine Gx.val rfl rfl rfl (val_not rfl rfl) ?_
          refine Gx.val rfl rfl rfl (val_move rfl rfl) ?_
          refine Gx.casesB (t := 125) rfl (fun h29 => ?_) (fun h29 => ?_)
          · refine Gx.valg rfl rfl rfl rfl rfl (Val.cast (val_fieldAddr rfl Try.underlying26 rfl Try.ty3 rfl rfl) (v' := ptr b24 3) rfl) ?_
            refine Gx.valg rfl rfl rfl rfl rfl (val_load rfl Try.ty3 rfl rfl (cell_rec (k := 0) rfl rfl)) ?_
            refine Gx.valg rfl rfl rfl rfl rfl (val_eql rfl rfl rfl) ?_
            refine Gx.val rfl rfl rfl (val_pickT rfl rfl rfl) ?_
            refine Gx.val rfl rfl rfl (val_eqlB Try.underlying4 rfl rfl rfl) ?_
            refine Gx.val rfl rfl rfl (val_assign rfl rfl) ?_
            refine Gx.done ?_
            refine Gx.thenN ?_
            refine Gx.ret ?_
            have ek : k = ws18.length := by omega
            subst ek
            rw [List.take_length] at hb
            have hT := tells hF18
            rw [← hb] at hT
            refine Gx.ret1B hW21 Try.results4 rfl ?_
            exact congrArg Value.bool (by rw [hT]; simp_all)
          · refine Gx.skipg rfl rfl rfl rfl rfl rfl ?_
            refine Gx.skipg rfl rfl rfl rfl rfl rfl ?_
            refine Gx.skipg rfl rfl rfl rfl rfl rfl ?_
            refine Gx.val rfl rfl rfl (val_pickF rfl rfl rfl) ?_
            refine Gx.val rfl rfl rfl (val_eqlB Try.underlying4 rfl rfl rfl) ?_
            refine Gx.val rfl rfl rfl (val_assign rfl rfl) ?_
            refine Gx.done ?_
            refine Gx.thenN ?_
            refine Gx.ret ?_
            have ek : k = ws18.length := by omega
            subst ek
            rw [List.take_length] at hb
            have hT := tells hF18
            rw [← hb] at hT
            refine Gx.ret1B hW21 Try.results4 rfl ?_
            exact congrArg Value.bool (by rw [hT]; simp_all)
  · refine Gx.skipg rfl rfl rfl rfl rfl rfl ?_
    refine Gx.skipg rfl rfl rfl rfl rfl rfl ?_
    refine Gx.skipg rfl rfl rfl rfl rfl rfl ?_
    refine Gx.skipg rfl rfl rfl rfl rfl rfl ?_
    refine Gx.skipg rfl rfl rfl rfl rfl rfl ?_
    refine Gx.skipg rfl rfl rfl rfl rfl rfl ?_
    refine Gx.skipg rfl rfl rfl rfl rfl rfl ?_
    refine Gx.skipg rfl rfl rfl rfl rfl rfl ?_
    refine Gx.val rfl rfl rfl (val_pickF rfl rfl rfl) ?_
    refine Gx.done ?_
    refine Gx.thenN ?_
    refine Gx.f rfl ?_
    refine Gx.exit ?_
    refine Gx.thenE ?_
    refine Gx.thenE ?_
    refine Gx.blkE ?_
    refine Gx.thenN ?_
    refine Gx.seq ?_
    refine Gx.region ?_
    refine Gx.val rfl rfl rfl (val_move rfl rfl) ?_
    refine Gx.val rfl rfl rfl (val_move rfl rfl) ?_
    refine Gx.callB rfl rfl rfl (vs := [.int .i64 3, av]) rfl Try.fn7 rfl (R := PlayV 3 xs) (fun w H => (play_v (n := 3) ((H.at_ (k := 0) rfl).sls (by omega)) (by omega) (by omega) (by omega))) ?_
    rintro _ W31 ⟨a130, c130, a230, c230, a330, c330, ks30, ws30, bs30, aw30, dn30, rfl, hk30, hw30, hb30, hF30⟩ H32
    have hW33 := H32.below
    have hs34 := hs.below H32.below
    have hs35 := (H32.at_ (k := 0) rfl).sls (by first | omega | (simp; omega))
    have hkl30 := hF30.kl
    have hwl30 := hF30.wl
    have hbl30 := hF30.bl
    refine Gx.val rfl rfl rfl (val_move rfl rfl) ?_
    refine Gx.val rfl rfl rfl (val_extract rfl rfl rfl) ?_
    refine Gx.val rfl rfl rfl (val_extract rfl rfl rfl) ?_
    refine Gx.eff rfl rfl rfl (eff_alloc rfl Try.ty26 (vs := [.slice none 0 0, .slice none 0 0, .slice none 0 0, .int .i64 0, .bool false]) rfl) ?_
    rintro _ _ ⟨b36, rfl, rfl⟩
    refine Gx.eff0 rfl rfl (eff_store rfl Try.ty26 rfl rfl (us := [.slice a130 xs.length c130, .slice a230 3 c230, .slice a330 3 c330, .int .i64 ((aw30 : Nat) : Int), .bool dn30]) rfl rfl rfl (k := 0) rfl rfl (vs' := [.slice a130 xs.length c130, .slice a230 3 c230, .slice a330 3 c330, .int .i64 ((aw30 : Nat) : Int), .bool dn30]) rfl (l' := [Hp.rec_ b36 [.slice a130 xs.length c130, .slice a230 3 c230, .slice a330 3 c330, .int .i64 ((aw30 : Nat) : Int), .bool dn30]]) rfl) ?_
    rintro _ _ rfl
    refine Gx.val rfl rfl rfl (val_assign rfl rfl) ?_
    refine Gx.done ?_
    refine Gx.thenN ?_
    refine Gx.seq ?_
    refine Gx.seq ?_
    refine Gx.region ?_
    refine Gx.val rfl rfl rfl (val_move rfl rfl) ?_
    refine Gx.val rfl rfl rfl (Val.cast (val_neq rfl rfl rfl) (v' := .bool false) rfl) ?_
    refine Gx.val rfl rfl rfl (val_move rfl rfl) ?_
    refine Gx.valg rfl rfl rfl rfl rfl (Val.cast (val_fieldAddr rfl Try.underlying26 rfl Try.ty24 rfl rfl) (v' := ptr b36 1) rfl) ?_
    refine Gx.valg rfl rfl rfl rfl rfl (val_load rfl Try.ty24 rfl rfl (cell_rec (k := 0) rfl rfl)) ?_
    refine Gx.valg rfl rfl rfl rfl rfl (val_len rfl Try.underlying24 rfl (len_base hw30)) ?_
    refine Gx.valg rfl rfl rfl rfl rfl (val_move rfl rfl) ?_
    refine Gx.valg rfl rfl rfl rfl rfl (val_neq rfl rfl rfl) ?_
    refine Gx.val rfl rfl rfl (val_pickF rfl rfl rfl) ?_
    refine Gx.done ?_
    refine Gx.thenN ?_
    refine Gx.dec rfl (fun h37 => ?_) (fun h37 => ?_)
    · refine Gx.seq ?_
      refine Gx.region ?_
      refine Gx.val rfl rfl rfl (val_assign rfl rfl) ?_
      refine Gx.done ?_
      refine Gx.thenN ?_
      refine Gx.ret ?_
      refine Gx.thenR ?_
      refine Gx.ret1B hW33 Try.results4 rfl ?_
      exfalso; omega
    · refine Gx.skip ?_
      refine Gx.thenN ?_
      refine Gx.seq ?_
      refine Gx.region ?_
      refine Gx.val rfl rfl rfl (val_assign rfl rfl) ?_
      refine Gx.done ?_
      refine Gx.thenN ?_
      refine Gx.seq ?_
      refine Gx.seq ?_
      refine Gx.region ?_
      refine Gx.val rfl rfl rfl (Val.cast (val_fieldAddr rfl Try.underlying26 rfl Try.ty24 rfl rfl) (v' := ptr b36 1) rfl) ?_
      refine Gx.val rfl rfl rfl (val_load rfl Try.ty24 rfl rfl (cell_rec (k := 0) rfl rfl)) ?_
      refine Gx.val rfl rfl rfl (val_len rfl Try.underlying24 rfl (len_base hw30)) ?_
      refine Gx.val rfl rfl rfl (val_move rfl rfl) ?_
      refine Gx.done ?_
      refine Gx.thenN ?_
      refine Gx.block ?_
      refine Gx.loop (ι := Nat × Bool) (fun ξ => (ξ.1 ≤ ws30.length) ∧ (ξ.2 = (ws30.take ξ.1).any id)) (fun ξ => [(12, ptr b36 0), (110, .slice a230 3 c230), (111, .int .i64 ((ws30.length : Nat) : Int)), (14, .bool ξ.2), (112, .int .i64 ((ξ.1 : Nat) : Int))]) (fun ξ => [Hp.rec_ b36 [.slice a130 xs.length c130, .slice a230 3 c230, .slice a330 3 c330, .int .i64 ((aw30 : Nat) : Int), .bool dn30]]) (fun ξ => ws30.length - ξ.1) (0, false) ⟨by first | omega | (dsimp only; omega), rfl⟩ ((.cons rfl (.cons rfl (.cons rfl (.cons rfl (.cons rfl .nil)))))) rfl ?_
      rintro ⟨k, b⟩ ⟨hk, hb⟩
      dsimp only at hk hb
      refine Gx.know (m' := [(12, ptr b36 0), (110, .slice a230 3 c230), (111, .int .i64 ((ws30.length : Nat) : Int)), (14, .bool b), (112, .int .i64 ((k : Nat) : Int))]) (.cons rfl (.cons rfl (.cons rfl (.cons rfl (.cons rfl .nil))))) (Gx.norm (l' := [Hp.rec_ b36 [.slice a130 xs.length c130, .slice a230 3 c230, .slice a330 3 c330, .int .i64 ((aw30 : Nat) : Int), .bool dn30]]) rfl ?_)
      refine Gx.seq ?_
      refine Gx.region ?_
      refine Gx.val rfl rfl rfl (val_lss rfl rfl rfl) ?_
      refine Gx.done ?_
      refine Gx.thenN ?_
      refine Gx.seq ?_
      refine Gx.dec rfl (fun h38 => ?_) (fun h38 => ?_)
      · refine Gx.skip ?_
        refine Gx.thenN ?_
        refine Gx.seq ?_
        refine Gx.block ?_
        refine Gx.seq ?_
        refine Gx.region ?_
        obtain ⟨x39, hx39⟩ := get_of_lt (xs := ws30) (k := k) (by omega)
        refine Gx.val rfl rfl rfl (val_ixa rfl Try.underlying24 Try.ty4 rfl rfl (j := k) (rfl) (reach_base hw30 hx39)) ?_
        refine Gx.val rfl rfl rfl (val_load rfl Try.ty4 rfl rfl (cell_base (i := 0) hw30 hx39 rfl)) ?_
        refine Gx.val rfl rfl rfl (val_assign rfl rfl) ?_
        refine Gx.done ?_
        refine Gx.thenN ?_
        refine Gx.region ?_
        refine Gx.val rfl rfl rfl (val_move rfl rfl) ?_
        refine Gx.val rfl rfl rfl (val_move rfl rfl) ?_
        refine Gx.casesB (t := 117) rfl (fun h40 => ?_) (fun h40 => ?_)
        · refine Gx.skipg rfl rfl rfl rfl rfl rfl ?_
          refine Gx.val rfl rfl rfl (val_pickT rfl rfl rfl) ?_
          refine Gx.val rfl rfl rfl (val_assign rfl rfl) ?_
          refine Gx.done ?_
          refine Gx.blkN ?_
          refine Gx.thenN ?_
          refine Gx.region ?_
          refine Gx.val rfl rfl rfl (val_add rfl rfl rfl (r := ((k + 1 : Nat) : Int)) (w64 (by omega) (by omega))) ?_
          refine Gx.val rfl rfl rfl (val_move rfl rfl) ?_
          refine Gx.done ?_
          refine Gx.thenN ?_
          exact Gx.round (k + 1, true) ⟨by first | omega | (dsimp only; omega), by rw [take_of hx39, List.any_append, ← hb]; simp_all⟩ (by first | omega | (dsimp only; omega)) ((.cons rfl (.cons rfl (.cons rfl (.cons rfl (.cons rfl .nil)))))) rfl
        · refine Gx.valg rfl rfl rfl rfl rfl (val_move rfl rfl) ?_
          refine Gx.val rfl rfl rfl (val_pickF rfl rfl rfl) ?_
          refine Gx.val rfl rfl rfl (val_assign rfl rfl) ?_
          refine Gx.done ?_
          refine Gx.blkN ?_
          refine Gx.thenN ?_
          refine Gx.region ?_
          refine Gx.val rfl rfl rfl (val_add rfl rfl rfl (r := ((k + 1 : Nat) : Int)) (w64 (by omega) (by omega))) ?_
          refine Gx.val rfl rfl rfl (val_move rfl rfl) ?_
          refine Gx.done ?_
          refine Gx.thenN ?_
          exact Gx.round (k + 1, x39) ⟨by first | omega | (dsimp only; omega), by rw [take_of hx39, List.any_append, ← hb]; simp_all⟩ (by first | omega | (dsimp only; omega)) ((.cons rfl (.cons rfl (.cons rfl (.cons rfl (.cons rfl .nil)))))) rfl
      · refine Gx.exit ?_
        refine Gx.thenE ?_
        refine Gx.thenE ?_
        refine Gx.blkE ?_
        refine Gx.thenN ?_
        refine Gx.seq ?_
        refine Gx.region ?_
        refine Gx.val rfl rfl rfl (Val.cast (val_fieldAddr rfl Try.underlying26 rfl Try.ty4 rfl rfl) (v' := ptr b36 4) rfl) ?_
        refine Gx.val rfl rfl rfl (val_load rfl Try.ty4 rfl rfl (cell_rec (k := 0) rfl rfl)) ?_
        refine Gx.val rfl rfl rfl (val_move rfl rfl) ?_
        refine Gx.val rfl rfl rfl (val_not rfl rfl) ?_
        refine Gx.val rfl rfl rfl (val_move rfl rfl) ?_
        refine Gx.casesB (t := 125) rfl (fun h41 => ?_) (fun h41 => ?_)
        · refine Gx.valg rfl rfl rfl rfl rfl (Val.cast (val_fieldAddr rfl Try.underlying26 rfl Try.ty3 rfl rfl) (v' := ptr b36 3) rfl) ?_
          refine Gx.valg rfl rfl rfl rfl rfl (val_load rfl Try.ty3 rfl rfl (cell_rec (k := 0) rfl rfl)) ?_
          refine Gx.valg rfl rfl rfl rfl rfl (val_eql rfl rfl rfl) ?_
          refine Gx.val rfl rfl rfl (val_pickT rfl rfl rfl) ?_
          refine Gx.val rfl rfl rfl (val_eqlB Try.underlying4 rfl rfl rfl) ?_
          refine Gx.val rfl rfl rfl (val_assign rfl rfl) ?_
          refine Gx.done ?_
          refine Gx.thenN ?_
          refine Gx.ret ?_
          have ek : k = ws30.length := by omega
          subst ek
          rw [List.take_length] at hb
          have hT := tells hF30
          rw [← hb] at hT
          refine Gx.ret1B hW33 Try.results4 rfl ?_
          exact congrArg Value.bool (by rw [hT]; simp_all)
        · refine Gx.skipg rfl rfl rfl rfl rfl rfl ?_
          refine Gx.skipg rfl rfl rfl rfl rfl rfl ?_
          refine Gx.skipg rfl rfl rfl rfl rfl rfl ?_
          refine Gx.val rfl rfl rfl (val_pickF rfl rfl rfl) ?_
          refine Gx.val rfl rfl rfl (val_eqlB Try.underlying4 rfl rfl rfl) ?_
          refine Gx.val rfl rfl rfl (val_assign rfl rfl) ?_
          refine Gx.done ?_
          refine Gx.thenN ?_
          refine Gx.ret ?_
          have ek : k = ws30.length := by omega
          subst ek
          rw [List.take_length] at hb
          have hT := tells hF30
          rw [← hb] at hT
          refine Gx.ret1B hW33 Try.results4 rfl ?_
          exact congrArg Value.bool (by rw [hT]; simp_all)

theorem tells_any (n : Int) (sv : Value) (cs : List Cm) (W : World) (hs : SlS FC 3 W sv cs) : Calls Try.prog 4 #[.int .i64 n, sv] W fun e w' => e = .returned (.bool true) ∧ Below W.heap.size W w' := by
  by_cases h : 1 ≤ n ∧ n ≤ 3 ∧ cs.length ≤ 10
  · rcases (show n = 1 ∨ n = 2 ∨ n = 3 by omega) with rfl | rfl | rfl
    · exact tells_in1 hs (by omega)
    · exact tells_in2 hs (by omega)
    · exact tells_in3 hs (by omega)
  · exact tells_out hs (by omega)

end Go.Proofs.Ytgnpngiecnkfiaa
