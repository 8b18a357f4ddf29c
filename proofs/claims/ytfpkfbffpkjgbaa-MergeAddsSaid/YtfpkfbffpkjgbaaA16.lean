/- A script, and each takes each other one, so many times. The walk. No condition. -/
import Derived.Test.YtfpkfbffpkjgbaaA15
namespace Go.Proofs.Ytfpkfbffpkjgbaa
open Go.RowKit
set_option linter.unusedVariables false
set_option linter.unusedSimpArgs false
set_option maxRecDepth 100000

/-- i takes each of the first j -/
def mgs (i : Nat) : Nat → List Sy
  | 0 => []
  | j + 1 => if i ≠ j then mgs i j ++ [⟨5, i, j, 0, 0⟩] else mgs i j
def rws (n : Nat) : Nat → List Sy
  | 0 => []
  | i + 1 => rws n i ++ mgs i n
def tms (n : Nat) : Nat → List Sy
  | 0 => []
  | t + 1 => tms n t ++ rws n n
theorem mgs_len (i : Nat) : ∀ j, (mgs i j).length ≤ j
  | 0 => Nat.le_refl _
  | j + 1 => by have := mgs_len i j; rw [mgs]; split <;> simp <;> omega
theorem rws_len (n : Nat) : ∀ i, (rws n i).length ≤ i * n
  | 0 => by simp [rws]
  | i + 1 => by have := rws_len n i; have := mgs_len i n; rw [rws, List.length_append, Nat.add_mul]; omega
theorem tms_len (n : Nat) : ∀ t, (tms n t).length ≤ t * (n * n)
  | 0 => by simp [tms]
  | t + 1 => by have := tms_len n t; have := rws_len n n; rw [tms, List.length_append, Nat.add_mul]; omega
theorem mgs_yes {A : List Sy} {i j : Nat} (h : i ≠ j) : A ++ mgs i (j + 1) = (A ++ mgs i j) ++ [⟨5, i, j, 0, 0⟩] := by rw [mgs, if_pos h, List.append_assoc]
theorem mgs_no {A : List Sy} {i j : Nat} (h : i = j) : A ++ mgs i (j + 1) = A ++ mgs i j := by rw [mgs, if_neg (fun q => q h)]
theorem rws_step {A : List Sy} {n i : Nat} : A ++ rws n (i + 1) = (A ++ rws n i) ++ mgs i n := by rw [rws, List.append_assoc]
theorem tms_step {A : List Sy} {n t : Nat} : A ++ tms n (t + 1) = (A ++ tms n t) ++ rws n n := by rw [tms, List.append_assoc]
theorem synced_any {W : World} {n : Nat} {sv : Value} {xs : List Sy} (hs : SlS FY 5 W sv xs) (hn4 : n ≤ 4) (hcx : xs.length ≤ 120) :
    Calls Try.prog 13 #[.int .i64 ((n : Nat) : Int), sv, .int .i64 2] W (Ret W fun v l9 => IsS v ∧ l9 = [Hp.own FY 5 v (xs ++ tms n 2)]) := by
  have hm9 := sls_bd hs
  refine Gx.enter (l := []) Try.func13 rfl Try.ntmps13 rfl (Sat.start W) ?_
  refine Gx.know (m' := [(0, .int .i64 ((n : Nat) : Int)), (1, sv), (2, .int .i64 2)]) (.cons rfl (.cons rfl (.cons rfl .nil))) ?_
  refine Gx.seq ?_
  refine Gx.region ?_
  refine Gx.val rfl rfl rfl (val_assign rfl rfl) ?_
  refine Gx.done ?_
  refine Gx.thenN ?_
  refine Gx.seq ?_
  refine Gx.region ?_
  refine Gx.eff rfl rfl rfl (eff_buildNil (f := FY) (sz := 5) (e := 42) rfl Try.underlying34 (fun w => by first | (go_simp; done) | (go_simp; rfl))) ?_
  rintro v1 _ ⟨hiv1, rfl⟩
  refine Gx.val rfl rfl rfl (val_move rfl rfl) ?_
  refine Gx.eff rfl rfl rfl (eff_pushAll (k := 0) (ys := xs) rfl Try.eY FY_len FY_one rfl rfl (fun w H => hs.below H.below) rfl (by simp; omega) (by simp; omega)) ?_
  rintro v2 _ ⟨hiv2, rfl⟩
  refine Gx.norm (l' := [Hp.own FY 5 v2 xs]) rfl ?_
  refine Gx.val rfl rfl rfl (val_assign rfl rfl) ?_
  refine Gx.done ?_
  refine Gx.thenN ?_
  refine Gx.seq ?_
  refine Gx.seq ?_
  refine Gx.norm (l' := [Hp.own FY 5 v2 (xs ++ tms n 0)]) (by rw [tms, List.append_nil] <;> rfl) ?_
  refine Gx.region ?_
  refine Gx.val rfl rfl rfl (val_assign rfl rfl) ?_
  refine Gx.done ?_
  refine Gx.thenN ?_
  refine Gx.block ?_
  refine Gx.loop (ι := Nat × Value) (fun ξ => (ξ.1 ≤ 2) ∧ (IsS ξ.2)) (fun ξ => [(0, .int .i64 ((n : Nat) : Int)), (2, .int .i64 2), (7, ξ.2), (8, .int .i64 ((ξ.1 : Nat) : Int))]) (fun ξ => [Hp.own FY 5 ξ.2 (xs ++ tms n ξ.1)]) (fun ξ => 2 - ξ.1) (0, v2) ⟨by first | omega | (dsimp only; omega), hiv2⟩ ((.cons rfl (.cons rfl (.cons rfl (.cons rfl .nil))))) rfl ?_
  rintro ⟨t, v⟩ ⟨ht, hiv⟩
  dsimp only at ht hiv
  refine Gx.know (m' := [(0, .int .i64 ((n : Nat) : Int)), (2, .int .i64 2), (7, v), (8, .int .i64 ((t : Nat) : Int))]) (.cons rfl (.cons rfl (.cons rfl (.cons rfl .nil)))) (Gx.norm (l' := [Hp.own FY 5 v (xs ++ tms n t)]) rfl ?_)
  have htl := tms_len n t
  refine Gx.seq ?_
  refine Gx.seq ?_
  refine Gx.region ?_
  refine Gx.val rfl rfl rfl (val_move rfl rfl) ?_
  refine Gx.val rfl rfl rfl (val_move rfl rfl) ?_
  refine Gx.val rfl rfl rfl (val_lss rfl rfl rfl) ?_
  refine Gx.done ?_
  refine Gx.thenN ?_
  refine Gx.dec rfl (fun h3 => ?_) (fun h3 => ?_)
  · refine Gx.skip ?_
    refine Gx.thenN ?_
    refine Gx.seq ?_
    refine Gx.block ?_
    refine Gx.seq ?_
    refine Gx.norm (l' := [Hp.own FY 5 v ((xs ++ tms n t) ++ rws n 0)]) (by rw [rws, List.append_nil] <;> rfl) ?_
    refine Gx.region ?_
    refine Gx.val rfl rfl rfl (val_assign rfl rfl) ?_
    refine Gx.done ?_
    refine Gx.thenN ?_
    refine Gx.block ?_
    refine Gx.loop (ι := Nat × Value) (fun ξ => (ξ.1 ≤ n) ∧ (IsS ξ.2)) (fun ξ => [(0, .int .i64 ((n : Nat) : Int)), (2, .int .i64 2), (7, ξ.2), (8, .int .i64 ((t : Nat) : Int)), (9, .int .i64 ((ξ.1 : Nat) : Int))]) (fun ξ => [Hp.own FY 5 ξ.2 ((xs ++ tms n t) ++ rws n ξ.1)]) (fun ξ => n - ξ.1) (0, v) ⟨by first | omega | (dsimp only; omega), hiv⟩ ((.cons rfl (.cons rfl (.cons rfl (.cons rfl (.cons rfl .nil)))))) rfl ?_
    rintro ⟨i, v2⟩ ⟨hi, hiv2⟩
    dsimp only at hi hiv2
    refine Gx.know (m' := [(0, .int .i64 ((n : Nat) : Int)), (2, .int .i64 2), (7, v2), (8, .int .i64 ((t : Nat) : Int)), (9, .int .i64 ((i : Nat) : Int))]) (.cons rfl (.cons rfl (.cons rfl (.cons rfl (.cons rfl .nil))))) (Gx.norm (l' := [Hp.own FY 5 v2 ((xs ++ tms n t) ++ rws n i)]) rfl ?_)
    have hrl := rws_len n i
    refine Gx.seq ?_
    refine Gx.seq ?_
    refine Gx.region ?_
    refine Gx.val rfl rfl rfl (val_move rfl rfl) ?_
    refine Gx.val rfl rfl rfl (val_move rfl rfl) ?_
    refine Gx.val rfl rfl rfl (val_lss rfl rfl rfl) ?_
    refine Gx.done ?_
    refine Gx.thenN ?_
    refine Gx.dec rfl (fun h4 => ?_) (fun h4 => ?_)
    · refine Gx.skip ?_
      refine Gx.thenN ?_
      refine Gx.seq ?_
      refine Gx.block ?_
      refine Gx.seq ?_
      refine Gx.norm (l' := [Hp.own FY 5 v2 ((xs ++ tms n t) ++ rws n i ++ mgs i 0)]) (by rw [mgs, List.append_nil] <;> rfl) ?_
      refine Gx.region ?_
      refine Gx.val rfl rfl rfl (val_assign rfl rfl) ?_
      refine Gx.done ?_
      refine Gx.thenN ?_
      refine Gx.block ?_
      refine Gx.loop (ι := Nat × Value) (fun ξ => (ξ.1 ≤ n) ∧ (IsS ξ.2)) (fun ξ => [(0, .int .i64 ((n : Nat) : Int)), (2, .int .i64 2), (7, ξ.2), (8, .int .i64 ((t : Nat) : Int)), (9, .int .i64 ((i : Nat) : Int)), (10, .int .i64 ((ξ.1 : Nat) : Int))]) (fun ξ => [Hp.own FY 5 ξ.2 ((xs ++ tms n t) ++ rws n i ++ mgs i ξ.1)]) (fun ξ => n - ξ.1) (0, v2) ⟨by first | omega | (dsimp only; omega), hiv2⟩ ((.cons rfl (.cons rfl (.cons rfl (.cons rfl (.cons rfl (.cons rfl .nil))))))) rfl ?_
      rintro ⟨j, v3⟩ ⟨hj, hiv3⟩
      dsimp only at hj hiv3
      refine Gx.know (m' := [(0, .int .i64 ((n : Nat) : Int)), (2, .int .i64 2), (7, v3), (8, .int .i64 ((t : Nat) : Int)), (9, .int .i64 ((i : Nat) : Int)), (10, .int .i64 ((j : Nat) : Int))]) (.cons rfl (.cons rfl (.cons rfl (.cons rfl (.cons rfl (.cons rfl .nil)))))) (Gx.norm (l' := [Hp.own FY 5 v3 ((xs ++ tms n t) ++ rws n i ++ mgs i j)]) rfl ?_)
      refine Gx.seq ?_
      refine Gx.seq ?_
      refine Gx.region ?_
      refine Gx.val rfl rfl rfl (val_move rfl rfl) ?_
      refine Gx.val rfl rfl rfl (val_move rfl rfl) ?_
      refine Gx.val rfl rfl rfl (val_lss rfl rfl rfl) ?_
      refine Gx.done ?_
      refine Gx.thenN ?_
      refine Gx.dec rfl (fun h5 => ?_) (fun h5 => ?_)
      · refine Gx.skip ?_
        refine Gx.thenN ?_
        refine Gx.seq ?_
        refine Gx.block ?_
        refine Gx.seq ?_
        refine Gx.region ?_
        refine Gx.val rfl rfl rfl (val_move rfl rfl) ?_
        refine Gx.val rfl rfl rfl (val_move rfl rfl) ?_
        refine Gx.val rfl rfl rfl (val_neq rfl rfl rfl) ?_
        refine Gx.done ?_
        refine Gx.thenN ?_
        refine Gx.dec rfl (fun h6 => ?_) (fun h6 => ?_)
        · refine Gx.region ?_
          refine Gx.val rfl rfl rfl (val_move rfl rfl) ?_
          refine Gx.val rfl rfl rfl (val_move rfl rfl) ?_
          refine Gx.val rfl rfl rfl (val_move rfl rfl) ?_
          refine Gx.val rfl rfl rfl (val_build rfl (qs := [(0, .int .i64 5), (1, .int .i64 ((i : Nat) : Int)), (2, .int .i64 ((j : Nat) : Int))]) rfl rfl (fun w => by go_simp) (v := .agg #[.int .i64 5, .int .i64 ((i : Nat) : Int), .int .i64 ((j : Nat) : Int), .int .i64 0, .int .i64 0])) ?_
          refine Gx.eff rfl rfl rfl (eff_buildSlice rfl (qs := [(0, .agg #[.int .i64 5, .int .i64 ((i : Nat) : Int), .int .i64 ((j : Nat) : Int), .int .i64 0, .int .i64 0])]) rfl rfl (cs := #[.int .i64 5, .int .i64 ((i : Nat) : Int), .int .i64 ((j : Nat) : Int), .int .i64 0, .int .i64 0]) (vs := [.int .i64 5, .int .i64 ((i : Nat) : Int), .int .i64 ((j : Nat) : Int), .int .i64 0, .int .i64 0]) (E := 42) rfl (fun w => by first | (go_simp; done) | (go_simp; rfl))) ?_
          rintro _ _ ⟨b7, rfl, rfl⟩
          refine Gx.eff rfl rfl rfl (eff_push (r := (⟨5, ((i : Nat) : Int), ((j : Nat) : Int), 0, 0⟩ : Sy)) rfl Try.eY FY_len FY_one rfl rfl (k := 0) rfl rfl (k' := 0) rfl ((by
                have q1 := mgs_len i j
                have q2 : i * n ≤ 16 := Nat.mul_le_mul (show i ≤ 4 by omega) hn4
                have q3 : n * n ≤ 16 := Nat.mul_le_mul hn4 hn4
                have q4 : t * (n * n) ≤ 2 * 16 := Nat.mul_le_mul (show t ≤ 2 by omega) q3
                simp only [List.length_append]; omega)) ((by
                have q1 := mgs_len i j
                have q2 : i * n ≤ 16 := Nat.mul_le_mul (show i ≤ 4 by omega) hn4
                have q3 : n * n ≤ 16 := Nat.mul_le_mul hn4 hn4
                have q4 : t * (n * n) ≤ 2 * 16 := Nat.mul_le_mul (show t ≤ 2 by omega) q3
                simp only [List.length_append]; omega))) ?_
          rintro v8 _ ⟨hiv8, rfl⟩
          refine Gx.norm (l' := [Hp.own FY 5 v8 (((xs ++ tms n t) ++ rws n i ++ mgs i j) ++ [(⟨5, ((i : Nat) : Int), ((j : Nat) : Int), 0, 0⟩ : Sy)])]) rfl ?_
          refine Gx.val rfl rfl rfl (val_assign rfl rfl) ?_
          refine Gx.done ?_
          refine Gx.blkN ?_
          refine Gx.thenN ?_
          refine Gx.region ?_
          refine Gx.val rfl rfl rfl (val_move rfl rfl) ?_
          refine Gx.val rfl rfl rfl (val_add rfl rfl rfl (r := ((j + 1 : Nat) : Int)) (w64 (by omega) (by omega))) ?_
          refine Gx.val rfl rfl rfl (val_assign rfl rfl) ?_
          refine Gx.done ?_
          refine Gx.thenN ?_
          refine Gx.norm (l' := [Hp.own FY 5 v8 ((xs ++ tms n t) ++ rws n i ++ mgs i (j + 1))]) (by rw [mgs_yes (by omega)] <;> rfl) ?_
          exact Gx.round (j + 1, v8) ⟨by first | omega | (dsimp only; omega), hiv8⟩ (by first | omega | (dsimp only; omega)) ((.cons rfl (.cons rfl (.cons rfl (.cons rfl (.cons rfl (.cons rfl .nil))))))) rfl
        refine Gx.skip ?_
        refine Gx.blkN ?_
        refine Gx.thenN ?_
        refine Gx.region ?_
        refine Gx.val rfl rfl rfl (val_move rfl rfl) ?_
        refine Gx.val rfl rfl rfl (val_add rfl rfl rfl (r := ((j + 1 : Nat) : Int)) (w64 (by omega) (by omega))) ?_
        refine Gx.val rfl rfl rfl (val_assign rfl rfl) ?_
        refine Gx.done ?_
        refine Gx.thenN ?_
        refine Gx.norm (l' := [Hp.own FY 5 v3 ((xs ++ tms n t) ++ rws n i ++ mgs i (j + 1))]) (by rw [mgs_no (by omega)] <;> rfl) ?_
        exact Gx.round (j + 1, v3) ⟨by first | omega | (dsimp only; omega), hiv3⟩ (by first | omega | (dsimp only; omega)) ((.cons rfl (.cons rfl (.cons rfl (.cons rfl (.cons rfl (.cons rfl .nil))))))) rfl
      refine Gx.exit ?_
      refine Gx.thenE ?_
      refine Gx.thenE ?_
      refine Gx.blkE ?_
      refine Gx.blkN ?_
      refine Gx.thenN ?_
      refine Gx.region ?_
      refine Gx.val rfl rfl rfl (val_move rfl rfl) ?_
      refine Gx.val rfl rfl rfl (val_add rfl rfl rfl (r := ((i + 1 : Nat) : Int)) (w64 (by omega) (by omega))) ?_
      refine Gx.val rfl rfl rfl (val_assign rfl rfl) ?_
      refine Gx.done ?_
      refine Gx.thenN ?_
      refine Gx.norm (l' := [Hp.own FY 5 v3 ((xs ++ tms n t) ++ rws n (i + 1))]) (by rw [rws_step] <;> (rw [show j = n by omega] <;> rfl)) ?_
      exact Gx.round (i + 1, v3) ⟨by first | omega | (dsimp only; omega), hiv3⟩ (by first | omega | (dsimp only; omega)) ((.cons rfl (.cons rfl (.cons rfl (.cons rfl (.cons rfl .nil)))))) rfl
    refine Gx.exit ?_
    refine Gx.thenE ?_
    refine Gx.thenE ?_
    refine Gx.blkE ?_
    refine Gx.blkN ?_
    refine Gx.thenN ?_
    refine Gx.region ?_
    refine Gx.val rfl rfl rfl (val_move rfl rfl) ?_
    refine Gx.val rfl rfl rfl (val_add rfl rfl rfl (r := ((t + 1 : Nat) : Int)) (w64 (by omega) (by omega))) ?_
    refine Gx.val rfl rfl rfl (val_assign rfl rfl) ?_
    refine Gx.done ?_
    refine Gx.thenN ?_
    refine Gx.norm (l' := [Hp.own FY 5 v2 (xs ++ tms n (t + 1))]) (by rw [tms_step] <;> (rw [show i = n by omega] <;> rfl)) ?_
    exact Gx.round (t + 1, v2) ⟨by first | omega | (dsimp only; omega), hiv2⟩ (by first | omega | (dsimp only; omega)) ((.cons rfl (.cons rfl (.cons rfl (.cons rfl .nil))))) rfl
  refine Gx.exit ?_
  refine Gx.thenE ?_
  refine Gx.thenE ?_
  refine Gx.blkE ?_
  refine Gx.thenN ?_
  refine Gx.seq ?_
  refine Gx.region ?_
  refine Gx.val rfl rfl rfl (val_move rfl rfl) ?_
  refine Gx.val rfl rfl rfl (val_assign rfl rfl) ?_
  refine Gx.done ?_
  refine Gx.thenN ?_
  refine Gx.ret ?_
  refine Gx.ret1 Try.results13 rfl ?_
  exact ⟨hiv, by rw [show t = 2 by omega]⟩

end Go.Proofs.Ytfpkfbffpkjgbaa
