/- What is written last is read. The walk. No condition. -/
import Derived.Test.YtjiefamdpbnngaaB3
namespace Go.Proofs.Ytjiefamdpbnngaa
open Go.RowKit
set_option linter.unusedVariables false
set_option linter.unusedSimpArgs false
set_option maxRecDepth 100000

def oneL (n who : Nat) (val : Int) (k : Nat) : List Cl := [bg who (decide (((k : Nat) : Int) = 0)) val] ++ (List.range 2).flatMap fun t => passL n who (t + k)
def H0 (n : Nat) (cs : List Cl) (who : Nat) (val : Int) (k : Nat) : List Cl := endL n cs ++ (List.range k).flatMap fun k => oneL n who val k
def T0 (n who k t : Nat) : List Cl := (List.range t).flatMap fun t => passL n who (t + k)
def P0 (n who k t a : Nat) : List Cl := (List.range a).map fun i => rc who ((i + t + k) % n)
theorem H0_zero (n : Nat) (cs : List Cl) (who : Nat) (val : Int) : H0 n cs who val 0 = endL n cs := by simp [H0]
theorem T0_zero (n who k : Nat) : T0 n who k 0 = [] := rfl
theorem P0_zero (n who k t : Nat) : P0 n who k t 0 = [] := rfl
theorem H0_succ (n : Nat) (cs : List Cl) (who : Nat) (val : Int) (k : Nat) : H0 n cs who val (k + 1) = H0 n cs who val k ++ [bg who (decide (((k : Nat) : Int) = 0)) val] ++ T0 n who k 2 := by
  simp [H0, oneL, T0, List.range_succ]
theorem P0_succ (n who k t a : Nat) : P0 n who k t (a + 1) = P0 n who k t a ++ [rc who ((a + t + k) % n)] := by simp [P0, List.range_succ]
theorem P0_all (n who k t : Nat) : P0 n who k t n = passL n who (t + k) := by simp [P0, passL, Nat.add_assoc]
theorem T0_succ (n who k t : Nat) : T0 n who k (t + 1) = T0 n who k t ++ P0 n who k t n := by rw [P0_all]; simp [T0, List.range_succ]
theorem H0_two (n : Nat) (cs : List Cl) (who : Nat) (val : Int) : H0 n cs who val 2 = lastL n cs who val := by
  simp [H0, oneL, lastL, List.range, List.range.loop]
theorem P0_len (n who k t a : Nat) : (P0 n who k t a).length = a := by simp [P0]
theorem T0_len (n who k : Nat) : ∀ t, (T0 n who k t).length = t * n
  | 0 => by simp [T0_zero]
  | t + 1 => by rw [T0_succ, List.length_append, T0_len n who k t, P0_len, ← Nat.succ_mul]
theorem H0_len (n : Nat) (cs : List Cl) (who : Nat) (val : Int) : ∀ k, (H0 n cs who val k).length = cs.length + 8 * n + k * (1 + 2 * n)
  | 0 => by rw [H0_zero, endL_len]; omega
  | k + 1 => by
    rw [H0_succ, List.length_append, List.length_append, H0_len n cs who val k, T0_len]
    have := Nat.succ_mul k (1 + 2 * n)
    rw [show (k + 1) * (1 + 2 * n) = k.succ * (1 + 2 * n) from rfl, this]; simp; omega
theorem all_le2 {n k t a who : Nat} {cs : List Cl} {val : Int} {b : Bool} (hk : k ≤ 1) (ht : t ≤ 1) (ha : a ≤ n) : (H0 n cs who val k ++ [bg who b val] ++ T0 n who k t ++ P0 n who k t a).length ≤ cs.length + 12 * n + 2 := by
  rw [List.length_append, List.length_append, List.length_append, H0_len, T0_len, P0_len]
  have h1 := Nat.mul_le_mul_right (1 + 2 * n) hk
  have h2 := Nat.mul_le_mul_right n ht
  simp; omega
theorem lastL_len (n : Nat) (cs : List Cl) (who : Nat) (val : Int) : (lastL n cs who val).length = cs.length + 12 * n + 2 := by
  rw [← H0_two, H0_len]; omega
theorem last_no {W : World} {n who val : Int} {sv : Value} {cs : List Cl} (hs : SlS FC 6 W sv cs) (hbad : n < 1 ∨ 5 < n ∨ who < 0 ∨ 4 ≤ who ∨ 120 < (cs.length : Int) + 12 * n + 2) :
    Calls Try.prog 4 #[.int .i64 n, sv, .int .i64 who, .int .i64 val] W fun e w' => e = .returned (.bool true) ∧ Below W.heap.size W w' := by
  have hm := sls_bd hs
  refine calls_pure (Gx.enter (l := []) Try.func4 rfl Try.ntmps4 rfl (Sat.start W) ?_)
  refine Gx.know (m' := [(0, .int .i64 n), (1, sv), (2, .int .i64 who), (3, .int .i64 val)]) (.cons rfl (.cons rfl (.cons rfl (.cons rfl .nil)))) ?_
  refine Gx.seq ?_
  refine Gx.region ?_
  refine Gx.val rfl rfl rfl (val_assign rfl rfl) ?_
  refine Gx.done ?_
  refine Gx.thenN ?_
  refine Gx.seq ?_
  refine Gx.seq ?_
  refine Gx.region ?_
  refine Gx.val rfl rfl rfl (val_move rfl rfl) ?_
  refine Gx.val rfl rfl rfl (val_lss rfl rfl rfl) ?_
  refine Gx.val rfl rfl rfl (val_move rfl rfl) ?_
  refine Gx.cases (t := 21) rfl (fun h1 => ?_) (fun h1 => ?_)
  · refine Gx.skipg rfl rfl rfl rfl rfl rfl ?_
    refine Gx.skipg rfl rfl rfl rfl rfl rfl ?_
    refine Gx.val rfl rfl rfl (val_pickT rfl rfl rfl) ?_
    refine Gx.val rfl rfl rfl (val_move rfl rfl) ?_
    refine Gx.skipg rfl rfl rfl rfl rfl rfl ?_
    refine Gx.skipg rfl rfl rfl rfl rfl rfl ?_
    refine Gx.val rfl rfl rfl (val_pickT rfl rfl rfl) ?_
    refine Gx.val rfl rfl rfl (val_move rfl rfl) ?_
    refine Gx.skipg rfl rfl rfl rfl rfl rfl ?_
    refine Gx.skipg rfl rfl rfl rfl rfl rfl ?_
    refine Gx.val rfl rfl rfl (val_pickT rfl rfl rfl) ?_
    refine Gx.val rfl rfl rfl (val_move rfl rfl) ?_
    refine Gx.skipg rfl rfl rfl rfl rfl rfl ?_
    refine Gx.skipg rfl rfl rfl rfl rfl rfl ?_
    refine Gx.skipg rfl rfl rfl rfl rfl rfl ?_
    refine Gx.skipg rfl rfl rfl rfl rfl rfl ?_
    refine Gx.skipg rfl rfl rfl rfl rfl rfl ?_
    refine Gx.skipg rfl rfl rfl rfl rfl rfl ?_
    refine Gx.skipg rfl rfl rfl rfl rfl rfl ?_
    refine Gx.skipg rfl rfl rfl rfl rfl rfl ?_
    refine Gx.skipg rfl rfl rfl rfl rfl rfl ?_
    refine Gx.skipg rfl rfl rfl rfl rfl rfl ?_
    refine Gx.skipg rfl rfl rfl rfl rfl rfl ?_
    refine Gx.val rfl rfl rfl (val_pickT rfl rfl rfl) ?_
    refine Gx.done ?_
    refine Gx.thenN ?_
    refine Gx.t rfl ?_
    refine Gx.seq ?_
    refine Gx.region ?_
    refine Gx.val rfl rfl rfl (val_assign rfl rfl) ?_
    refine Gx.done ?_
    refine Gx.thenN ?_
    refine Gx.ret ?_
    refine Gx.thenR ?_
    refine Gx.ret1 Try.results4 rfl ?_
    rfl
  · refine Gx.valg rfl rfl rfl rfl rfl (val_move rfl rfl) ?_
    refine Gx.valg rfl rfl rfl rfl rfl (val_gtr rfl rfl rfl) ?_
    refine Gx.val rfl rfl rfl (val_pickF rfl rfl rfl) ?_
    refine Gx.val rfl rfl rfl (val_move rfl rfl) ?_
    refine Gx.cases (t := 25) rfl (fun h2 => ?_) (fun h2 => ?_)
    · refine Gx.skipg rfl rfl rfl rfl rfl rfl ?_
      refine Gx.skipg rfl rfl rfl rfl rfl rfl ?_
      refine Gx.val rfl rfl rfl (val_pickT rfl rfl rfl) ?_
      refine Gx.val rfl rfl rfl (val_move rfl rfl) ?_
      refine Gx.skipg rfl rfl rfl rfl rfl rfl ?_
      refine Gx.skipg rfl rfl rfl rfl rfl rfl ?_
      refine Gx.val rfl rfl rfl (val_pickT rfl rfl rfl) ?_
      refine Gx.val rfl rfl rfl (val_move rfl rfl) ?_
      refine Gx.skipg rfl rfl rfl rfl rfl rfl ?_
      refine Gx.skipg rfl rfl rfl rfl rfl rfl ?_
      refine Gx.skipg rfl rfl rfl rfl rfl rfl ?_
      refine Gx.skipg rfl rfl rfl rfl rfl rfl ?_
      refine Gx.skipg rfl rfl rfl rfl rfl rfl ?_
      refine Gx.skipg rfl rfl rfl rfl rfl rfl ?_
      refine Gx.skipg rfl rfl rfl rfl rfl rfl ?_
      refine Gx.skipg rfl rfl rfl rfl rfl rfl ?_
      refine Gx.skipg rfl rfl rfl rfl rfl rfl ?_
      refine Gx.skipg rfl rfl rfl rfl rfl rfl ?_
      refine Gx.skipg rfl rfl rfl rfl rfl rfl ?_
      refine Gx.val rfl rfl rfl (val_pickT rfl rfl rfl) ?_
      refine Gx.done ?_
      refine Gx.thenN ?_
      refine Gx.t rfl ?_
      refine Gx.seq ?_
      refine Gx.region ?_
      refine Gx.val rfl rfl rfl (val_assign rfl rfl) ?_
      refine Gx.done ?_
      refine Gx.thenN ?_
      refine Gx.ret ?_
      refine Gx.thenR ?_
      refine Gx.ret1 Try.results4 rfl ?_
      rfl
    · refine Gx.valg rfl rfl rfl rfl rfl (val_move rfl rfl) ?_
      refine Gx.valg rfl rfl rfl rfl rfl (val_lss rfl rfl rfl) ?_
      refine Gx.val rfl rfl rfl (val_pickF rfl rfl rfl) ?_
      refine Gx.val rfl rfl rfl (val_move rfl rfl) ?_
      refine Gx.cases (t := 29) rfl (fun h3 => ?_) (fun h3 => ?_)
      · refine Gx.skipg rfl rfl rfl rfl rfl rfl ?_
        refine Gx.skipg rfl rfl rfl rfl rfl rfl ?_
        refine Gx.val rfl rfl rfl (val_pickT rfl rfl rfl) ?_
        refine Gx.val rfl rfl rfl (val_move rfl rfl) ?_
        refine Gx.skipg rfl rfl rfl rfl rfl rfl ?_
        refine Gx.skipg rfl rfl rfl rfl rfl rfl ?_
        refine Gx.skipg rfl rfl rfl rfl rfl rfl ?_
        refine Gx.skipg rfl rfl rfl rfl rfl rfl ?_
        refine Gx.skipg rfl rfl rfl rfl rfl rfl ?_
        refine Gx.skipg rfl rfl rfl rfl rfl rfl ?_
        refine Gx.skipg rfl rfl rfl rfl rfl rfl ?_
        refine Gx.skipg rfl rfl rfl rfl rfl rfl ?_
        refine Gx.skipg rfl rfl rfl rfl rfl rfl ?_
        refine Gx.skipg rfl rfl rfl rfl rfl rfl ?_
        refine Gx.skipg rfl rfl rfl rfl rfl rfl ?_
        refine Gx.val rfl rfl rfl (val_pickT rfl rfl rfl) ?_
        refine Gx.done ?_
        refine Gx.thenN ?_
        refine Gx.t rfl ?_
        refine Gx.seq ?_
        refine Gx.region ?_
        refine Gx.val rfl rfl rfl (val_assign rfl rfl) ?_
        refine Gx.done ?_
        refine Gx.thenN ?_
        refine Gx.ret ?_
        refine Gx.thenR ?_
        refine Gx.ret1 Try.results4 rfl ?_
        rfl
      · refine Gx.valg rfl rfl rfl rfl rfl (val_move rfl rfl) ?_
        refine Gx.valg rfl rfl rfl rfl rfl (val_geq rfl rfl rfl) ?_
        refine Gx.val rfl rfl rfl (val_pickF rfl rfl rfl) ?_
        refine Gx.val rfl rfl rfl (val_move rfl rfl) ?_
        refine Gx.cases (t := 33) rfl (fun h4 => ?_) (fun h4 => ?_)
        · refine Gx.skipg rfl rfl rfl rfl rfl rfl ?_
          refine Gx.skipg rfl rfl rfl rfl rfl rfl ?_
          refine Gx.skipg rfl rfl rfl rfl rfl rfl ?_
          refine Gx.skipg rfl rfl rfl rfl rfl rfl ?_
          refine Gx.skipg rfl rfl rfl rfl rfl rfl ?_
          refine Gx.skipg rfl rfl rfl rfl rfl rfl ?_
          refine Gx.skipg rfl rfl rfl rfl rfl rfl ?_
          refine Gx.skipg rfl rfl rfl rfl rfl rfl ?_
          refine Gx.skipg rfl rfl rfl rfl rfl rfl ?_
          refine Gx.skipg rfl rfl rfl rfl rfl rfl ?_
          refine Gx.skipg rfl rfl rfl rfl rfl rfl ?_
          refine Gx.val rfl rfl rfl (val_pickT rfl rfl rfl) ?_
          refine Gx.done ?_
          refine Gx.thenN ?_
          refine Gx.t rfl ?_
          refine Gx.seq ?_
          refine Gx.region ?_
          refine Gx.val rfl rfl rfl (val_assign rfl rfl) ?_
          refine Gx.done ?_
          refine Gx.thenN ?_
          refine Gx.ret ?_
          refine Gx.thenR ?_
          refine Gx.ret1 Try.results4 rfl ?_
          rfl
        · refine Gx.valg rfl rfl rfl rfl rfl (val_move rfl rfl) ?_
          refine Gx.valg rfl rfl rfl rfl rfl (val_len rfl Try.underlying22 rfl (len_base hs)) ?_
          refine Gx.valg rfl rfl rfl rfl rfl (val_move rfl rfl) ?_
          refine Gx.valg rfl rfl rfl rfl rfl (val_mul rfl rfl rfl (r := (2 * n)) (w64 rfl (by omega))) ?_
          refine Gx.valg rfl rfl rfl rfl rfl (val_mul rfl rfl rfl (r := ((2 * n) * 4)) (w64 rfl (by omega))) ?_
          refine Gx.valg rfl rfl rfl rfl rfl (val_add rfl rfl rfl (r := (((cs.length : Nat) : Int) + ((2 * n) * 4))) (w64 rfl (by omega))) ?_
          refine Gx.valg rfl rfl rfl rfl rfl (val_move rfl rfl) ?_
          refine Gx.valg rfl rfl rfl rfl rfl (val_mul rfl rfl rfl (r := (4 * n)) (w64 rfl (by omega))) ?_
          refine Gx.valg rfl rfl rfl rfl rfl (val_add rfl rfl rfl (r := ((((cs.length : Nat) : Int) + ((2 * n) * 4)) + (4 * n))) (w64 rfl (by omega))) ?_
          refine Gx.valg rfl rfl rfl rfl rfl (val_add rfl rfl rfl (r := (((((cs.length : Nat) : Int) + ((2 * n) * 4)) + (4 * n)) + 2)) (w64 rfl (by omega))) ?_
          refine Gx.valg rfl rfl rfl rfl rfl (val_gtr rfl rfl rfl) ?_
          refine Gx.val rfl rfl rfl (val_pickF rfl rfl rfl) ?_
          refine Gx.done ?_
          refine Gx.thenN ?_
          refine Gx.dec rfl (fun h5 => ?_) (fun h5 => ?_)
          · refine Gx.seq ?_
            refine Gx.region ?_
            refine Gx.val rfl rfl rfl (val_assign rfl rfl) ?_
            refine Gx.done ?_
            refine Gx.thenN ?_
            refine Gx.ret ?_
            refine Gx.thenR ?_
            refine Gx.ret1 Try.results4 rfl ?_
            rfl
          · exfalso; omega

theorem last_yes {W : World} {n who : Nat} {val : Int} {sv : Value} {cs : List Cl} (h1n : 1 ≤ n) (h5n : n ≤ 5) (hw4 : who < 4) (hcl : cs.length + 12 * n + 2 ≤ 120) (hs : SlS FC 6 W sv cs) :
    Calls Try.prog 4 #[.int .i64 ((n : Nat) : Int), sv, .int .i64 ((who : Nat) : Int), .int .i64 val] W fun e w' => e = .returned (.bool true) ∧ Below W.heap.size W w' := by
  have hel := endL_len n cs
  have hll := lastL_len n cs who val
  have hcn := ((InvR.zero n).run h1n (lastL n cs who val)).cnt
  obtain ⟨o, hol, hog, ho1, ho2, ho3, ho4⟩ := last_read h1n hw4 cs val
  have hlo : (stR (rs0 n) 0 (lastL n cs who val)).ops[(stR (rs0 n) 0 (lastL n cs who val)).ops.length - 1]? = some o := by rw [hol]; exact hog
  refine calls_pure (Gx.enter (l := []) Try.func4 rfl Try.ntmps4 rfl (Sat.start W) ?_)
  refine Gx.know (m' := [(0, .int .i64 ((n : Nat) : Int)), (1, sv), (2, .int .i64 ((who : Nat) : Int)), (3, .int .i64 val)]) (.cons rfl (.cons rfl (.cons rfl (.cons rfl .nil)))) ?_
  refine Gx.seq ?_
  refine Gx.region ?_
  refine Gx.val rfl rfl rfl (val_assign rfl rfl) ?_
  refine Gx.done ?_
  refine Gx.thenN ?_
  refine Gx.seq ?_
  refine Gx.seq ?_
  refine Gx.region ?_
  refine Gx.val rfl rfl rfl (val_move rfl rfl) ?_
  refine Gx.val rfl rfl rfl (val_lss rfl rfl rfl) ?_
  refine Gx.val rfl rfl rfl (val_move rfl rfl) ?_
  refine Gx.slot (t := 21) (v := .bool false) (look_decF rfl (by omega)) ?_
  refine Gx.valg rfl rfl rfl rfl rfl (val_move rfl rfl) ?_
  refine Gx.valg rfl rfl rfl rfl rfl (val_gtr rfl rfl rfl) ?_
  refine Gx.val rfl rfl rfl (val_pickF rfl rfl rfl) ?_
  refine Gx.val rfl rfl rfl (val_move rfl rfl) ?_
  refine Gx.slot (t := 25) (v := .bool false) (look_decF rfl (by omega)) ?_
  refine Gx.valg rfl rfl rfl rfl rfl (val_move rfl rfl) ?_
  refine Gx.valg rfl rfl rfl rfl rfl (val_lss rfl rfl rfl) ?_
  refine Gx.val rfl rfl rfl (val_pickF rfl rfl rfl) ?_
  refine Gx.val rfl rfl rfl (val_move rfl rfl) ?_
  refine Gx.slot (t := 29) (v := .bool false) (look_decF rfl (by omega)) ?_
  refine Gx.valg rfl rfl rfl rfl rfl (val_move rfl rfl) ?_
  refine Gx.valg rfl rfl rfl rfl rfl (val_geq rfl rfl rfl) ?_
  refine Gx.val rfl rfl rfl (val_pickF rfl rfl rfl) ?_
  refine Gx.val rfl rfl rfl (val_move rfl rfl) ?_
  refine Gx.slot (t := 33) (v := .bool false) (look_decF rfl (by omega)) ?_
  refine Gx.valg rfl rfl rfl rfl rfl (val_move rfl rfl) ?_
  refine Gx.valg rfl rfl rfl rfl rfl (val_len rfl Try.underlying22 rfl (len_base hs)) ?_
  refine Gx.valg rfl rfl rfl rfl rfl (val_move rfl rfl) ?_
  refine Gx.valg rfl rfl rfl rfl rfl (val_mul rfl rfl rfl (r := ((2 * n : Nat) : Int)) (w64 (by omega) (by omega))) ?_
  refine Gx.valg rfl rfl rfl rfl rfl (val_mul rfl rfl rfl (r := (((2 * n) * 4 : Nat) : Int)) (w64 (by omega) (by omega))) ?_
  refine Gx.valg rfl rfl rfl rfl rfl (val_add rfl rfl rfl (r := ((cs.length + ((2 * n) * 4) : Nat) : Int)) (w64 (by omega) (by omega))) ?_
  refine Gx.valg rfl rfl rfl rfl rfl (val_move rfl rfl) ?_
  refine Gx.valg rfl rfl rfl rfl rfl (val_mul rfl rfl rfl (r := ((4 * n : Nat) : Int)) (w64 (by omega) (by omega))) ?_
  refine Gx.valg rfl rfl rfl rfl rfl (val_add rfl rfl rfl (r := ((cs.length + ((2 * n) * 4) + (4 * n) : Nat) : Int)) (w64 (by omega) (by omega))) ?_
  refine Gx.valg rfl rfl rfl rfl rfl (val_add rfl rfl rfl (r := ((cs.length + ((2 * n) * 4) + (4 * n) + 2 : Nat) : Int)) (w64 (by omega) (by omega))) ?_
  refine Gx.valg rfl rfl rfl rfl rfl (val_gtr rfl rfl rfl) ?_
  refine Gx.val rfl rfl rfl (val_pickF rfl rfl rfl) ?_
  refine Gx.done ?_
  refine Gx.thenN ?_
  refine Gx.decF rfl (by omega) ?_
  refine Gx.skip ?_
  refine Gx.thenN ?_
  refine Gx.seq ?_
  refine Gx.region ?_
  refine Gx.eff rfl rfl rfl (eff_buildNil (f := FC) (sz := 6) (e := 24) rfl Try.underlying22 (fun w => by first | (go_simp; done) | (go_simp; rfl))) ?_
  rintro v1 _ ⟨hiv1, rfl⟩
  refine Gx.val rfl rfl rfl (val_move rfl rfl) ?_
  refine Gx.eff rfl rfl rfl (eff_pushAll (k := 0) (ys := cs) rfl Try.eC FC_len FC_one rfl rfl (fun w H => hs.below H.below) rfl (by simp; omega) (by simp; omega)) ?_
  rintro v2 _ ⟨hiv2, rfl⟩
  refine Gx.norm (l' := [Hp.own FC 6 v2 cs]) rfl ?_
  refine Gx.val rfl rfl rfl (val_assign rfl rfl) ?_
  refine Gx.done ?_
  refine Gx.thenN ?_
  refine Gx.seq ?_
  refine Gx.seq ?_
  refine Gx.norm (l' := [Hp.own FC 6 v2 (G0 n cs 0)]) (by rw [G0_zero] <;> rfl) ?_
  refine Gx.region ?_
  refine Gx.val rfl rfl rfl (val_assign rfl rfl) ?_
  refine Gx.done ?_
  refine Gx.thenN ?_
  refine Gx.block ?_
  refine Gx.loop (ι := Nat × Value) (fun ξ => (ξ.1 ≤ 2) ∧ (IsS ξ.2)) (fun ξ => [(0, .int .i64 ((n : Nat) : Int)), (2, .int .i64 ((who : Nat) : Int)), (3, .int .i64 val), (9, ξ.2), (10, .int .i64 ((ξ.1 : Nat) : Int))]) (fun ξ => [Hp.own FC 6 ξ.2 (G0 n cs ξ.1)]) (fun ξ => 2 - ξ.1) (0, v2) ⟨by first | omega | (dsimp only; omega), hiv2⟩ ((.cons rfl (.cons rfl (.cons rfl (.cons rfl (.cons rfl .nil)))))) rfl ?_
  rintro ⟨t, vv⟩ ⟨ht, hiv⟩
  dsimp only at ht hiv
  refine Gx.know (m' := [(0, .int .i64 ((n : Nat) : Int)), (2, .int .i64 ((who : Nat) : Int)), (3, .int .i64 val), (9, vv), (10, .int .i64 ((t : Nat) : Int))]) (.cons rfl (.cons rfl (.cons rfl (.cons rfl (.cons rfl .nil))))) (Gx.norm (l' := [Hp.own FC 6 vv (G0 n cs t)]) rfl ?_)
  refine Gx.seq ?_
  refine Gx.seq ?_
  refine Gx.region ?_
  refine Gx.val rfl rfl rfl (val_move rfl rfl) ?_
  refine Gx.val rfl rfl rfl (val_lss rfl rfl rfl) ?_
  refine Gx.done ?_
  refine Gx.thenN ?_
  refine Gx.dec rfl (fun h3 => ?_) (fun h3 => ?_)
  · refine Gx.skip ?_
    refine Gx.thenN ?_
    refine Gx.seq ?_
    refine Gx.block ?_
    refine Gx.seq ?_
    refine Gx.norm (l' := [Hp.own FC 6 vv (G0 n cs t ++ C0 n 0)]) (by rw [C0_zero, List.append_nil] <;> rfl) ?_
    refine Gx.region ?_
    refine Gx.val rfl rfl rfl (val_assign rfl rfl) ?_
    refine Gx.done ?_
    refine Gx.thenN ?_
    refine Gx.block ?_
    refine Gx.loop (ι := Nat × Value) (fun ξ => (ξ.1 ≤ 4) ∧ (IsS ξ.2)) (fun ξ => [(0, .int .i64 ((n : Nat) : Int)), (2, .int .i64 ((who : Nat) : Int)), (3, .int .i64 val), (9, ξ.2), (10, .int .i64 ((t : Nat) : Int)), (11, .int .i64 ((ξ.1 : Nat) : Int))]) (fun ξ => [Hp.own FC 6 ξ.2 (G0 n cs t ++ C0 n ξ.1)]) (fun ξ => 4 - ξ.1) (0, vv) ⟨by first | omega | (dsimp only; omega), hiv⟩ ((.cons rfl (.cons rfl (.cons rfl (.cons rfl (.cons rfl (.cons rfl .nil))))))) rfl ?_
    rintro ⟨c, vw⟩ ⟨hc, hiw⟩
    dsimp only at hc hiw
    refine Gx.know (m' := [(0, .int .i64 ((n : Nat) : Int)), (2, .int .i64 ((who : Nat) : Int)), (3, .int .i64 val), (9, vw), (10, .int .i64 ((t : Nat) : Int)), (11, .int .i64 ((c : Nat) : Int))]) (.cons rfl (.cons rfl (.cons rfl (.cons rfl (.cons rfl (.cons rfl .nil)))))) (Gx.norm (l' := [Hp.own FC 6 vw (G0 n cs t ++ C0 n c)]) rfl ?_)
    refine Gx.seq ?_
    refine Gx.seq ?_
    refine Gx.region ?_
    refine Gx.val rfl rfl rfl (val_move rfl rfl) ?_
    refine Gx.val rfl rfl rfl (val_lss rfl rfl rfl) ?_
    refine Gx.done ?_
    refine Gx.thenN ?_
    refine Gx.dec rfl (fun h4 => ?_) (fun h4 => ?_)
    · refine Gx.skip ?_
      refine Gx.thenN ?_
      refine Gx.seq ?_
      refine Gx.block ?_
      refine Gx.seq ?_
      refine Gx.norm (l' := [Hp.own FC 6 vw (G0 n cs t ++ C0 n c ++ A0 c 0)]) (by rw [A0_zero, List.append_nil] <;> rfl) ?_
      refine Gx.region ?_
      refine Gx.val rfl rfl rfl (val_assign rfl rfl) ?_
      refine Gx.done ?_
      refine Gx.thenN ?_
      refine Gx.block ?_
      refine Gx.loop (ι := Nat × Value) (fun ξ => (ξ.1 ≤ n) ∧ (IsS ξ.2)) (fun ξ => [(0, .int .i64 ((n : Nat) : Int)), (2, .int .i64 ((who : Nat) : Int)), (3, .int .i64 val), (9, ξ.2), (10, .int .i64 ((t : Nat) : Int)), (11, .int .i64 ((c : Nat) : Int)), (12, .int .i64 ((ξ.1 : Nat) : Int))]) (fun ξ => [Hp.own FC 6 ξ.2 (G0 n cs t ++ C0 n c ++ A0 c ξ.1)]) (fun ξ => n - ξ.1) (0, vw) ⟨by first | omega | (dsimp only; omega), hiw⟩ ((.cons rfl (.cons rfl (.cons rfl (.cons rfl (.cons rfl (.cons rfl (.cons rfl .nil)))))))) rfl ?_
      rintro ⟨a, vx⟩ ⟨ha, hix⟩
      dsimp only at ha hix
      refine Gx.know (m' := [(0, .int .i64 ((n : Nat) : Int)), (2, .int .i64 ((who : Nat) : Int)), (3, .int .i64 val), (9, vx), (10, .int .i64 ((t : Nat) : Int)), (11, .int .i64 ((c : Nat) : Int)), (12, .int .i64 ((a : Nat) : Int))]) (.cons rfl (.cons rfl (.cons rfl (.cons rfl (.cons rfl (.cons rfl (.cons rfl .nil))))))) (Gx.norm (l' := [Hp.own FC 6 vx (G0 n cs t ++ C0 n c ++ A0 c a)]) rfl ?_)
      refine Gx.seq ?_
      refine Gx.seq ?_
      refine Gx.region ?_
      refine Gx.val rfl rfl rfl (val_move rfl rfl) ?_
      refine Gx.val rfl rfl rfl (val_move rfl rfl) ?_
      refine Gx.val rfl rfl rfl (val_lss rfl rfl rfl) ?_
      refine Gx.done ?_
      refine Gx.thenN ?_
      refine Gx.dec rfl (fun h5 => ?_) (fun h5 => ?_)
      · refine Gx.skip ?_
        refine Gx.thenN ?_
        refine Gx.seq ?_
        refine Gx.block ?_
        refine Gx.region ?_
        refine Gx.val rfl rfl rfl (val_move rfl rfl) ?_
        refine Gx.val rfl rfl rfl (val_move rfl rfl) ?_
        refine Gx.val rfl rfl rfl (val_move rfl rfl) ?_
        refine Gx.val rfl rfl rfl (val_build rfl (qs := [(0, .int .i64 2), (1, .int .i64 ((c : Nat) : Int)), (2, .int .i64 ((a : Nat) : Int))]) rfl rfl (fun w => by go_simp) (v := .agg #[.int .i64 2, .int .i64 ((c : Nat) : Int), .int .i64 ((a : Nat) : Int), .int .i64 0, .bool false, .int .i64 0])) ?_
        refine Gx.eff rfl rfl rfl (eff_buildSlice rfl (qs := [(0, .agg #[.int .i64 2, .int .i64 ((c : Nat) : Int), .int .i64 ((a : Nat) : Int), .int .i64 0, .bool false, .int .i64 0])]) rfl rfl (cs := #[.int .i64 2, .int .i64 ((c : Nat) : Int), .int .i64 ((a : Nat) : Int), .int .i64 0, .bool false, .int .i64 0]) (vs := [.int .i64 2, .int .i64 ((c : Nat) : Int), .int .i64 ((a : Nat) : Int), .int .i64 0, .bool false, .int .i64 0]) (E := 24) rfl (fun w => by first | (go_simp; done) | (go_simp; rfl))) ?_
        rintro _ _ ⟨b6, rfl, rfl⟩
        refine Gx.eff rfl rfl rfl (eff_push (r := (rc c a)) rfl Try.eC FC_len FC_one rfl rfl (k := 0) rfl rfl (k' := 0) rfl (by have := all_le (cs := cs) (n := n) (t := t) (c := c) (a := a) (by omega) (by omega) ha; omega) (by have := all_le (cs := cs) (n := n) (t := t) (c := c) (a := a) (by omega) (by omega) ha; omega)) ?_
        rintro v7 _ ⟨hiv7, rfl⟩
        refine Gx.norm (l' := [Hp.own FC 6 v7 ((G0 n cs t ++ C0 n c ++ A0 c a) ++ [(rc c a)])]) rfl ?_
        refine Gx.val rfl rfl rfl (val_assign rfl rfl) ?_
        refine Gx.done ?_
        refine Gx.blkN ?_
        refine Gx.thenN ?_
        refine Gx.region ?_
        refine Gx.val rfl rfl rfl (val_move rfl rfl) ?_
        refine Gx.val rfl rfl rfl (val_add rfl rfl rfl (r := ((a + 1 : Nat) : Int)) (w64 (by omega) (by omega))) ?_
        refine Gx.val rfl rfl rfl (val_assign rfl rfl) ?_
        refine Gx.done ?_
        refine Gx.thenN ?_
        refine Gx.norm (l' := [Hp.own FC 6 v7 (G0 n cs t ++ C0 n c ++ A0 c (a + 1))]) (by rw [A0_succ, ← List.append_assoc] <;> rfl) ?_
        exact Gx.round (a + 1, v7) ⟨by first | omega | (dsimp only; omega), hiv7⟩ (by first | omega | (dsimp only; omega)) ((.cons rfl (.cons rfl (.cons rfl (.cons rfl (.cons rfl (.cons rfl (.cons rfl .nil)))))))) rfl
      · obtain rfl : n = a := by omega
        refine Gx.norm (l' := [Hp.own FC 6 vx (G0 n cs t ++ C0 n c ++ A0 c n)]) (rfl) ?_
        refine Gx.exit ?_
        refine Gx.thenE ?_
        refine Gx.thenE ?_
        refine Gx.blkE ?_
        refine Gx.blkN ?_
        refine Gx.thenN ?_
        refine Gx.region ?_
        refine Gx.val rfl rfl rfl (val_move rfl rfl) ?_
        refine Gx.val rfl rfl rfl (val_add rfl rfl rfl (r := ((c + 1 : Nat) : Int)) (w64 (by omega) (by omega))) ?_
        refine Gx.val rfl rfl rfl (val_assign rfl rfl) ?_
        refine Gx.done ?_
        refine Gx.thenN ?_
        refine Gx.norm (l' := [Hp.own FC 6 vx (G0 n cs t ++ C0 n (c + 1))]) (by rw [C0_succ, List.append_assoc] <;> rfl) ?_
        exact Gx.round (c + 1, vx) ⟨by first | omega | (dsimp only; omega), hix⟩ (by first | omega | (dsimp only; omega)) ((.cons rfl (.cons rfl (.cons rfl (.cons rfl (.cons rfl (.cons rfl .nil))))))) rfl
    · obtain rfl : c = 4 := by omega
      refine Gx.norm (l' := [Hp.own FC 6 vw (G0 n cs t ++ C0 n 4)]) (rfl) ?_
      refine Gx.exit ?_
      refine Gx.thenE ?_
      refine Gx.thenE ?_
      refine Gx.blkE ?_
      refine Gx.blkN ?_
      refine Gx.thenN ?_
      refine Gx.region ?_
      refine Gx.val rfl rfl rfl (val_move rfl rfl) ?_
      refine Gx.val rfl rfl rfl (val_add rfl rfl rfl (r := ((t + 1 : Nat) : Int)) (w64 (by omega) (by omega))) ?_
      refine Gx.val rfl rfl rfl (val_assign rfl rfl) ?_
      refine Gx.done ?_
      refine Gx.thenN ?_
      refine Gx.norm (l' := [Hp.own FC 6 vw (G0 n cs (t + 1))]) (by rw [G0_succ] <;> rfl) ?_
      exact Gx.round (t + 1, vw) ⟨by first | omega | (dsimp only; omega), hiw⟩ (by first | omega | (dsimp only; omega)) ((.cons rfl (.cons rfl (.cons rfl (.cons rfl (.cons rfl .nil)))))) rfl
  · obtain rfl : t = 2 := by omega
    refine Gx.norm (l' := [Hp.own FC 6 vv (endL n cs)]) (by rw [G0_two] <;> rfl) ?_
    refine Gx.exit ?_
    refine Gx.thenE ?_
    refine Gx.thenE ?_
    refine Gx.blkE ?_
    refine Gx.thenN ?_
    refine Gx.seq ?_
    refine Gx.seq ?_
    refine Gx.norm (l' := [Hp.own FC 6 vv (H0 n cs who val 0)]) (by rw [H0_zero] <;> rfl) ?_
    refine Gx.region ?_
    refine Gx.val rfl rfl rfl (val_assign rfl rfl) ?_
    refine Gx.done ?_
    refine Gx.thenN ?_
    refine Gx.block ?_
    refine Gx.loop (ι := Nat × Value) (fun ξ => (ξ.1 ≤ 2) ∧ (IsS ξ.2)) (fun ξ => [(0, .int .i64 ((n : Nat) : Int)), (2, .int .i64 ((who : Nat) : Int)), (3, .int .i64 val), (9, ξ.2), (13, .int .i64 ((ξ.1 : Nat) : Int))]) (fun ξ => [Hp.own FC 6 ξ.2 (H0 n cs who val ξ.1)]) (fun ξ => 2 - ξ.1) (0, vv) ⟨by first | omega | (dsimp only; omega), hiv⟩ ((.cons rfl (.cons rfl (.cons rfl (.cons rfl (.cons rfl .nil)))))) rfl ?_
    rintro ⟨k, v3⟩ ⟨hk, hi3⟩
    dsimp only at hk hi3
    refine Gx.know (m' := [(0, .int .i64 ((n : Nat) : Int)), (2, .int .i64 ((who : Nat) : Int)), (3, .int .i64 val), (9, v3), (13, .int .i64 ((k : Nat) : Int))]) (.cons rfl (.cons rfl (.cons rfl (.cons rfl (.cons rfl .nil))))) (Gx.norm (l' := [Hp.own FC 6 v3 (H0 n cs who val k)]) rfl ?_)
    refine Gx.seq ?_
    refine Gx.seq ?_
    refine Gx.region ?_
    refine Gx.val rfl rfl rfl (val_move rfl rfl) ?_
    refine Gx.val rfl rfl rfl (val_lss rfl rfl rfl) ?_
    refine Gx.done ?_
    refine Gx.thenN ?_
    refine Gx.dec rfl (fun h8 => ?_) (fun h8 => ?_)
    · refine Gx.skip ?_
      refine Gx.thenN ?_
      refine Gx.seq ?_
      refine Gx.block ?_
      refine Gx.seq ?_
      refine Gx.region ?_
      refine Gx.val rfl rfl rfl (val_move rfl rfl) ?_
      refine Gx.val rfl rfl rfl (val_move rfl rfl) ?_
      refine Gx.val rfl rfl rfl (val_move rfl rfl) ?_
      refine Gx.val rfl rfl rfl (val_eql rfl rfl rfl) ?_
      refine Gx.val rfl rfl rfl (val_move rfl rfl) ?_
      refine Gx.val rfl rfl rfl (val_build rfl (qs := [(0, .int .i64 1), (1, .int .i64 ((who : Nat) : Int)), (4, .bool (decide (((k : Nat) : Int) = 0))), (5, .int .i64 val)]) rfl rfl (fun w => by go_simp) (v := .agg #[.int .i64 1, .int .i64 ((who : Nat) : Int), .int .i64 0, .int .i64 0, .bool (decide (((k : Nat) : Int) = 0)), .int .i64 val])) ?_
      refine Gx.eff rfl rfl rfl (eff_buildSlice rfl (qs := [(0, .agg #[.int .i64 1, .int .i64 ((who : Nat) : Int), .int .i64 0, .int .i64 0, .bool (decide (((k : Nat) : Int) = 0)), .int .i64 val])]) rfl rfl (cs := #[.int .i64 1, .int .i64 ((who : Nat) : Int), .int .i64 0, .int .i64 0, .bool (decide (((k : Nat) : Int) = 0)), .int .i64 val]) (vs := [.int .i64 1, .int .i64 ((who : Nat) : Int), .int .i64 0, .int .i64 0, .bool (decide (((k : Nat) : Int) = 0)), .int .i64 val]) (E := 24) rfl (fun w => by first | (go_simp; done) | (go_simp; rfl))) ?_
      rintro _ _ ⟨b9, rfl, rfl⟩
      refine Gx.eff rfl rfl rfl (eff_push (r := (bg who (decide (((k : Nat) : Int) = 0)) val)) rfl Try.eC FC_len FC_one rfl rfl (k := 0) rfl rfl (k' := 0) rfl (by have := H0_len n cs who val k; have := Nat.mul_le_mul_right (1 + 2 * n) (show k ≤ 1 by omega); omega) (by have := H0_len n cs who val k; have := Nat.mul_le_mul_right (1 + 2 * n) (show k ≤ 1 by omega); omega)) ?_
      rintro v10 _ ⟨hiv10, rfl⟩
      refine Gx.norm (l' := [Hp.own FC 6 v10 ((H0 n cs who val k) ++ [(bg who (decide (((k : Nat) : Int) = 0)) val)])]) rfl ?_
      refine Gx.val rfl rfl rfl (val_assign rfl rfl) ?_
      refine Gx.done ?_
      refine Gx.thenN ?_
      refine Gx.seq ?_
      refine Gx.norm (l' := [Hp.own FC 6 v10 (H0 n cs who val k ++ [bg who (decide (((k : Nat) : Int) = 0)) val] ++ T0 n who k 0)]) (by rw [T0_zero, List.append_nil] <;> rfl) ?_
      refine Gx.region ?_
      refine Gx.val rfl rfl rfl (val_assign rfl rfl) ?_
      refine Gx.done ?_
      refine Gx.thenN ?_
      refine Gx.block ?_
      refine Gx.loop (ι := Nat × Value) (fun ξ => (ξ.1 ≤ 2) ∧ (IsS ξ.2)) (fun ξ => [(0, .int .i64 ((n : Nat) : Int)), (2, .int .i64 ((who : Nat) : Int)), (3, .int .i64 val), (9, ξ.2), (13, .int .i64 ((k : Nat) : Int)), (14, .int .i64 ((ξ.1 : Nat) : Int))]) (fun ξ => [Hp.own FC 6 ξ.2 (H0 n cs who val k ++ [bg who (decide (((k : Nat) : Int) = 0)) val] ++ T0 n who k ξ.1)]) (fun ξ => 2 - ξ.1) (0, v10) ⟨by first | omega | (dsimp only; omega), hiv10⟩ ((.cons rfl (.cons rfl (.cons rfl (.cons rfl (.cons rfl (.cons rfl .nil))))))) rfl ?_
      rintro ⟨t, v4⟩ ⟨ht, hi4⟩
      dsimp only at ht hi4
      refine Gx.know (m' := [(0, .int .i64 ((n : Nat) : Int)), (2, .int .i64 ((who : Nat) : Int)), (3, .int .i64 val), (9, v4), (13, .int .i64 ((k : Nat) : Int)), (14, .int .i64 ((t : Nat) : Int))]) (.cons rfl (.cons rfl (.cons rfl (.cons rfl (.cons rfl (.cons rfl .nil)))))) (Gx.norm (l' := [Hp.own FC 6 v4 (H0 n cs who val k ++ [bg who (decide (((k : Nat) : Int) = 0)) val] ++ T0 n who k t)]) rfl ?_)
      refine Gx.seq ?_
      refine Gx.seq ?_
      refine Gx.region ?_
      refine Gx.val rfl rfl rfl (val_move rfl rfl) ?_
      refine Gx.val rfl rfl rfl (val_lss rfl rfl rfl) ?_
      refine Gx.done ?_
      refine Gx.thenN ?_
      refine Gx.dec rfl (fun h11 => ?_) (fun h11 => ?_)
      · refine Gx.skip ?_
        refine Gx.thenN ?_
        refine Gx.seq ?_
        refine Gx.block ?_
        refine Gx.seq ?_
        refine Gx.norm (l' := [Hp.own FC 6 v4 (H0 n cs who val k ++ [bg who (decide (((k : Nat) : Int) = 0)) val] ++ T0 n who k t ++ P0 n who k t 0)]) (by rw [P0_zero, List.append_nil] <;> rfl) ?_
        refine Gx.region ?_
        refine Gx.val rfl rfl rfl (val_assign rfl rfl) ?_
        refine Gx.done ?_
        refine Gx.thenN ?_
        refine Gx.block ?_
        refine Gx.loop (ι := Nat × Value) (fun ξ => (ξ.1 ≤ n) ∧ (IsS ξ.2)) (fun ξ => [(0, .int .i64 ((n : Nat) : Int)), (2, .int .i64 ((who : Nat) : Int)), (3, .int .i64 val), (9, ξ.2), (13, .int .i64 ((k : Nat) : Int)), (14, .int .i64 ((t : Nat) : Int)), (15, .int .i64 ((ξ.1 : Nat) : Int))]) (fun ξ => [Hp.own FC 6 ξ.2 (H0 n cs who val k ++ [bg who (decide (((k : Nat) : Int) = 0)) val] ++ T0 n who k t ++ P0 n who k t ξ.1)]) (fun ξ => n - ξ.1) (0, v4) ⟨by first | omega | (dsimp only; omega), hi4⟩ ((.cons rfl (.cons rfl (.cons rfl (.cons rfl (.cons rfl (.cons rfl (.cons rfl .nil)))))))) rfl ?_
        rintro ⟨a, v5⟩ ⟨ha, hi5⟩
        dsimp only at ha hi5
        refine Gx.know (m' := [(0, .int .i64 ((n : Nat) : Int)), (2, .int .i64 ((who : Nat) : Int)), (3, .int .i64 val), (9, v5), (13, .int .i64 ((k : Nat) : Int)), (14, .int .i64 ((t : Nat) : Int)), (15, .int .i64 ((a : Nat) : Int))]) (.cons rfl (.cons rfl (.cons rfl (.cons rfl (.cons rfl (.cons rfl (.cons rfl .nil))))))) (Gx.norm (l' := [Hp.own FC 6 v5 (H0 n cs who val k ++ [bg who (decide (((k : Nat) : Int) = 0)) val] ++ T0 n who k t ++ P0 n who k t a)]) rfl ?_)
        refine Gx.seq ?_
        refine Gx.seq ?_
        refine Gx.region ?_
        refine Gx.val rfl rfl rfl (val_move rfl rfl) ?_
        refine Gx.val rfl rfl rfl (val_move rfl rfl) ?_
        refine Gx.val rfl rfl rfl (val_lss rfl rfl rfl) ?_
        refine Gx.done ?_
        refine Gx.thenN ?_
        refine Gx.dec rfl (fun h12 => ?_) (fun h12 => ?_)
        · refine Gx.skip ?_
          refine Gx.thenN ?_
          refine Gx.seq ?_
          refine Gx.block ?_
          refine Gx.region ?_
          refine Gx.val rfl rfl rfl (val_move rfl rfl) ?_
          refine Gx.val rfl rfl rfl (val_move rfl rfl) ?_
          refine Gx.val rfl rfl rfl (val_move rfl rfl) ?_
          refine Gx.val rfl rfl rfl (val_move rfl rfl) ?_
          refine Gx.val rfl rfl rfl (val_add rfl rfl rfl (r := ((a + t : Nat) : Int)) (w64 (by omega) (by omega))) ?_
          refine Gx.val rfl rfl rfl (val_move rfl rfl) ?_
          refine Gx.val rfl rfl rfl (val_add rfl rfl rfl (r := ((a + t + k : Nat) : Int)) (w64 (by omega) (by omega))) ?_
          refine Gx.val rfl rfl rfl (val_move rfl rfl) ?_
          refine Gx.val rfl rfl rfl (val_rem rfl rfl rfl (r := (((a + t + k) % n : Nat) : Int)) (by omega) (rfl)) ?_
          refine Gx.val rfl rfl rfl (val_build rfl (qs := [(0, .int .i64 2), (1, .int .i64 ((who : Nat) : Int)), (2, .int .i64 (((a + t + k) % n : Nat) : Int))]) rfl rfl (fun w => by go_simp) (v := .agg #[.int .i64 2, .int .i64 ((who : Nat) : Int), .int .i64 (((a + t + k) % n : Nat) : Int), .int .i64 0, .bool false, .int .i64 0])) ?_
          refine Gx.eff rfl rfl rfl (eff_buildSlice rfl (qs := [(0, .agg #[.int .i64 2, .int .i64 ((who : Nat) : Int), .int .i64 (((a + t + k) % n : Nat) : Int), .int .i64 0, .bool false, .int .i64 0])]) rfl rfl (cs := #[.int .i64 2, .int .i64 ((who : Nat) : Int), .int .i64 (((a + t + k) % n : Nat) : Int), .int .i64 0, .bool false, .int .i64 0]) (vs := [.int .i64 2, .int .i64 ((who : Nat) : Int), .int .i64 (((a + t + k) % n : Nat) : Int), .int .i64 0, .bool false, .int .i64 0]) (E := 24) rfl (fun w => by first | (go_simp; done) | (go_simp; rfl))) ?_
          rintro _ _ ⟨b13, rfl, rfl⟩
          refine Gx.eff rfl rfl rfl (eff_push (r := (rc who ((a + t + k) % n))) rfl Try.eC FC_len FC_one rfl rfl (k := 0) rfl rfl (k' := 0) rfl (by have := all_le2 (cs := cs) (n := n) (k := k) (t := t) (a := a) (who := who) (val := val) (b := decide (((k : Nat) : Int) = 0)) (by omega) (by omega) ha; omega) (by have := all_le2 (cs := cs) (n := n) (k := k) (t := t) (a := a) (who := who) (val := val) (b := decide (((k : Nat) : Int) = 0)) (by omega) (by omega) ha; omega)) ?_
          rintro v14 _ ⟨hiv14, rfl⟩
          refine Gx.norm (l' := [Hp.own FC 6 v14 ((H0 n cs who val k ++ [bg who (decide (((k : Nat) : Int) = 0)) val] ++ T0 n who k t ++ P0 n who k t a) ++ [(rc who ((a + t + k) % n))])]) rfl ?_
          refine Gx.val rfl rfl rfl (val_assign rfl rfl) ?_
          refine Gx.done ?_
          refine Gx.blkN ?_
          refine Gx.thenN ?_
          refine Gx.region ?_
          refine Gx.val rfl rfl rfl (val_move rfl rfl) ?_
          refine Gx.val rfl rfl rfl (val_add rfl rfl rfl (r := ((a + 1 : Nat) : Int)) (w64 (by omega) (by omega))) ?_
          refine Gx.val rfl rfl rfl (val_assign rfl rfl) ?_
          refine Gx.done ?_
          refine Gx.thenN ?_
          refine Gx.norm (l' := [Hp.own FC 6 v14 (H0 n cs who val k ++ [bg who (decide (((k : Nat) : Int) = 0)) val] ++ T0 n who k t ++ P0 n who k t (a + 1))]) (by rw [P0_succ, ← List.append_assoc] <;> rfl) ?_
          exact Gx.round (a + 1, v14) ⟨by first | omega | (dsimp only; omega), hiv14⟩ (by first | omega | (dsimp only; omega)) ((.cons rfl (.cons rfl (.cons rfl (.cons rfl (.cons rfl (.cons rfl (.cons rfl .nil)))))))) rfl
        · obtain rfl : n = a := by omega
          refine Gx.norm (l' := [Hp.own FC 6 v5 (H0 n cs who val k ++ [bg who (decide (((k : Nat) : Int) = 0)) val] ++ T0 n who k t ++ P0 n who k t n)]) (rfl) ?_
          refine Gx.exit ?_
          refine Gx.thenE ?_
          refine Gx.thenE ?_
          refine Gx.blkE ?_
          refine Gx.blkN ?_
          refine Gx.thenN ?_
          refine Gx.region ?_
          refine Gx.val rfl rfl rfl (val_move rfl rfl) ?_
          refine Gx.val rfl rfl rfl (val_add rfl rfl rfl (r := ((t + 1 : Nat) : Int)) (w64 (by omega) (by omega))) ?_
          refine Gx.val rfl rfl rfl (val_assign rfl rfl) ?_
          refine Gx.done ?_
          refine Gx.thenN ?_
          refine Gx.norm (l' := [Hp.own FC 6 v5 (H0 n cs who val k ++ [bg who (decide (((k : Nat) : Int) = 0)) val] ++ T0 n who k (t + 1))]) (by rw [T0_succ, ← List.append_assoc] <;> rfl) ?_
          exact Gx.round (t + 1, v5) ⟨by first | omega | (dsimp only; omega), hi5⟩ (by first | omega | (dsimp only; omega)) ((.cons rfl (.cons rfl (.cons rfl (.cons rfl (.cons rfl (.cons rfl .nil))))))) rfl
      · obtain rfl : t = 2 := by omega
        refine Gx.norm (l' := [Hp.own FC 6 v4 (H0 n cs who val k ++ [bg who (decide (((k : Nat) : Int) = 0)) val] ++ T0 n who k 2)]) (rfl) ?_
        refine Gx.exit ?_
        refine Gx.thenE ?_
        refine Gx.thenE ?_
        refine Gx.blkE ?_
        refine Gx.blkN ?_
        refine Gx.thenN ?_
        refine Gx.region ?_
        refine Gx.val rfl rfl rfl (val_move rfl rfl) ?_
        refine Gx.val rfl rfl rfl (val_add rfl rfl rfl (r := ((k + 1 : Nat) : Int)) (w64 (by omega) (by omega))) ?_
        refine Gx.val rfl rfl rfl (val_assign rfl rfl) ?_
        refine Gx.done ?_
        refine Gx.thenN ?_
        refine Gx.norm (l' := [Hp.own FC 6 v4 (H0 n cs who val (k + 1))]) (by rw [H0_succ] <;> rfl) ?_
        exact Gx.round (k + 1, v4) ⟨by first | omega | (dsimp only; omega), hi4⟩ (by first | omega | (dsimp only; omega)) ((.cons rfl (.cons rfl (.cons rfl (.cons rfl (.cons rfl .nil)))))) rfl
    · obtain rfl : k = 2 := by omega
      refine Gx.norm (l' := [Hp.own FC 6 v3 (lastL n cs who val)]) (by rw [H0_two] <;> rfl) ?_
      refine Gx.exit ?_
      refine Gx.thenE ?_
      refine Gx.thenE ?_
      refine Gx.blkE ?_
      refine Gx.thenN ?_
      refine Gx.seq ?_
      refine Gx.region ?_
      refine Gx.val rfl rfl rfl (val_move rfl rfl) ?_
      refine Gx.val rfl rfl rfl (val_move rfl rfl) ?_
      refine Gx.callB rfl rfl rfl (vs := [.int .i64 ((n : Nat) : Int), v3]) rfl Try.fn8 rfl (R := fun v w' => ∃ cv pv, v = .tuple #[.agg #[cv, pv], .int .i64 0] ∧ SlS FZ 1 w' cv (codesR (rs0 n) 0 (lastL n cs who val)) ∧ SlS FO 6 w' pv (stR (rs0 n) 0 (lastL n cs who val)).ops) (fun w H => play_ok h1n h5n ((H.at_ (k := 0) rfl).sls (by omega)) (by omega)) ?_
      rintro _ W17 ⟨cv15, pv16, rfl, hcv15, hpv16⟩ H18
      have hW19 := H18.below
      have hs20 := hs.below H18.below
      have hs21 := (H18.at_ (k := 0) rfl).sls (by first | omega | (simp; omega))
      have hclcv15 : (codesR (rs0 n) 0 (lastL n cs who val)).length = ((lastL n cs who val)).length := codesR_len ..
      obtain ⟨a22, m23, c24, rfl⟩ := hcv15.isS
      obtain ⟨a25, m26, c27, rfl⟩ := hpv16.isS
      refine Gx.val rfl rfl rfl (val_move rfl rfl) ?_
      refine Gx.val rfl rfl rfl (val_extract rfl rfl rfl) ?_
      refine Gx.val rfl rfl rfl (val_extract rfl rfl rfl) ?_
      refine Gx.eff rfl rfl rfl (eff_alloc rfl Try.ty28 (vs := [.slice none 0 0, .slice none 0 0]) rfl) ?_
      rintro _ _ ⟨b28, rfl, rfl⟩
      refine Gx.eff0 rfl rfl (eff_store rfl Try.ty28 rfl rfl (us := [.slice a22 m23 c24, .slice a25 m26 c27]) rfl rfl rfl (k := 0) rfl (rfl) (vs' := [.slice a22 m23 c24, .slice a25 m26 c27]) (rfl) (l' := [Hp.rec_ b28 [.slice a22 m23 c24, .slice a25 m26 c27]]) rfl) ?_
      rintro _ _ rfl
      refine Gx.val rfl rfl rfl (val_assign rfl rfl) ?_
      refine Gx.done ?_
      refine Gx.thenN ?_
      refine Gx.seq ?_
      refine Gx.seq ?_
      refine Gx.region ?_
      refine Gx.val rfl rfl rfl (val_move rfl rfl) ?_
      refine Gx.val rfl rfl rfl (Val.cast (val_neq rfl rfl rfl) (v' := .bool false) rfl) ?_
      refine Gx.val rfl rfl rfl (val_move rfl rfl) ?_
      refine Gx.valg rfl rfl rfl rfl rfl (Val.cast (val_fieldAddr rfl Try.underlying28 rfl Try.ty25 rfl rfl) (v' := ptr b28 0) rfl) ?_
      refine Gx.valg rfl rfl rfl rfl rfl (val_load rfl Try.ty25 rfl rfl (cell_rec (k := 0) rfl rfl)) ?_
      refine Gx.valg rfl rfl rfl rfl rfl (val_len rfl Try.underlying25 rfl (len_base hcv15)) ?_
      refine Gx.valg rfl rfl rfl rfl rfl (val_move rfl rfl) ?_
      refine Gx.valg rfl rfl rfl rfl rfl (val_len rfl Try.underlying22 rfl (len_base hs21)) ?_
      refine Gx.valg rfl rfl rfl rfl rfl (val_neq rfl rfl rfl) ?_
      refine Gx.val rfl rfl rfl (val_pickF rfl rfl rfl) ?_
      refine Gx.val rfl rfl rfl (val_move rfl rfl) ?_
      refine Gx.slot (t := 117) (v := .bool false) (look_decF rfl (by omega)) ?_
      refine Gx.valg rfl rfl rfl rfl rfl (Val.cast (val_fieldAddr rfl Try.underlying28 rfl Try.ty26 rfl rfl) (v' := ptr b28 1) rfl) ?_
      refine Gx.valg rfl rfl rfl rfl rfl (val_load rfl Try.ty26 rfl rfl (cell_rec (k := 0) rfl rfl)) ?_
      refine Gx.valg rfl rfl rfl rfl rfl (val_len rfl Try.underlying26 rfl (len_base hpv16)) ?_
      refine Gx.valg rfl rfl rfl rfl rfl (val_lss rfl rfl rfl) ?_
      refine Gx.val rfl rfl rfl (val_pickF rfl rfl rfl) ?_
      refine Gx.done ?_
      refine Gx.thenN ?_
      refine Gx.decF rfl (by omega) ?_
      refine Gx.skip ?_
      refine Gx.thenN ?_
      refine Gx.seq ?_
      refine Gx.region ?_
      refine Gx.val rfl rfl rfl (Val.cast (val_fieldAddr rfl Try.underlying28 rfl Try.ty26 rfl rfl) (v' := ptr b28 1) rfl) ?_
      refine Gx.val rfl rfl rfl (val_load rfl Try.ty26 rfl rfl (cell_rec (k := 0) rfl rfl)) ?_
      refine Gx.val rfl rfl rfl (Val.cast (val_fieldAddr rfl Try.underlying28 rfl Try.ty26 rfl rfl) (v' := ptr b28 1) rfl) ?_
      refine Gx.val rfl rfl rfl (val_load rfl Try.ty26 rfl rfl (cell_rec (k := 0) rfl rfl)) ?_
      refine Gx.val rfl rfl rfl (val_len rfl Try.underlying26 rfl (len_base hpv16)) ?_
      refine Gx.val rfl rfl rfl (val_sub rfl rfl rfl (r := (((stR (rs0 n) 0 (lastL n cs who val)).ops.length - 1 : Nat) : Int)) (w64 (by omega) (by omega))) ?_
      refine Gx.val rfl rfl rfl (val_ixa rfl Try.underlying26 Try.ty33 rfl rfl (j := (stR (rs0 n) 0 (lastL n cs who val)).ops.length - 1) (rfl) (reach_base hpv16 hlo)) ?_
      refine Gx.val rfl rfl rfl (Val.cast (val_loadA rfl Try.ty33 rfl rfl rfl (cells_base hpv16 hlo)) (v' := .agg #[.int .i64 ((o.who : Nat) : Int), .int .i64 0, .bool o.wr, .int .i64 o.val, .int .i64 ((o.frm : Nat) : Int), .int .i64 o.to]) rfl) ?_
      refine Gx.eff rfl rfl rfl (eff_alloc rfl Try.ty33 (vs := [.int .i64 0, .int .i64 0, .bool false, .int .i64 0, .int .i64 0, .int .i64 0]) rfl) ?_
      rintro _ _ ⟨b29, rfl, rfl⟩
      refine Gx.eff0 rfl rfl (eff_store rfl Try.ty33 rfl rfl (us := [.int .i64 ((o.who : Nat) : Int), .int .i64 0, .bool o.wr, .int .i64 o.val, .int .i64 ((o.frm : Nat) : Int), .int .i64 o.to]) rfl rfl rfl (k := 0) rfl (rfl) (vs' := [.int .i64 ((o.who : Nat) : Int), .int .i64 0, .bool o.wr, .int .i64 o.val, .int .i64 ((o.frm : Nat) : Int), .int .i64 o.to]) (rfl) (l' := [Hp.rec_ b29 [.int .i64 ((o.who : Nat) : Int), .int .i64 0, .bool o.wr, .int .i64 o.val, .int .i64 ((o.frm : Nat) : Int), .int .i64 o.to], Hp.rec_ b28 [.slice a22 m23 c24, .slice a25 m26 c27]]) rfl) ?_
      rintro _ _ rfl
      refine Gx.done ?_
      refine Gx.thenN ?_
      refine Gx.seq ?_
      refine Gx.region ?_
      refine Gx.val rfl rfl rfl (Val.cast (val_fieldAddr rfl Try.underlying33 rfl Try.ty4 rfl rfl) (v' := ptr b29 2) rfl) ?_
      refine Gx.val rfl rfl rfl (val_load rfl Try.ty4 rfl rfl (cell_rec (k := 0) rfl rfl)) ?_
      refine Gx.val rfl rfl rfl (val_not rfl rfl) ?_
      refine Gx.val rfl rfl rfl (val_move rfl rfl) ?_
      refine Gx.slot (t := 134) (v := .bool true) (look_boolT rfl (by rw [ho1]; rfl)) ?_
      refine Gx.valg rfl rfl rfl rfl rfl (Val.cast (val_fieldAddr rfl Try.underlying33 rfl Try.ty3 rfl rfl) (v' := ptr b29 0) rfl) ?_
      refine Gx.valg rfl rfl rfl rfl rfl (val_load rfl Try.ty3 rfl rfl (cell_rec (k := 0) rfl rfl)) ?_
      refine Gx.valg rfl rfl rfl rfl rfl (val_move rfl rfl) ?_
      refine Gx.valg rfl rfl rfl rfl rfl (val_eql rfl rfl rfl) ?_
      refine Gx.val rfl rfl rfl (val_pickT rfl rfl rfl) ?_
      refine Gx.val rfl rfl rfl (val_move rfl rfl) ?_
      refine Gx.slot (t := 140) (v := .bool true) (look_decT rfl (by omega)) ?_
      refine Gx.valg rfl rfl rfl rfl rfl (Val.cast (val_fieldAddr rfl Try.underlying33 rfl Try.ty3 rfl rfl) (v' := ptr b29 5) rfl) ?_
      refine Gx.valg rfl rfl rfl rfl rfl (val_load rfl Try.ty3 rfl rfl (cell_rec (k := 0) rfl rfl)) ?_
      refine Gx.valg rfl rfl rfl rfl rfl (val_geq rfl rfl rfl) ?_
      refine Gx.val rfl rfl rfl (val_pickT rfl rfl rfl) ?_
      refine Gx.val rfl rfl rfl (val_move rfl rfl) ?_
      refine Gx.slot (t := 145) (v := .bool true) (look_decT rfl (ho3)) ?_
      refine Gx.valg rfl rfl rfl rfl rfl (Val.cast (val_fieldAddr rfl Try.underlying33 rfl Try.ty2 rfl rfl) (v' := ptr b29 3) rfl) ?_
      refine Gx.valg rfl rfl rfl rfl rfl (val_load rfl Try.ty2 rfl rfl (cell_rec (k := 0) rfl rfl)) ?_
      refine Gx.valg rfl rfl rfl rfl rfl (val_move rfl rfl) ?_
      refine Gx.valg rfl rfl rfl rfl rfl (val_eql rfl rfl rfl) ?_
      refine Gx.val rfl rfl rfl (val_pickT rfl rfl rfl) ?_
      refine Gx.val rfl rfl rfl (val_assign rfl rfl) ?_
      refine Gx.done ?_
      refine Gx.thenN ?_
      refine Gx.ret ?_
      refine Gx.ret1B hW19 Try.results4 rfl ?_
      exact congrArg Value.bool (decide_eq_true ho4)

theorem last_any {W : World} {n who val : Int} {sv : Value} {cs : List Cl} (hs : SlS FC 6 W sv cs) :
    Calls Try.prog 4 #[.int .i64 n, sv, .int .i64 who, .int .i64 val] W fun e w' => e = .returned (.bool true) ∧ Below W.heap.size W w' := by
  by_cases h : n < 1 ∨ 5 < n ∨ who < 0 ∨ 4 ≤ who ∨ 120 < (cs.length : Int) + 12 * n + 2
  · exact last_no hs h
  · obtain ⟨m, rfl⟩ : ∃ m : Nat, n = (m : Int) := ⟨n.toNat, by omega⟩
    obtain ⟨x, rfl⟩ : ∃ m : Nat, who = (m : Int) := ⟨who.toNat, by omega⟩
    exact last_yes (by omega) (by omega) (by omega) (by omega) hs
end Go.Proofs.Ytjiefamdpbnngaa
