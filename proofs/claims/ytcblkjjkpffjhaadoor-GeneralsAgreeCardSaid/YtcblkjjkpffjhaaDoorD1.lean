/- Sets of few, and what is told and held, in plain words. No condition. -/
import Derived.Test.YtcblkjjkpffjhaaDoorT
import Derived.Test.YtcblkjjkpffjhaaDoorX20
namespace Go.Proofs.YtcblkjjkpffjhaaDoor
open Go.RowKit
set_option linter.unusedVariables false
set_option linter.unusedSimpArgs false
set_option maxRecDepth 100000

abbrev FN (i : Nat) : List Value := [.int .i64 ((i : Nat) : Int)]
abbrev FB (i : Bool) : List Value := [.bool i]
theorem FN_len (c : Nat) : (FN c).length = 1 := rfl
theorem FB_len (c : Bool) : (FB c).length = 1 := rfl
theorem FN_one (p : Nat) (u : Value) (h : u ∈ FN p) : u.oneCell' = true := by simp [FN] at h; subst h; rfl
theorem FB_one (p : Bool) (u : Value) (h : u ∈ FB p) : u.oneCell' = true := by simp [FB] at h; subst h; rfl
theorem Tryd.eN : Elem Tryd.prog 36 3 (.int .i64 0) 1 8 := ⟨Tryd.underlying36, by kernel_rfl, rfl, by decide⟩
theorem Tryd.eB : Elem Tryd.prog 24 4 (.bool false) 1 1 := ⟨Tryd.underlying24, by kernel_rfl, rfl, by decide⟩
theorem Tryd.kN : KeyT Tryd.prog 3 natV natL (fun n => n < 4611686018427387904) := natT Tryd.underlying3
abbrev boolV (b : Bool) : Value := .bool b
abbrev intV (b : Int) : Value := .int .i64 b
/-- the table of package bits -/
def tabL : List Nat := [0, 1, 28, 2, 29, 14, 24, 3, 30, 22, 20, 15, 25, 17, 4, 8, 31, 27, 13, 23, 21, 19, 16, 7, 26, 12, 18, 6, 11, 5, 10, 9]
def HT (W : World) : Prop := ∀ (k v : Nat), tabL[k]? = some v → W.cell? ⟨0, k, none⟩ = some (.int .u8 (v : Int))
theorem HT.lt {W : World} (h : HT W) : 0 < W.heap.size := by
  have := h 0 0 rfl
  rcases Nat.eq_zero_or_pos W.heap.size with h0 | h0
  · simp [World.cell?, h0] at this
  · exact h0
theorem HT.below {w w' : World} (h : HT w) (hb : Below w.heap.size w w') : HT w' := fun k v hk => (hb.cell (p := ⟨0, k, none⟩) h.lt).trans (h k v hk)
/-- the least of a set -/
def lo (u : Nat) : Nat := ((List.range 7).find? fun j => u.testBit j).getD 0
def tzI (u : Nat) : Nat := ((u &&& (4294967296 - u)) * 125613361 % 4294967296) >>> 27
theorem lo_all : ∀ u : Fin 128, (u.val ≠ 0 → u.val.testBit (lo u.val) = true ∧ lo u.val < 7 ∧ tabL[tzI u.val]? = some (lo u.val) ∧ tzI u.val < 32 ∧ (u.val &&& (u.val - 1)) < u.val) ∧ ∀ j : Fin 7, (u.val &&& (u.val - 1)).testBit j.val = (u.val.testBit j.val && decide (j.val ≠ lo u.val)) := by decide +kernel
theorem bit_hi {u j : Nat} (h : u < 128) (hj : 7 ≤ j) : u.testBit j = false := Nat.testBit_lt_two_pow (Nat.lt_of_lt_of_le h (by
  have : 2 ^ 7 ≤ 2 ^ j := Nat.pow_le_pow_right (by decide) hj
  exact this))
theorem lo_bit {u : Nat} (h : u < 128) (h0 : u ≠ 0) : u.testBit (lo u) = true ∧ lo u < 7 := ⟨((lo_all ⟨u, h⟩).1 h0).1, ((lo_all ⟨u, h⟩).1 h0).2.1⟩
theorem tz_tab {u : Nat} (h : u < 128) (h0 : u ≠ 0) : tabL[tzI u]? = some (lo u) ∧ tzI u < 32 := ⟨((lo_all ⟨u, h⟩).1 h0).2.2.1, ((lo_all ⟨u, h⟩).1 h0).2.2.2.1⟩
theorem drop_lt {u : Nat} (h : u < 128) (h0 : u ≠ 0) : (u &&& (u - 1)) < u := ((lo_all ⟨u, h⟩).1 h0).2.2.2.2
theorem drop_bit {u : Nat} (h : u < 128) (j : Nat) : (u &&& (u - 1)).testBit j = (u.testBit j && decide (j ≠ lo u)) := by
  by_cases hj : j < 7
  · exact (lo_all ⟨u, h⟩).2 ⟨j, hj⟩
  · have h1 := bit_hi h (show 7 ≤ j by omega)
    rw [Nat.testBit_and, h1]; simp
def elems (s : Nat) : List Nat := (List.range 7).filter fun j => s.testBit j
theorem mem_elems {s j : Nat} (h : s < 128) : j ∈ elems s ↔ s.testBit j = true := by
  unfold elems
  rw [List.mem_filter, List.mem_range]
  refine ⟨fun q => q.2, fun q => ⟨?_, q⟩⟩
  refine Nat.lt_of_not_le fun hj => ?_
  rw [bit_hi h hj] at q; cases q
theorem elems_nodup (s : Nat) : (elems s).Nodup := List.Pairwise.filter _ List.nodup_range
theorem elems_len (s : Nat) : (elems s).length ≤ 7 := Nat.le_trans (List.length_filter_le ..) (by simp)
/-- a set without one of its members -/
def delS (s i : Nat) : Nat := mk ((List.range 7).filter fun j => s.testBit j && decide (j ≠ i))
theorem delS_bit {s i j : Nat} (h : s < 128) : (delS s i).testBit j = (s.testBit j && decide (j ≠ i)) := by
  unfold delS
  rw [mk_bit]
  by_cases hj : j < 7
  · rw [Bool.eq_iff_iff, decide_eq_true_iff, List.mem_filter, List.mem_range]
    exact ⟨fun q => q.2, fun q => ⟨hj, q⟩⟩
  · rw [bit_hi h (by omega), Bool.false_and, decide_eq_false]
    rw [List.mem_filter, List.mem_range]; exact fun q => hj q.1
theorem mk_small {l : List Nat} (h : ∀ i ∈ l, i < 7) : mk l < 128 := by
  show mk l < 2 ^ 7
  refine Nat.lt_pow_two_of_testBit _ fun i hi => ?_
  rw [mk_bit, decide_eq_false]
  intro hm; have := h i hm; omega
theorem delS_lt (s i : Nat) : delS s i < 128 := mk_small fun j hj => by rw [List.mem_filter, List.mem_range] at hj; exact hj.1
structure Cp where
  (tr li : Nat)
def codeW (way : List Nat) : Nat := way.foldl (fun c i => 7 * c + i + 1) 0
theorem codeW_snoc (way : List Nat) (i : Nat) : codeW (way ++ [i]) = 7 * codeW way + i + 1 := by simp [codeW]
def lastW (way : List Nat) : Nat := way.getD (way.length - 1) 0
/-- what the last one of a way sends -/
def sentP (c : Cp) (way : List Nat) (to : Nat) (x : Bool) : Bool := if c.tr.testBit (lastW way) = true then c.li.testBit ((7 * codeW way + to) % 64) else x
def vote (b : Bool) : Int := if b then 1 else -1
/-- what one of a set holds -/
def sprd (c : Cp) : Nat → List Nat → Nat → Bool → Nat → Bool
  | 0, way, _, x, j => sentP c way j x
  | d + 1, way, s, x, j => decide (0 < ((elems s).map fun i => if i = j then vote (sentP c way i x) else vote (sprd c d (way ++ [i]) (delS s i) (sentP c way i x) j)).sum)
end Go.Proofs.YtcblkjjkpffjhaaDoor
