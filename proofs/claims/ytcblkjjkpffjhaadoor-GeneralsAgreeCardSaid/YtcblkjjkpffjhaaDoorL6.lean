/- Bits of words, as numbers. Over any program. No condition. -/
import Derived.Test.YtcblkjjkpffjhaaDoorL5
import Derived.Laws.BitsLemmas
namespace Go.Proofs.YtcblkjjkpffjhaaDoor
open Go.RowKit

theorem wraps_u32' : ∀ n : Int, 0 ≤ n → n < 2 ^ 32 → IntKind.u32.wrap n = n := fun n h0 h1 => by
  rw [IntKind.wrap_u32]; exact Int.emod_eq_of_lt h0 (by simpa using h1)
theorem wraps_u64' : ∀ n : Int, 0 ≤ n → n < 2 ^ 64 → IntKind.u64.wrap n = n := fun n h0 h1 => by
  simp [IntKind.wrap, IntKind.bits, IntKind.signed]; exact Int.emod_eq_of_lt h0 (by simpa using h1)

theorem u32_and {a b : Nat} (ha : a < 4294967296) (hb : b < 4294967296) : bits .and .u32 (a : Int) (b : Int) = ((a &&& b : Nat) : Int) :=
  (bits_nat .u32 32 (by decide) wraps_u32' a b (by simpa using ha) (by simpa using hb)).1
theorem u32_or {a b : Nat} (ha : a < 4294967296) (hb : b < 4294967296) : bits .or .u32 (a : Int) (b : Int) = ((a ||| b : Nat) : Int) :=
  (bits_nat .u32 32 (by decide) wraps_u32' a b (by simpa using ha) (by simpa using hb)).2
theorem u64_and {a b : Nat} (ha : a < 18446744073709551616) (hb : b < 18446744073709551616) : bits .and .u64 (a : Int) (b : Int) = ((a &&& b : Nat) : Int) :=
  (bits_nat .u64 64 (by decide) wraps_u64' a b (by simpa using ha) (by simpa using hb)).1

theorem and_two_pow_ne {x i : Nat} : ((x &&& 2 ^ i) != 0) = x.testBit i := by
  cases h : x.testBit i with
  | true =>
    have : (x &&& 2 ^ i).testBit i = true := by rw [Nat.testBit_and, h, Nat.testBit_two_pow_self]; rfl
    rw [bne_iff_ne]
    intro h0
    rw [h0, Nat.zero_testBit] at this
    cases this
  | false =>
    have : x &&& 2 ^ i = 0 := by
      refine Nat.eq_of_testBit_eq fun j => ?_
      rw [Nat.testBit_and, Nat.testBit_two_pow, Nat.zero_testBit]
      by_cases hij : i = j
      · subst hij; rw [h]; rfl
      · simp [hij]
    rw [this]; rfl

theorem u32_bit {x i : Nat} (hx : x < 4294967296) (hi : i < 32) : (bits .and .u32 (x : Int) (2 ^ i % 4294967296) != 0) = x.testBit i := by
  have h2 : (2 : Nat) ^ i < 4294967296 := Nat.pow_lt_pow_right (by decide) hi
  have e : ((2 : Int) ^ i % 4294967296) = ((2 ^ i : Nat) : Int) := by
    have h3 : (2 : Int) ^ i = ((2 ^ i : Nat) : Int) := by rw [Int.natCast_pow]; rfl
    rw [h3]
    generalize (2 : Nat) ^ i = p at *
    omega
  rw [e, u32_and hx h2, ← and_two_pow_ne (x := x) (i := i)]
  generalize x &&& 2 ^ i = y
  rw [Bool.eq_iff_iff]; simp

theorem shr_cast (x i : Nat) : ((x : Int) / 2 ^ i) = ((x >>> i : Nat) : Int) := by
  rw [Nat.shiftRight_eq_div_pow, Int.natCast_ediv, Int.natCast_pow]; rfl

theorem shr_lt {x i B : Nat} (hx : x < B) : x >>> i < B := Nat.lt_of_le_of_lt (by rw [Nat.shiftRight_eq_div_pow]; exact Nat.div_le_self _ _) hx

theorem u32_shr_and {x i : Nat} (hx : x < 4294967296) : bits .and .u32 ((x : Int) / 2 ^ i) 1 = (if x.testBit i then 1 else 0) := by
  rw [shr_cast, show (1 : Int) = ((1 : Nat) : Int) from rfl, u32_and (shr_lt hx) (by decide), Nat.testBit, Nat.and_comm]
  have : (1 &&& x >>> i) = 0 ∨ (1 &&& x >>> i) = 1 := by
    rw [Nat.and_comm, Nat.and_one_is_mod]; omega
  rcases this with h | h <;> rw [h] <;> rfl
theorem u64_shr_and {x i : Nat} (hx : x < 18446744073709551616) : bits .and .u64 ((x : Int) / 2 ^ i) 1 = (if x.testBit i then 1 else 0) := by
  rw [shr_cast, show (1 : Int) = ((1 : Nat) : Int) from rfl, u64_and (shr_lt hx) (by decide), Nat.testBit, Nat.and_comm]
  have : (1 &&& x >>> i) = 0 ∨ (1 &&& x >>> i) = 1 := by
    rw [Nat.and_comm, Nat.and_one_is_mod]; omega
  rcases this with h | h <;> rw [h] <;> rfl

/-- words as numbers -/
abbrev U32 : Nat → Value := fun q => .int .u32 q
abbrev U64 : Nat → Value := fun q => .int .u64 q

theorem sl_nat {k : IntKind} {w : World} {v : Value} {xs : List Int} (h : Sl (Value.int k) w v xs) (h0 : ∀ x ∈ xs, 0 ≤ x) : Sl (fun q : Nat => Value.int k q) w v (xs.map Int.toNat) := by
  obtain ⟨a, cap, rfl, hm, hn, hc⟩ := h
  refine ⟨a, cap, by simp, by simpa using hm, hn, fun j x hx => ?_⟩
  rw [List.getElem?_map] at hx
  cases hy : xs[j]? with
  | none => rw [hy] at hx; cases hx
  | some y =>
    rw [hy] at hx; cases hx
    obtain ⟨b, off, hb, hlt, hcell⟩ := hc j y hy
    refine ⟨b, off, hb, hlt, ?_⟩
    rw [hcell]
    show _ = some (Value.int k ((y.toNat : Nat) : Int))
    rw [Int.toNat_of_nonneg (h0 y (List.mem_of_getElem? hy))]

/-- is bit i of w set, i any number? (the document's Bit) -/
def bitF (w : Nat) (i : Int) : Bool := decide (0 ≤ i) && decide (i < 32) && w.testBit i.toNat
def outsideF (w : Nat) (n : Int) : Bool := (List.range 32).any fun i => decide (n ≤ (i : Int)) && w.testBit i
def sizeF (w : Nat) : Nat := ((List.range 32).filter fun i => w.testBit i).length

end Go.Proofs.YtcblkjjkpffjhaaDoor
