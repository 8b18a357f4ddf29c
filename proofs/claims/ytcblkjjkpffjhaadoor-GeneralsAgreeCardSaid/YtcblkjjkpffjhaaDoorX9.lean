/- Operations on bits. Over any program. No condition. -/
import Derived.Test.YtcblkjjkpffjhaaDoorX8
namespace Go.Proofs.YtcblkjjkpffjhaaDoor
open Go.RowKit
set_option linter.unusedVariables false
set_option linter.unusedSimpArgs false

section
variable {P : Program} {c : Cx} {m : List (Nat × Value)} {l : List Hp} {o : Oper} {x y z : Operand} {v u u' : Value} {T T' S : TypeId} {k k' : IntKind} {i j r : Int}
theorem val_shl {b : Nat} (ho : o.op = .binOp .shl T x y T') (hx : evo m x = some (.int k i)) (hy : evo m y = some (.int k' j)) (hj : j = (b : Int)) (hb : b ≤ k.bits) (hr : k.wrap (i * 2 ^ b) = r) : Val P c m l o (.int k r) := Val.of fun a w s H => by
  subst hj
  have h1 : ¬ ((b : Int) < 0) := by omega
  have h2 : min b k.bits = b := Nat.min_eq_left hb
  simp [execOp, ho, s.ev hx, s.ev hy, eqGuard, binOp, Op.shift, h1, h2, hr]
theorem val_shr {b : Nat} (ho : o.op = .binOp .shr T x y T') (hx : evo m x = some (.int k i)) (hy : evo m y = some (.int k' j)) (hj : j = (b : Int)) (hb : b ≤ k.bits) (hr : i.fdiv (2 ^ b) = r) : Val P c m l o (.int k r) := Val.of fun a w s H => by
  subst hj
  have h1 : ¬ ((b : Int) < 0) := by omega
  have h2 : min b k.bits = b := Nat.min_eq_left hb
  simp [execOp, ho, s.ev hx, s.ev hy, eqGuard, binOp, Op.shift, h1, h2, hr]
theorem val_and (ho : o.op = .binOp .and T x y T') (hx : evo m x = some (.int k i)) (hy : evo m y = some (.int k j)) (hr : k.wrap ((BitVec.ofInt k.bits i &&& BitVec.ofInt k.bits j).toNat) = r) : Val P c m l o (.int k r) := Val.of fun a w s H => by
  subst hr
  simp [execOp, ho, s.ev hx, s.ev hy, eqGuard, binOp, Op.intBits]
theorem val_or (ho : o.op = .binOp .or T x y T') (hx : evo m x = some (.int k i)) (hy : evo m y = some (.int k j)) (hr : k.wrap ((BitVec.ofInt k.bits i ||| BitVec.ofInt k.bits j).toNat) = r) : Val P c m l o (.int k r) := Val.of fun a w s H => by
  subst hr
  simp [execOp, ho, s.ev hx, s.ev hy, eqGuard, binOp, Op.intBits]
theorem val_andNot (ho : o.op = .binOp .andNot T x y T') (hx : evo m x = some (.int k i)) (hy : evo m y = some (.int k j)) (hr : k.wrap ((BitVec.ofInt k.bits i &&& ~~~ BitVec.ofInt k.bits j).toNat) = r) : Val P c m l o (.int k r) := Val.of fun a w s H => by
  subst hr
  simp [execOp, ho, s.ev hx, s.ev hy, eqGuard, binOp, Op.intBits]
end
theorem u32_wrap {a : Nat} (h : a < 4294967296) : IntKind.u32.wrap (a : Int) = (a : Int) := by
  unfold IntKind.wrap
  have : IntKind.u32.bits = 32 := rfl
  simp [IntKind.bits, IntKind.signed]; omega
theorem u32_of (a : Nat) : BitVec.ofInt 32 (a : Int) = BitVec.ofNat 32 a := BitVec.ofInt_natCast ..
theorem and32 {a b : Nat} (ha : a < 4294967296) (hb : b < 4294967296) : IntKind.u32.wrap ((BitVec.ofInt IntKind.u32.bits (a : Int) &&& BitVec.ofInt IntKind.u32.bits (b : Int)).toNat) = ((a &&& b : Nat) : Int) := by
  show IntKind.u32.wrap ((BitVec.ofInt 32 (a : Int) &&& BitVec.ofInt 32 (b : Int)).toNat : Int) = _
  rw [u32_of, u32_of, show (BitVec.ofNat 32 a &&& BitVec.ofNat 32 b).toNat = a &&& b from ?_, u32_wrap]
  · exact Nat.lt_of_le_of_lt Nat.and_le_left ha
  · rw [BitVec.toNat_and, BitVec.toNat_ofNat, BitVec.toNat_ofNat, Nat.mod_eq_of_lt ha, Nat.mod_eq_of_lt hb]
theorem or32 {a b : Nat} (ha : a < 4294967296) (hb : b < 4294967296) : IntKind.u32.wrap ((BitVec.ofInt IntKind.u32.bits (a : Int) ||| BitVec.ofInt IntKind.u32.bits (b : Int)).toNat) = ((a ||| b : Nat) : Int) := by
  show IntKind.u32.wrap ((BitVec.ofInt 32 (a : Int) ||| BitVec.ofInt 32 (b : Int)).toNat : Int) = _
  rw [u32_of, u32_of, show (BitVec.ofNat 32 a ||| BitVec.ofNat 32 b).toNat = a ||| b from ?_, u32_wrap]
  · exact Nat.or_lt_two_pow (n := 32) ha hb
  · rw [BitVec.toNat_or, BitVec.toNat_ofNat, BitVec.toNat_ofNat, Nat.mod_eq_of_lt ha, Nat.mod_eq_of_lt hb]
theorem andNot32 {a b r : Nat} (ha : a < 4294967296) (hb : b < 4294967296) (hr : r < 4294967296) (h : ∀ i, i < 32 → r.testBit i = (a.testBit i && !b.testBit i)) : IntKind.u32.wrap ((BitVec.ofInt IntKind.u32.bits (a : Int) &&& ~~~ BitVec.ofInt IntKind.u32.bits (b : Int)).toNat) = (r : Int) := by
  show IntKind.u32.wrap ((BitVec.ofInt 32 (a : Int) &&& ~~~ BitVec.ofInt 32 (b : Int)).toNat : Int) = _
  rw [u32_of, u32_of, show (BitVec.ofNat 32 a &&& ~~~ BitVec.ofNat 32 b) = BitVec.ofNat 32 r from ?_, BitVec.toNat_ofNat, Nat.mod_eq_of_lt hr, u32_wrap hr]
  apply BitVec.eq_of_getLsbD_eq
  intro i hi
  rw [BitVec.getLsbD_and, BitVec.getLsbD_not, BitVec.getLsbD_ofNat, BitVec.getLsbD_ofNat, BitVec.getLsbD_ofNat, h i hi]
  simp [hi]
theorem shr32 (a b : Nat) : (a : Int).fdiv (2 ^ b) = ((a >>> b : Nat) : Int) := by
  rw [Nat.shiftRight_eq_div_pow, Int.fdiv_eq_ediv_of_nonneg _ (by exact Int.le_of_lt (Int.pow_pos (by decide)))]
  push_cast; rfl
theorem shl32 {a b r : Nat} (hr : a * 2 ^ b = r) (h : r < 4294967296) : IntKind.u32.wrap ((a : Int) * 2 ^ b) = (r : Int) := by
  have : ((a : Int) * 2 ^ b) = (r : Int) := by rw [← hr]; push_cast; rfl
  rw [this, u32_wrap h]
/-- a list of numbers, as bits -/
def mk (l : List Nat) : Nat := l.foldl (fun m i => m ||| 2 ^ i) 0
theorem mk_snoc (l : List Nat) (i : Nat) : mk (l ++ [i]) = mk l ||| 2 ^ i := by simp [mk]
theorem foldl_bit (i : Nat) : ∀ (l : List Nat) (m : Nat), (l.foldl (fun m i => m ||| 2 ^ i) m).testBit i = (m.testBit i || decide (i ∈ l))
  | [], m => by simp
  | j :: l, m => by
    rw [List.foldl_cons, foldl_bit i l, Nat.testBit_or, Nat.testBit_two_pow]
    by_cases e : j = i
    · subst e; simp
    · have e2 : ¬ i = j := fun h => e h.symm
      simp [e, e2]
theorem mk_bit (l : List Nat) (i : Nat) : (mk l).testBit i = decide (i ∈ l) := by unfold mk; rw [foldl_bit]; simp
theorem mk_lt {l : List Nat} (h : ∀ i ∈ l, i < 32) : mk l < 4294967296 := by
  refine Nat.lt_of_not_le fun hc => ?_
  obtain ⟨j, hj, hb⟩ := Nat.exists_ge_and_testBit_of_ge_two_pow (n := 32) hc
  rw [mk_bit] at hb
  have := h j (of_decide_eq_true hb)
  omega
theorem mk_test {l : List Nat} (i : Nat) : (mk l >>> i &&& 1) = if i ∈ l then 1 else 0 := by
  rw [Nat.and_one_is_mod, Nat.shiftRight_eq_div_pow]
  have h := mk_bit l i
  rw [Nat.testBit_eq_decide_div_mod_eq] at h
  by_cases e : i ∈ l
  · rw [if_pos e]; simp [e] at h; exact h
  · rw [if_neg e]; simp [e] at h; omega
theorem mk_not {l : List Nat} {i : Nat} (hi : ¬ i ∈ l) : ∀ j, j < 32 → (mk l).testBit j = ((mk (l ++ [i])).testBit j && !(2 ^ i).testBit j) := fun j _ => by
  rw [mk_bit, mk_bit, Nat.testBit_two_pow]
  by_cases e : i = j
  · subst e; simp [hi]
  · have e2 : ¬ j = i := fun h => e h.symm
    simp [e, e2]
end Go.Proofs.YtcblkjjkpffjhaaDoor
