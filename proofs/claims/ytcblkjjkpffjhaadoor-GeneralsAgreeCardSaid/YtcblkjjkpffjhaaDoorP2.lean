/- Votes counted, in plain words. No condition. -/
import Derived.Test.YtcblkjjkpffjhaaDoorA35
namespace Go.Proofs.YtcblkjjkpffjhaaDoor
open Go.RowKit
set_option linter.unusedVariables false
set_option linter.unusedSimpArgs false
set_option maxRecDepth 100000

theorem shl1 {i : Nat} (h : i < 32) : IntKind.u32.wrap ((1 : Int) * 2 ^ i) = ((2 ^ i : Nat) : Int) :=
  shl32 (a := 1) (Nat.one_mul _) (Nat.pow_lt_pow_right (by decide : 1 < 2) h)
theorem del32 {s i : Nat} (hs : s < 128) (hi : i < 7) : IntKind.u32.wrap ((BitVec.ofInt IntKind.u32.bits (s : Int) &&& ~~~ BitVec.ofInt IntKind.u32.bits ((2 ^ i : Nat) : Int)).toNat) = ((delS s i : Nat) : Int) := by
  have h1 : 2 ^ i < 4294967296 := Nat.pow_lt_pow_right (by decide : 1 < 2) (show i < 32 by omega)
  refine andNot32 (by omega) h1 (Nat.lt_trans (delS_lt s i) (by decide)) fun j _ => ?_
  rw [delS_bit hs, Nat.testBit_two_pow]
  congr 1
  by_cases e : i = j
  · subst e; simp
  · have e' : j ≠ i := fun q => e q.symm
    simp [e, e']
theorem got_in {c : Cp} {way : List Nat} {s : Nat} {x : Bool} {gm : Mb} (hs : s < 128) (hg : GM (fun j => if s.testBit j = true then some (sentP c way j x) else none) gm) : ∀ p ∈ gm, p.1 < 7 ∧ s.testBit p.1 = true ∧ p.2 = sentP c way p.1 x := by
  rintro ⟨j, v⟩ hp
  have := hg.mem.1 hp
  by_cases q : s.testBit j = true
  · rw [if_pos q] at this
    refine ⟨Nat.lt_of_not_le fun h => ?_, q, (Option.some.inj this).symm⟩
    rw [bit_hi hs h] at q; cases q
  · rw [if_neg q] at this; cases this
theorem key_lt {vm : Mi} {s : Nat} (hs : s < 128) (h : ∀ j ∈ vm.map (·.1), s.testBit j = true) : ∀ p ∈ vm, p.1 < 7 := fun p hp => by
  have := h p.1 (List.mem_map_of_mem hp)
  refine Nat.lt_of_not_le fun h => ?_
  rw [bit_hi hs h] at this; cases this
theorem cnt_key {vm : Mi} {s i : Nat} {y : Bool} (h : ∀ j ∈ vm.map (·.1), s.testBit j = true) (hi : s.testBit i = true) : ∀ j ∈ (cntM vm i y).map (·.1), s.testBit j = true := fun j hj => by
  rcases putM_keyI.1 hj with e | e
  · rw [e]; exact hi
  · exact h j e
theorem cnt_some {vm : Mi} {i j : Nat} {y : Bool} (h : (getM vm j).isSome = true ∨ j = i) : (getM (cntM vm i y) j).isSome = true := by
  unfold cntM
  rw [getM_put]
  split
  · rfl
  · rename_i q
    exact h.resolve_right fun e => q e.symm
section
variable {c : Cp} {d : Nat} {way : List Nat} {s : Nat} {x : Bool}
theorem c2_start {vm : Mi} {ms2 : Mb} {i : Nat} {y : Bool} (hs : s < 128) (hy : y = sentP c way i x) (hg : GOT c d (way ++ [i]) (delS s i) y ms2) (j : Nat) : getI (cntM vm i y) j = getI vm j + contr c d way s x i j - sumK ms2 j := by
  rw [cntM_get, sumK_get hg.nd, hg.get, hy]
  unfold contr
  by_cases e : i = j
  · subst e
    have : (delS s i).testBit i = false := by rw [delS_bit hs]; simp
    rw [if_pos rfl, if_pos rfl, if_neg (by rw [this]; decide)]; dsimp only; omega
  · rw [if_neg e, if_neg e]
    by_cases q : (delS s i).testBit j = true
    · rw [if_pos q, if_pos q]; dsimp only; omega
    · rw [if_neg q, if_neg q]; dsimp only; omega
theorem c2_step {vm vn : Mi} {l2 r2 : Mb} {i k : Nat} {z : Bool} (h : ∀ j, getI vn j = getI vm j + contr c d way s x i j - sumK l2 j) (hp : l2.Perm ((k, z) :: r2)) (j : Nat) : getI (cntM vn k z) j = getI vm j + contr c d way s x i j - sumK r2 j := by
  rw [cntM_get, h j, sumK_perm hp j]; dsimp only; omega
theorem got_in2 {ms2 : Mb} {i : Nat} {y : Bool} (hs : s < 128) (hg : GOT c d (way ++ [i]) (delS s i) y ms2) : ∀ p ∈ ms2, p.1 < 7 ∧ s.testBit p.1 = true := by
  rintro ⟨j, v⟩ hp
  have := hg.mem.1 hp
  by_cases q : (delS s i).testBit j = true
  · rw [delS_bit hs, Bool.and_eq_true] at q
    refine ⟨Nat.lt_of_not_le fun h => ?_, q.1⟩
    have := q.1
    rw [bit_hi hs h] at this; cases this
  · rw [if_neg q] at this; cases this
theorem held_step {vm l3 r3 : Mi} {hm : Mb} {k : Nat} {z : Int} (hn : vm.Pairwise (fun p q => p.1 ≠ q.1)) (h : ∀ j, (getM vm j).isSome = true → (∃ p ∈ l3, p.1 = j) ∨ getM hm j = some (decide (0 < getI vm j))) (hz : (k, z) ∈ vm) (hp : l3.Perm ((k, z) :: r3)) :
    ∀ j, (getM vm j).isSome = true → (∃ p ∈ r3, p.1 = j) ∨ getM (putM hm k (decide (0 < z))) j = some (decide (0 < getI vm j)) := fun j hj => by
  have hk : getI vm k = z := by unfold getI; rw [getM_of hn hz]; rfl
  rw [getM_put]
  by_cases e : k = j
  · subst e; right; rw [if_pos rfl, hk]
  · rw [if_neg e]
    rcases h j hj with ⟨p, hp1, hp2⟩ | h1
    · rcases List.mem_cons.1 (hp.mem_iff.1 hp1) with q | q
      · rw [q] at hp2; exact absurd hp2 e
      · exact .inl ⟨p, q, hp2⟩
    · exact .inr h1
theorem got_final {gm hm : Mb} {vm : Mi} (hs : s < 128) (hg : GM (fun j => if s.testBit j = true then some (sentP c way j x) else none) gm) (hv : ∀ j, getI vm j = sumC c d way s x gm j - sumC c d way s x [] j) (hvk : ∀ j ∈ vm.map (·.1), s.testBit j = true) (hall : ∀ j, s.testBit j = true → (∃ p ∈ ([] : Mb), p.1 = j) ∨ (getM vm j).isSome = true)
    (hh : ∀ j, (getM vm j).isSome = true → (∃ p ∈ ([] : Mi), p.1 = j) ∨ getM hm j = some (decide (0 < getI vm j))) (hhk : ∀ j ∈ hm.map (·.1), j ∈ vm.map (·.1)) (hhn : hm.Pairwise (fun p q => p.1 ≠ q.1)) : GOT c (d + 1) way s x hm := by
  refine ⟨fun j => ?_, hhn⟩
  by_cases q : s.testBit j = true
  · rw [if_pos q]
    have h1 := (hall j q).resolve_left (fun ⟨p, hp, _⟩ => by cases hp)
    have h2 := (hh j h1).resolve_left (fun ⟨p, hp, _⟩ => by cases hp)
    rw [h2, sprd_sum c d way s x hs hg q, hv j]
    have : sumC c d way s x [] j = 0 := rfl
    rw [this, Int.sub_zero]
  · rw [if_neg q]
    refine getM_none.2 fun p hp e => q ?_
    rw [← e]
    exact hvk _ (hhk _ (List.mem_map_of_mem hp))
end

section
variable {P : Program} {c : Cx} {m : List (Nat × Value)} {l : List Hp} {o : Oper}
theorem eff_callV1 {f : FuncId} {xs : List Operand} {ts : Array TypeId} {vs : List Value} {S : Value → Prop} {p : Value → Hp} (ho : o.op = .call { callee := .value (.func f), args := xs.toArray, argTypes := ts }) (F : Fnc P f) (hx : evoL m xs = some vs)
    (h : ∀ w, Sat c.W w (sep l) → Calls P f vs.toArray w (Ret w fun v l' => S v ∧ l' = [p v])) : Eff P c m l o (fun v l'' => S v ∧ l'' = p v :: l) :=
  Eff.mono (eff_callN ho F hx h) (by rintro v _ ⟨_, ⟨h1, rfl⟩, rfl⟩; exact ⟨h1, rfl⟩)
theorem eff_callB1 {f : FuncId} {xs : List Operand} {ts : Array TypeId} {vs : List Value} {mkv : Nat → Value} {p : Nat → Hp} (ho : o.op = .call { callee := .value (.func f), args := xs.toArray, argTypes := ts }) (F : Fnc P f) (hx : evoL m xs = some vs)
    (h : ∀ w, Sat c.W w (sep l) → Calls P f vs.toArray w (Ret w fun v l' => ∃ b, v = mkv b ∧ l' = [p b])) : Eff P c m l o (fun v l'' => ∃ b, v = mkv b ∧ l'' = p b :: l) :=
  Eff.mono (eff_callN ho F hx h) (by rintro _ _ ⟨_, ⟨b, rfl, rfl⟩, rfl⟩; exact ⟨b, rfl, rfl⟩)
end
end Go.Proofs.YtcblkjjkpffjhaaDoor
