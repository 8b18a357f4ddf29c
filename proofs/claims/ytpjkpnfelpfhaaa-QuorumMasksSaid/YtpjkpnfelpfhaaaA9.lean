/- QuorumMasks. The walk. No condition. -/
import Derived.Test.YtpjkpnfelpfhaaaA6
import Derived.Test.YtpjkpnfelpfhaaaA8
namespace Go.Proofs.Ytpjkpnfelpfhaaa
open Go.RowKit
set_option linter.unusedVariables false
set_option linter.unusedSimpArgs false
set_option maxRecDepth 100000

theorem calls_rel9 {P : Program} {f : FuncId} {args : Array Value} {W : World} {v0 : Value} (h : Calls P f args W fun e w' => e = .returned v0 ∧ Below W.heap.size W w') : Calls P f args W fun e w' => ∃ v, e = .returned v ∧ v = v0 ∧ Below W.heap.size W w' := h.mono fun e w' ⟨he, hb⟩ => ⟨v0, he, rfl, hb⟩
theorem sizeb_any {W : World} {x : Nat} (hx : x < 4294967296) : Calls Try.prog 16 #[.int .u32 ((x : Nat) : Int)] W fun e w' => e = .returned (.int .i64 ((sizeF x : Nat) : Int)) ∧ Below W.heap.size W w' :=
  (size_any x W hx).mono fun e w' ⟨he, hw⟩ => ⟨he, hw ▸ Below.refl _ _⟩
theorem flt_split (p q : Nat → Bool) : ∀ l : List Nat, (l.filter p).length = (l.filter fun i => p i && q i).length + (l.filter fun i => p i && !q i).length
  | [] => rfl
  | a :: l => by
    have ih := flt_split p q l
    cases hp : p a <;> cases hq : q a <;> simp [hp, hq] <;> omega
theorem flt_le (p q : Nat → Bool) : ∀ l : List Nat, (l.filter fun i => p i && q i).length ≤ (l.filter q).length
  | [] => Nat.le_refl _
  | a :: l => by
    have ih := flt_le p q l
    cases hp : p a <;> cases hq : q a <;> simp [hp, hq] <;> omega
theorem size_split (x y : Nat) : sizeF x = sizeF (x &&& y) + sizeF (x ^^^ (x &&& y)) := by
  unfold sizeF
  have h := flt_split (fun i => x.testBit i) (fun i => y.testBit i) (List.range 32)
  have e1 : (fun i => (x &&& y).testBit i) = fun i => x.testBit i && y.testBit i := by funext i; exact Nat.testBit_and ..
  have e2 : (fun i => (x ^^^ (x &&& y)).testBit i) = fun i => x.testBit i && !y.testBit i := by funext i; exact diff_bit x y i
  rw [e1, e2]; exact h
theorem size_and (x y : Nat) : sizeF (x &&& y) ≤ sizeF y := by
  unfold sizeF
  have e1 : (fun i => (x &&& y).testBit i) = fun i => x.testBit i && y.testBit i := by funext i; exact Nat.testBit_and ..
  rw [e1]; exact flt_le _ _ _
theorem size_pos {x : Nat} (h0 : x ≠ 0) (hx : x < 4294967296) : 0 < sizeF x := by
  refine Classical.byContradiction fun hn => h0 (Nat.eq_of_testBit_eq fun i => ?_)
  rw [Nat.zero_testBit]
  by_cases hi : i < 32
  · have he : (List.range 32).filter (fun i => x.testBit i) = [] := List.length_eq_zero_iff.1 (Nat.eq_zero_of_not_pos hn)
    have := List.filter_eq_nil_iff.1 he i (List.mem_range.2 hi)
    simpa using this
  · exact Nat.testBit_lt_two_pow (Nat.lt_of_lt_of_le (show x < 2 ^ 32 from hx) (Nat.pow_le_pow_right (by decide) (by omega)))
theorem masks_zero {W : World} {n : Int} {qv : Value} {xs : List Nat} (hs : SlS FU 1 W qv xs) (hlt : ∀ x ∈ xs, x < 4294967296) (hf : Sysm n xs) :
    Calls Try.prog 15 #[.int .i64 n, qv, .int .i64 0] W fun e w' => e = .returned (.tuple #[.bool true, .int .i64 0]) ∧ Below W.heap.size W w' := by
  refine (masks_yes (k := 0) hs hlt hf (by have := hf.1.lo; omega)).mono ?_
  rintro e w' ⟨v, rfl, ⟨r, rfl, h1, h2⟩, h⟩
  have hr : r = true := h2 (fun p ⟨i, j, _, g1, g2⟩ => size_pos (hf.meet (List.mem_of_getElem? g1) (List.mem_of_getElem? g2)) (Nat.lt_of_le_of_lt Nat.and_le_left (hlt _ (List.mem_of_getElem? g1))))
    (fun bl hbl w hw => by
      have h9 := (hbl.len hf.1).2.2 w hw
      exact size_pos h9.1 (Nat.lt_of_lt_of_le h9.2 (Nat.le_trans (show 2 ^ n.toNat ≤ 2 ^ 12 from Nat.pow_le_pow_right (by decide) (by have := hf.1.hi; omega)) (by decide))))
  subst hr
  exact ⟨rfl, h⟩
theorem masked {xs bl : List Nat} {k L x y : Nat} (hbl : IsBlk xs bl) (h1 : ∀ p, Two xs p → 2 * k + 1 ≤ sizeF (p.1 &&& p.2)) (hL : sizeF L ≤ k) (hx : x ∈ xs) (hy : y ∈ xs) : sizeF ((x &&& y) &&& L) < sizeF ((x &&& y) ^^^ ((x &&& y) &&& L)) := by
  have h2 := size_split (x &&& y) L
  have h3 := size_and (x &&& y) L
  have h4 : 2 * k + 1 ≤ sizeF (x &&& y) := by
    obtain ⟨i, hi⟩ := List.mem_iff_getElem?.1 hx
    obtain ⟨j, hj⟩ := List.mem_iff_getElem?.1 hy
    rcases Nat.le_total i j with e | e
    · exact h1 (x, y) ⟨i, j, e, hi, hj⟩
    · rw [Nat.and_comm]; exact h1 (y, x) ⟨j, i, e, hj, hi⟩
  omega
theorem apart_some {xs bl : List Nat} {k L : Nat} (hbl : IsBlk xs bl) (h2 : ∀ w ∈ bl, k < sizeF w) (hL : sizeF L ≤ k) : ∃ a ∈ xs, a &&& L = 0 := Classical.byContradiction fun hn => by
  obtain ⟨c, hc, hcl⟩ := hbl.below (b := L) fun a ha e => hn ⟨a, ha, e⟩
  have h3 := h2 c hc
  have h4 := size_and c L
  rw [hcl] at h4
  omega
theorem masksq_bad {W : World} {n b i j L : Int} {qv : Value} {xs : List Nat} {b0 : Bool} (hs : SlS FU 1 W qv xs) (hlt : ∀ x ∈ xs, x < 4294967296) (hb0 : b0 = true ↔ Sysm n xs) (hf : ¬ (Sysm n xs ∧ 0 ≤ b ∧ b ≤ n)) :
    Calls Try.prog 7 #[.int .i64 n, qv, .int .i64 b, .int .u8 i, .int .u8 j, .int .u32 L] W fun e w' => e = .returned (.bool true) ∧ Below W.heap.size W w' := by
  refine calls_pure (Gx.enter (l := []) Try.func7 rfl Try.ntmps7 rfl (Sat.start W) ?_)
  refine Gx.know (m' := [(0, .int .i64 n), (1, qv), (2, .int .i64 b), (3, .int .u8 i), (4, .int .u8 j), (5, .int .u32 L)]) (.cons rfl (.cons rfl (.cons rfl (.cons rfl (.cons rfl (.cons rfl .nil)))))) ?_
  refine Gx.seq ?_
  refine Gx.region ?_
  refine Gx.val rfl rfl rfl (val_assign rfl rfl) ?_
  refine Gx.done ?_
  refine Gx.thenN ?_
  refine Gx.seq ?_
  refine Gx.region ?_
  refine Gx.val rfl rfl rfl (val_move rfl rfl) ?_
  refine Gx.val rfl rfl rfl (val_move rfl rfl) ?_
  refine Gx.val rfl rfl rfl (val_move rfl rfl) ?_
  refine Gx.eff rfl rfl rfl (eff_callE (vs := [.int .i64 n, qv, .int .i64 b]) rfl Try.fn15 rfl (R := fun v => ∃ c : Int, v = .tuple #[.bool false, .int .i64 c] ∧ c ≠ 0) (fun w H => masks_no (hs.below H.below) hlt hf)) ?_
  rintro _ _ ⟨⟨cc, rfl, hcc⟩, rfl⟩
  refine Gx.val rfl rfl rfl (val_move rfl rfl) ?_
  refine Gx.val rfl rfl rfl (val_extract rfl rfl rfl) ?_
  refine Gx.val rfl rfl rfl (val_extract rfl rfl rfl) ?_
  refine Gx.val rfl rfl rfl (val_assign rfl rfl) ?_
  refine Gx.val rfl rfl rfl (val_assign rfl rfl) ?_
  refine Gx.done ?_
  refine Gx.thenN ?_
  refine Gx.seq ?_
  refine Gx.seq ?_
  refine Gx.region ?_
  refine Gx.val rfl rfl rfl (val_move rfl rfl) ?_
  refine Gx.val rfl rfl rfl (val_move rfl rfl) ?_
  refine Gx.val rfl rfl rfl (val_call (vs := [.int .i64 n, qv]) rfl Try.fn14 rfl (fun w H => ksys_yes (hs.below H.below) hlt b0 hb0)) ?_
  refine Gx.val rfl rfl rfl (val_not rfl rfl) ?_
  refine Gx.val rfl rfl rfl (val_move rfl rfl) ?_
  refine Gx.casesB (t := 32) rfl (fun h1 => ?_) (fun h1 => ?_)
  · refine Gx.skipg rfl rfl rfl rfl rfl rfl ?_
    refine Gx.skipg rfl rfl rfl rfl rfl rfl ?_
    refine Gx.val rfl rfl rfl (val_pickT rfl rfl rfl) ?_
    refine Gx.val rfl rfl rfl (val_move rfl rfl) ?_
    refine Gx.skipg rfl rfl rfl rfl rfl rfl ?_
    refine Gx.skipg rfl rfl rfl rfl rfl rfl ?_
    refine Gx.skipg rfl rfl rfl rfl rfl rfl ?_
    refine Gx.val rfl rfl rfl (val_pickT rfl rfl rfl) ?_
    refine Gx.done ?_
    refine Gx.thenN ?_
    refine Gx.t rfl ?_
    refine Gx.seq ?_
    refine Gx.region ?_
    refine Gx.val rfl rfl rfl (val_move rfl rfl) ?_
    refine Gx.val rfl rfl rfl (val_neq rfl rfl rfl) ?_
    refine Gx.val rfl rfl rfl (val_assign rfl rfl) ?_
    refine Gx.done ?_
    refine Gx.thenN ?_
    refine Gx.ret ?_
    refine Gx.thenR ?_
    refine Gx.ret1 Try.results7 rfl ?_
    exact congrArg Value.bool (decide_eq_true hcc)
  · refine Gx.valg rfl rfl rfl rfl rfl (val_move rfl rfl) ?_
    refine Gx.valg rfl rfl rfl rfl rfl (val_lss rfl rfl rfl) ?_
    refine Gx.val rfl rfl rfl (val_pickF rfl rfl rfl) ?_
    refine Gx.val rfl rfl rfl (val_move rfl rfl) ?_
    refine Gx.cases (t := 36) rfl (fun h2 => ?_) (fun h2 => ?_)
    · refine Gx.skipg rfl rfl rfl rfl rfl rfl ?_
      refine Gx.skipg rfl rfl rfl rfl rfl rfl ?_
      refine Gx.skipg rfl rfl rfl rfl rfl rfl ?_
      refine Gx.val rfl rfl rfl (val_pickT rfl rfl rfl) ?_
      refine Gx.done ?_
      refine Gx.thenN ?_
      refine Gx.t rfl ?_
      refine Gx.seq ?_
      refine Gx.region ?_
      refine Gx.val rfl rfl rfl (val_move rfl rfl) ?_
      refine Gx.val rfl rfl rfl (val_neq rfl rfl rfl) ?_
      refine Gx.val rfl rfl rfl (val_assign rfl rfl) ?_
      refine Gx.done ?_
      refine Gx.thenN ?_
      refine Gx.ret ?_
      refine Gx.thenR ?_
      refine Gx.ret1 Try.results7 rfl ?_
      exact congrArg Value.bool (decide_eq_true hcc)
    · refine Gx.valg rfl rfl rfl rfl rfl (val_move rfl rfl) ?_
      refine Gx.valg rfl rfl rfl rfl rfl (val_move rfl rfl) ?_
      refine Gx.valg rfl rfl rfl rfl rfl (val_gtr rfl rfl rfl) ?_
      refine Gx.val rfl rfl rfl (val_pickF rfl rfl rfl) ?_
      refine Gx.done ?_
      refine Gx.thenN ?_
      refine Gx.dec rfl (fun h3 => ?_) (fun h3 => ?_)
      · refine Gx.seq ?_
        refine Gx.region ?_
        refine Gx.val rfl rfl rfl (val_move rfl rfl) ?_
        refine Gx.val rfl rfl rfl (val_neq rfl rfl rfl) ?_
        refine Gx.val rfl rfl rfl (val_assign rfl rfl) ?_
        refine Gx.done ?_
        refine Gx.thenN ?_
        refine Gx.ret ?_
        refine Gx.thenR ?_
        refine Gx.ret1 Try.results7 rfl ?_
        exact congrArg Value.bool (decide_eq_true hcc)
      · refine Gx.skip ?_
        refine Gx.thenN ?_
        refine Gx.seq ?_
        exact absurd ⟨hb0.1 (by simp_all), by omega, by omega⟩ hf

theorem masksq_yes {W : World} {m k i j L : Nat} {qv : Value} {xs : List Nat} (hs : SlS FU 1 W qv xs) (hlt : ∀ x ∈ xs, x < 4294967296) (hf : Sysm (m : Int) xs) (hk : (k : Int) ≤ (m : Int)) (hi : i < 256) (hj : j < 256) (hL : L < 4294967296) :
    Calls Try.prog 7 #[.int .i64 ((m : Nat) : Int), qv, .int .i64 ((k : Nat) : Int), .int .u8 ((i : Nat) : Int), .int .u8 ((j : Nat) : Int), .int .u32 ((L : Nat) : Int)] W fun e w' => e = .returned (.bool true) ∧ Below W.heap.size W w' := by
  have hm9 := sls_bd hs
  have hm12 := hf.1.hi
  have hs0 := hf.1.some
  refine calls_pure (Gx.enter (l := []) Try.func7 rfl Try.ntmps7 rfl (Sat.start W) ?_)
  refine Gx.know (m' := [(0, .int .i64 ((m : Nat) : Int)), (1, qv), (2, .int .i64 ((k : Nat) : Int)), (3, .int .u8 ((i : Nat) : Int)), (4, .int .u8 ((j : Nat) : Int)), (5, .int .u32 ((L : Nat) : Int))]) (.cons rfl (.cons rfl (.cons rfl (.cons rfl (.cons rfl (.cons rfl .nil)))))) ?_
  refine Gx.seq ?_
  refine Gx.region ?_
  refine Gx.val rfl rfl rfl (val_assign rfl rfl) ?_
  refine Gx.done ?_
  refine Gx.thenN ?_
  refine Gx.seq ?_
  refine Gx.region ?_
  refine Gx.val rfl rfl rfl (val_move rfl rfl) ?_
  refine Gx.val rfl rfl rfl (val_move rfl rfl) ?_
  refine Gx.val rfl rfl rfl (val_move rfl rfl) ?_
  refine Gx.eff rfl rfl rfl (eff_callE (vs := [.int .i64 ((m : Nat) : Int), qv, .int .i64 ((k : Nat) : Int)]) rfl Try.fn15 rfl (R := fun v => ∃ r : Bool, v = .tuple #[.bool r, .int .i64 0] ∧ (r = true → ∃ bl, IsBlk xs bl ∧ (∀ p, Two xs p → 2 * k + 1 ≤ sizeF (p.1 &&& p.2)) ∧ ∀ w ∈ bl, k < sizeF w) ∧ ((∀ p, Two xs p → 2 * k + 1 ≤ sizeF (p.1 &&& p.2)) → (∀ bl, IsBlk xs bl → ∀ w ∈ bl, k < sizeF w) → r = true)) (fun w H => masks_yes (n := (m : Int)) (hs.below H.below) hlt hf hk)) ?_
  rintro _ _ ⟨⟨r, rfl, hr1, hr2⟩, rfl⟩
  refine Gx.val rfl rfl rfl (val_move rfl rfl) ?_
  refine Gx.val rfl rfl rfl (val_extract rfl rfl rfl) ?_
  refine Gx.val rfl rfl rfl (val_extract rfl rfl rfl) ?_
  refine Gx.val rfl rfl rfl (val_assign rfl rfl) ?_
  refine Gx.val rfl rfl rfl (val_assign rfl rfl) ?_
  refine Gx.done ?_
  refine Gx.thenN ?_
  refine Gx.seq ?_
  refine Gx.seq ?_
  refine Gx.region ?_
  refine Gx.val rfl rfl rfl (val_move rfl rfl) ?_
  refine Gx.val rfl rfl rfl (val_move rfl rfl) ?_
  refine Gx.val rfl rfl rfl (val_call (vs := [.int .i64 ((m : Nat) : Int), qv]) rfl Try.fn14 rfl (fun w H => ksys_yes (hs.below H.below) hlt true ⟨fun _ => hf, fun _ => rfl⟩)) ?_
  refine Gx.val rfl rfl rfl (Val.cast (val_not rfl rfl) (v' := .bool false) rfl) ?_
  refine Gx.val rfl rfl rfl (val_move rfl rfl) ?_
  refine Gx.valg rfl rfl rfl rfl rfl (val_move rfl rfl) ?_
  refine Gx.valg rfl rfl rfl rfl rfl (val_lss rfl rfl rfl) ?_
  refine Gx.val rfl rfl rfl (val_pickF rfl rfl rfl) ?_
  refine Gx.val rfl rfl rfl (val_move rfl rfl) ?_
  refine Gx.slot (t := 36) (v := .bool false) (look_decF rfl (by omega)) ?_
  refine Gx.valg rfl rfl rfl rfl rfl (val_move rfl rfl) ?_
  refine Gx.valg rfl rfl rfl rfl rfl (val_move rfl rfl) ?_
  refine Gx.valg rfl rfl rfl rfl rfl (val_gtr rfl rfl rfl) ?_
  refine Gx.val rfl rfl rfl (val_pickF rfl rfl rfl) ?_
  refine Gx.done ?_
  refine Gx.thenN ?_
  refine Gx.decF rfl (by omega) ?_
  refine Gx.skip ?_
  refine Gx.thenN ?_
  refine Gx.seq ?_
  refine Gx.region ?_
  refine Gx.val rfl rfl rfl (val_move rfl rfl) ?_
  refine Gx.val rfl rfl rfl (val_move rfl rfl) ?_
  refine Gx.eff rfl rfl rfl (eff_callE (vs := [.int .i64 ((m : Nat) : Int), qv, .int .i64 0]) rfl Try.fn15 rfl (R := fun v => v = .tuple #[.bool true, .int .i64 0]) (fun w H => calls_rel9 (masks_zero (n := (m : Int)) (hs.below H.below) hlt hf))) ?_
  rintro _ _ ⟨rfl, rfl⟩
  refine Gx.val rfl rfl rfl (val_move rfl rfl) ?_
  refine Gx.val rfl rfl rfl (val_extract rfl rfl rfl) ?_
  refine Gx.val rfl rfl rfl (val_extract rfl rfl rfl) ?_
  refine Gx.val rfl rfl rfl (val_assign rfl rfl) ?_
  refine Gx.val rfl rfl rfl (val_assign rfl rfl) ?_
  refine Gx.done ?_
  refine Gx.thenN ?_
  refine Gx.seq ?_
  refine Gx.seq ?_
  refine Gx.region ?_
  refine Gx.val rfl rfl rfl (val_move rfl rfl) ?_
  refine Gx.val rfl rfl rfl (Val.cast (val_neq rfl rfl rfl) (v' := .bool false) rfl) ?_
  refine Gx.val rfl rfl rfl (val_move rfl rfl) ?_
  refine Gx.valg rfl rfl rfl rfl rfl (val_move rfl rfl) ?_
  refine Gx.valg rfl rfl rfl rfl rfl (Val.cast (val_neq rfl rfl rfl) (v' := .bool false) rfl) ?_
  refine Gx.val rfl rfl rfl (val_pickF rfl rfl rfl) ?_
  refine Gx.val rfl rfl rfl (val_move rfl rfl) ?_
  refine Gx.valg rfl rfl rfl rfl rfl (val_move rfl rfl) ?_
  refine Gx.valg rfl rfl rfl rfl rfl (Val.cast (val_not rfl rfl) (v' := .bool false) rfl) ?_
  refine Gx.val rfl rfl rfl (val_pickF rfl rfl rfl) ?_
  refine Gx.done ?_
  refine Gx.thenN ?_
  refine Gx.f rfl ?_
  refine Gx.skip ?_
  refine Gx.thenN ?_
  refine Gx.seq ?_
  refine Gx.seq ?_
  refine Gx.region ?_
  refine Gx.val rfl rfl rfl (val_move rfl rfl) ?_
  refine Gx.val rfl rfl rfl (val_not rfl rfl) ?_
  refine Gx.val rfl rfl rfl (val_move rfl rfl) ?_
  refine Gx.casesB (t := 61) rfl (fun h1 => ?_) (fun h1 => ?_)
  · refine Gx.skipg rfl rfl rfl rfl rfl rfl ?_
    refine Gx.skipg rfl rfl rfl rfl rfl rfl ?_
    refine Gx.skipg rfl rfl rfl rfl rfl rfl ?_
    refine Gx.skipg rfl rfl rfl rfl rfl rfl ?_
    refine Gx.val rfl rfl rfl (val_pickT rfl rfl rfl) ?_
    refine Gx.val rfl rfl rfl (val_move rfl rfl) ?_
    refine Gx.skipg rfl rfl rfl rfl rfl rfl ?_
    refine Gx.skipg rfl rfl rfl rfl rfl rfl ?_
    refine Gx.skipg rfl rfl rfl rfl rfl rfl ?_
    refine Gx.val rfl rfl rfl (val_pickT rfl rfl rfl) ?_
    refine Gx.done ?_
    refine Gx.thenN ?_
    refine Gx.t rfl ?_
    refine Gx.seq ?_
    refine Gx.region ?_
    refine Gx.val rfl rfl rfl (val_assign rfl rfl) ?_
    refine Gx.done ?_
    refine Gx.thenN ?_
    refine Gx.ret ?_
    refine Gx.thenR ?_
    refine Gx.ret1 Try.results7 rfl ?_
    first | rfl | exact congrArg Value.bool (decide_eq_true (by omega))
  · refine Gx.valg rfl rfl rfl rfl rfl (val_move rfl rfl) ?_
    refine Gx.valg rfl rfl rfl rfl rfl (val_call (vs := [.int .u32 ((L : Nat) : Int)]) rfl Try.fn16 rfl (fun w H => sizeb_any (by first | omega | exact Nat.lt_of_le_of_lt Nat.and_le_left (by omega) | exact diff_lt (by omega)))) ?_
    refine Gx.valg rfl rfl rfl rfl rfl (val_move rfl rfl) ?_
    refine Gx.valg rfl rfl rfl rfl rfl (val_gtr rfl rfl rfl) ?_
    refine Gx.val rfl rfl rfl (val_pickF rfl rfl rfl) ?_
    refine Gx.val rfl rfl rfl (val_move rfl rfl) ?_
    refine Gx.cases (t := 67) rfl (fun h2 => ?_) (fun h2 => ?_)
    · refine Gx.skipg rfl rfl rfl rfl rfl rfl ?_
      refine Gx.skipg rfl rfl rfl rfl rfl rfl ?_
      refine Gx.skipg rfl rfl rfl rfl rfl rfl ?_
      refine Gx.val rfl rfl rfl (val_pickT rfl rfl rfl) ?_
      refine Gx.done ?_
      refine Gx.thenN ?_
      refine Gx.t rfl ?_
      refine Gx.seq ?_
      refine Gx.region ?_
      refine Gx.val rfl rfl rfl (val_assign rfl rfl) ?_
      refine Gx.done ?_
      refine Gx.thenN ?_
      refine Gx.ret ?_
      refine Gx.thenR ?_
      refine Gx.ret1 Try.results7 rfl ?_
      first | rfl | exact congrArg Value.bool (decide_eq_true (by omega))
    · refine Gx.valg rfl rfl rfl rfl rfl (val_move rfl rfl) ?_
      refine Gx.valg rfl rfl rfl rfl rfl (val_move rfl rfl) ?_
      refine Gx.valg rfl rfl rfl rfl rfl (val_call (vs := [.int .u32 ((L : Nat) : Int), .int .i64 ((m : Nat) : Int)]) rfl Try.fn17 rfl (fun w H => outs_c hL (by omega))) ?_
      refine Gx.val rfl rfl rfl (val_pickF rfl rfl rfl) ?_
      refine Gx.done ?_
      refine Gx.thenN ?_
      refine Gx.dec rfl (fun h3 => ?_) (fun h3 => ?_)
      · refine Gx.seq ?_
        refine Gx.region ?_
        refine Gx.val rfl rfl rfl (val_assign rfl rfl) ?_
        refine Gx.done ?_
        refine Gx.thenN ?_
        refine Gx.ret ?_
        refine Gx.thenR ?_
        refine Gx.ret1 Try.results7 rfl ?_
        first | rfl | exact congrArg Value.bool (decide_eq_true (by omega))
      · refine Gx.skip ?_
        refine Gx.thenN ?_
        refine Gx.seq ?_
        have hri : r = true := by simp_all
        have hi9 : i % xs.length < xs.length := Nat.mod_lt _ hf.1.some
        have hj9 : j % xs.length < xs.length := Nat.mod_lt _ hf.1.some
        obtain ⟨x, hx⟩ := get_of_lt hi9
        obtain ⟨y, hy⟩ := get_of_lt hj9
        have hx9 := hlt x (List.mem_of_getElem? hx)
        have hy9 := hlt y (List.mem_of_getElem? hy)
        have hxy9 : x &&& y < 4294967296 := Nat.lt_of_le_of_lt Nat.and_le_left hx9
        obtain ⟨bl, hbl, hr3, hr4⟩ := hr1 hri
        have hmk := masked (L := L) hbl hr3 (by omega) (List.mem_of_getElem? hx) (List.mem_of_getElem? hy)
        have hap := apart_some hbl hr4 (by omega : sizeF L ≤ k)
        refine Gx.regionQ Try.mixed (by kernel_rfl) ?_
        refine Gq.val rfl rfl rfl (val_move rfl rfl) ?_
        refine Gq.val rfl rfl rfl (val_move rfl rfl) ?_
        refine Gq.val rfl rfl rfl (val_conv rfl Try.underlying5 Try.underlying3 rfl (r := ((i : Nat) : Int)) (w64 rfl (by omega))) ?_
        refine Gq.val rfl rfl rfl (val_move rfl rfl) ?_
        refine Gq.val rfl rfl rfl (val_len rfl Try.underlying22 rfl (len_base hs)) ?_
        refine Gq.val rfl rfl rfl (val_rem rfl rfl rfl (r := ((i % xs.length : Nat) : Int)) (by omega) (Int.ofNat_tmod .. ▸ rfl)) ?_
        refine Gq.val rfl rfl rfl (val_ixa rfl Try.underlying22 Try.ty28 rfl rfl (j := i % xs.length) (rfl) (reach_base hs hx)) ?_
        refine Gq.val rfl rfl rfl (val_load rfl Try.ty28 rfl rfl (cell_base (i := 0) (sz := 1) (j := i % xs.length) hs hx rfl)) ?_
        refine Gq.val rfl rfl rfl (val_move rfl rfl) ?_
        refine Gq.val rfl rfl rfl (val_move rfl rfl) ?_
        refine Gq.val rfl rfl rfl (val_conv rfl Try.underlying5 Try.underlying3 rfl (r := ((j : Nat) : Int)) (w64 rfl (by omega))) ?_
        refine Gq.val rfl rfl rfl (val_move rfl rfl) ?_
        refine Gq.val rfl rfl rfl (val_len rfl Try.underlying22 rfl (len_base hs)) ?_
        refine Gq.val rfl rfl rfl (val_rem rfl rfl rfl (r := ((j % xs.length : Nat) : Int)) (by omega) (Int.ofNat_tmod .. ▸ rfl)) ?_
        refine Gq.val rfl rfl rfl (val_ixa rfl Try.underlying22 Try.ty28 rfl rfl (j := j % xs.length) (rfl) (reach_base hs hy)) ?_
        refine Gq.val rfl rfl rfl (val_load rfl Try.ty28 rfl rfl (cell_base (i := 0) (sz := 1) (j := j % xs.length) hs hy rfl)) ?_
        refine Gq.val rfl rfl rfl (val_and rfl rfl rfl (and32 hx9 hy9)) ?_
        refine Gq.val rfl rfl rfl (val_assign rfl rfl) ?_
        refine Gq.done ?_
        refine Gx.thenN ?_
        refine Gx.seq ?_
        refine Gx.region ?_
        refine Gx.val rfl rfl rfl (val_assign rfl rfl) ?_
        refine Gx.done ?_
        refine Gx.thenN ?_
        refine Gx.seq ?_
        refine Gx.seq ?_
        refine Gx.region ?_
        refine Gx.val rfl rfl rfl (val_move rfl rfl) ?_
        refine Gx.val rfl rfl rfl (val_len rfl Try.underlying22 rfl (len_base hs)) ?_
        refine Gx.val rfl rfl rfl (val_move rfl rfl) ?_
        refine Gx.done ?_
        refine Gx.thenN ?_
        refine Gx.block ?_
        refine Gx.loop (ι := Nat × Bool) (fun ξ => (ξ.1 ≤ xs.length) ∧ (∀ (a z : Nat), a < ξ.1 → xs[a]? = some z → z &&& L = 0 → ξ.2 = true)) (fun ξ => [(5, .int .u32 ((L : Nat) : Int)), (17, .int .u32 (((x &&& y) : Nat) : Int)), (89, qv), (90, .int .i64 ((xs.length : Nat) : Int)), (18, .bool ξ.2), (91, .int .i64 ((ξ.1 : Nat) : Int))]) (fun ξ => []) (fun ξ => xs.length - ξ.1) (0, false) ⟨by first | omega | (dsimp only; omega), fun a z h => absurd h (Nat.not_lt_zero _)⟩ ((.cons rfl (.cons rfl (.cons rfl (.cons rfl (.cons rfl (.cons rfl .nil))))))) rfl ?_
        rintro ⟨t, sm⟩ ⟨ht, hsm⟩
        dsimp only at ht hsm
        refine Gx.know (m' := [(5, .int .u32 ((L : Nat) : Int)), (17, .int .u32 (((x &&& y) : Nat) : Int)), (89, qv), (90, .int .i64 ((xs.length : Nat) : Int)), (18, .bool sm), (91, .int .i64 ((t : Nat) : Int))]) (.cons rfl (.cons rfl (.cons rfl (.cons rfl (.cons rfl (.cons rfl .nil)))))) (Gx.norm (l' := []) rfl ?_)
        refine Gx.seq ?_
        refine Gx.region ?_
        refine Gx.val rfl rfl rfl (val_lss rfl rfl rfl) ?_
        refine Gx.done ?_
        refine Gx.thenN ?_
        refine Gx.seq ?_
        refine Gx.dec rfl (fun h4 => ?_) (fun h4 => ?_)
        · refine Gx.skip ?_
          refine Gx.thenN ?_
          refine Gx.seq ?_
          refine Gx.block ?_
          refine Gx.seq ?_
          obtain ⟨z, hz⟩ := get_of_lt (xs := xs) (k := t) (by omega)
          have hz9 := hlt z (List.mem_of_getElem? hz)
          refine Gx.region ?_
          refine Gx.val rfl rfl rfl (val_ixa rfl Try.underlying22 Try.ty28 rfl rfl (j := t) (rfl) (reach_base hs hz)) ?_
          refine Gx.val rfl rfl rfl (val_load rfl Try.ty28 rfl rfl (cell_base (i := 0) hs hz rfl)) ?_
          refine Gx.val rfl rfl rfl (val_assign rfl rfl) ?_
          refine Gx.done ?_
          refine Gx.thenN ?_
          refine Gx.region ?_
          refine Gx.val rfl rfl rfl (val_move rfl rfl) ?_
          refine Gx.val rfl rfl rfl (val_move rfl rfl) ?_
          refine Gx.casesB (t := 96) rfl (fun h5 => ?_) (fun h5 => ?_)
          · refine Gx.skipg rfl rfl rfl rfl rfl rfl ?_
            refine Gx.skipg rfl rfl rfl rfl rfl rfl ?_
            refine Gx.skipg rfl rfl rfl rfl rfl rfl ?_
            refine Gx.skipg rfl rfl rfl rfl rfl rfl ?_
            refine Gx.val rfl rfl rfl (val_pickT rfl rfl rfl) ?_
            refine Gx.val rfl rfl rfl (val_assign rfl rfl) ?_
            refine Gx.done ?_
            refine Gx.blkN ?_
            refine Gx.thenN ?_
            refine Gx.region ?_
            refine Gx.val rfl rfl rfl (val_add rfl rfl rfl (r := ((t + 1 : Nat) : Int)) (w64 (by omega) (by omega))) ?_
            refine Gx.val rfl rfl rfl (val_move rfl rfl) ?_
            refine Gx.done ?_
            refine Gx.thenN ?_
            exact Gx.round (t + 1, true) ⟨by first | omega | (dsimp only; omega), fun a z' g1 g2 g3 => by
              by_cases e : a = t
              · subst e; rw [hz] at g2 <;> (cases g2) <;> simp_all
              · have := hsm a z' (by (try dsimp only at g1); omega) g2 g3; simp_all⟩ (by first | omega | (dsimp only; omega)) ((.cons rfl (.cons rfl (.cons rfl (.cons rfl (.cons rfl (.cons rfl .nil))))))) rfl
          · refine Gx.valg rfl rfl rfl rfl rfl (val_move rfl rfl) ?_
            refine Gx.valg rfl rfl rfl rfl rfl (val_move rfl rfl) ?_
            refine Gx.valg rfl rfl rfl rfl rfl (val_and rfl rfl rfl (and32 hz9 hL)) ?_
            refine Gx.valg rfl rfl rfl rfl rfl (val_eql rfl rfl rfl) ?_
            refine Gx.val rfl rfl rfl (val_pickF rfl rfl rfl) ?_
            refine Gx.val rfl rfl rfl (val_assign rfl rfl) ?_
            refine Gx.done ?_
            refine Gx.blkN ?_
            refine Gx.thenN ?_
            refine Gx.region ?_
            refine Gx.val rfl rfl rfl (val_add rfl rfl rfl (r := ((t + 1 : Nat) : Int)) (w64 (by omega) (by omega))) ?_
            refine Gx.val rfl rfl rfl (val_move rfl rfl) ?_
            refine Gx.done ?_
            refine Gx.thenN ?_
            exact Gx.round (t + 1, decide ((((z &&& L) : Nat) : Int) = 0)) ⟨by first | omega | (dsimp only; omega), fun a z' g1 g2 g3 => by
              by_cases e : a = t
              · subst e; rw [hz] at g2 <;> (cases g2) <;> simp_all
              · have := hsm a z' (by (try dsimp only at g1); omega) g2 g3; simp_all⟩ (by first | omega | (dsimp only; omega)) ((.cons rfl (.cons rfl (.cons rfl (.cons rfl (.cons rfl (.cons rfl .nil))))))) rfl
        · refine Gx.exit ?_
          refine Gx.thenE ?_
          refine Gx.thenE ?_
          refine Gx.blkE ?_
          refine Gx.thenN ?_
          refine Gx.seq ?_
          have hse : sm = true := by
            obtain ⟨a, ha, ha0⟩ := hap
            obtain ⟨q, hq⟩ := List.mem_iff_getElem?.1 ha
            exact hsm q a (by have := (List.getElem?_eq_some_iff.1 hq).1; omega) hq ha0
          refine Gx.region ?_
          refine Gx.val rfl rfl rfl (val_move rfl rfl) ?_
          refine Gx.val rfl rfl rfl (val_move rfl rfl) ?_
          refine Gx.slot (t := 104) (v := .bool true) (look_boolT rfl (hse)) ?_
          refine Gx.valg rfl rfl rfl rfl rfl (val_move rfl rfl) ?_
          refine Gx.valg rfl rfl rfl rfl rfl (val_move rfl rfl) ?_
          refine Gx.valg rfl rfl rfl rfl rfl (val_andNot rfl rfl rfl (andNot32 hxy9 hL (diff_lt hxy9) (fun i _ => diff_bit _ _ i))) ?_
          refine Gx.valg rfl rfl rfl rfl rfl (val_call (vs := [.int .u32 ((((x &&& y) ^^^ ((x &&& y) &&& L)) : Nat) : Int)]) rfl Try.fn16 rfl (fun w H => sizeb_any (by first | omega | exact Nat.lt_of_le_of_lt Nat.and_le_left (by omega) | exact diff_lt (by omega)))) ?_
          refine Gx.valg rfl rfl rfl rfl rfl (val_move rfl rfl) ?_
          refine Gx.valg rfl rfl rfl rfl rfl (val_move rfl rfl) ?_
          refine Gx.valg rfl rfl rfl rfl rfl (val_and rfl rfl rfl (and32 hxy9 hL)) ?_
          refine Gx.valg rfl rfl rfl rfl rfl (val_call (vs := [.int .u32 ((((x &&& y) &&& L) : Nat) : Int)]) rfl Try.fn16 rfl (fun w H => sizeb_any (by first | omega | exact Nat.lt_of_le_of_lt Nat.and_le_left (by omega) | exact diff_lt (by omega)))) ?_
          refine Gx.valg rfl rfl rfl rfl rfl (val_gtr rfl rfl rfl) ?_
          refine Gx.val rfl rfl rfl (val_pickT rfl rfl rfl) ?_
          refine Gx.val rfl rfl rfl (val_assign rfl rfl) ?_
          refine Gx.done ?_
          refine Gx.thenN ?_
          refine Gx.ret ?_
          refine Gx.ret1 Try.results7 rfl ?_
          first | rfl | exact congrArg Value.bool (decide_eq_true (by omega))

theorem masksq_any {W : World} {n b i j L : Int} {qv : Value} {xs : List Nat} (hs : SlS FU 1 W qv xs) (hlt : ∀ x ∈ xs, x < 4294967296) (hi : 0 ≤ i ∧ i ≤ 255) (hj : 0 ≤ j ∧ j ≤ 255) (hL : 0 ≤ L ∧ L ≤ 4294967295) :
    Calls Try.prog 7 #[.int .i64 n, qv, .int .i64 b, .int .u8 i, .int .u8 j, .int .u32 L] W fun e w' => e = .returned (.bool true) ∧ Below W.heap.size W w' := by
  by_cases hf : Sysm n xs ∧ 0 ≤ b ∧ b ≤ n
  · obtain ⟨h1, h2, h3⟩ := hf
    obtain ⟨m, rfl⟩ : ∃ m : Nat, n = (m : Int) := ⟨n.toNat, by have := h1.1.lo; omega⟩
    obtain ⟨k, rfl⟩ : ∃ k : Nat, b = (k : Int) := ⟨b.toNat, by omega⟩
    obtain ⟨i, rfl⟩ : ∃ a : Nat, i = (a : Int) := ⟨i.toNat, by omega⟩
    obtain ⟨j, rfl⟩ : ∃ a : Nat, j = (a : Int) := ⟨j.toNat, by omega⟩
    obtain ⟨L, rfl⟩ : ∃ a : Nat, L = (a : Int) := ⟨L.toNat, by omega⟩
    exact masksq_yes hs hlt h1 h3 (by omega) (by omega) (by omega)
  · exact masksq_bad (b0 := @decide (Sysm n xs) (Classical.propDecidable _)) hs hlt (@decide_eq_true_iff _ (Classical.propDecidable _)) hf
end Go.Proofs.Ytpjkpnfelpfhaaa
