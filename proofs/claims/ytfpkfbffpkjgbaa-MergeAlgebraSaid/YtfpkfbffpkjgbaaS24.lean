/- Heaps of dots. No condition. -/
import Derived.Test.YtfpkfbffpkjgbaaS23
namespace Go.Proofs.Ytfpkfbffpkjgbaa
open Go.RowKit
set_option linter.unusedVariables false
set_option linter.unusedSimpArgs false
set_option maxRecDepth 100000

theorem q64 {i j : Int} {a m : Nat} (hi : i = ((a : Nat) : Int)) (hj : j = ((m : Nat) : Int)) (ha : a ≤ 9223372036854775807) : IntKind.i64.wrap (i.tdiv j) = ((a / m : Nat) : Int) := by
  subst hi; subst hj
  have hb : ∀ q : Nat, q ≤ a → -9223372036854775808 ≤ (q : Int) ∧ (q : Int) ≤ 9223372036854775807 := fun q hq => ⟨by omega, by omega⟩
  exact w64 rfl (hb _ (Nat.div_le_self a m))
/-- a heap from place lo on -/
def Heap (L : List Dk) (f lo hi : Nat) : Prop := ∀ p c x y, lo ≤ p → (c = 2 * p + 1 ∨ c = 2 * p + 2) → c < hi → L[f + p]? = some x → L[f + c]? = some y → kK y ≤ kK x
/-- ..but for place r -/
structure HeapX (L : List Dk) (f lo hi r : Nat) : Prop where
  rest : ∀ p c x y, lo ≤ p → p ≠ r → (c = 2 * p + 1 ∨ c = 2 * p + 2) → c < hi → L[f + p]? = some x → L[f + c]? = some y → kK y ≤ kK x
  over : ∀ p c x y, lo ≤ p → (r = 2 * p + 1 ∨ r = 2 * p + 2) → (c = 2 * r + 1 ∨ c = 2 * r + 2) → c < hi → L[f + p]? = some x → L[f + c]? = some y → kK y ≤ kK x
section
variable {L : List Dk} {f lo hi r k : Nat} {xr yk : Dk}
theorem HeapX.start (h : Heap L f (lo + 1) hi) : HeapX L f lo hi lo := ⟨fun p c x y h0 h1 => h p c x y (by omega), fun p c x y h0 h1 => by omega⟩
theorem HeapX.end_ (h : HeapX L f lo hi r) (hr : hi ≤ 2 * r + 1) : Heap L f lo hi := fun p c x y h0 h1 h2 hx hy => by
  by_cases e : p = r
  · subst e; omega
  · exact h.rest p c x y h0 e h1 h2 hx hy
theorem HeapX.done (h : HeapX L f lo hi r) (hx : L[f + r]? = some xr) (hk : ∀ c y, (c = 2 * r + 1 ∨ c = 2 * r + 2) → c < hi → L[f + c]? = some y → kK y ≤ kK yk) (hle : kK yk ≤ kK xr) : Heap L f lo hi := fun p c x y h0 h1 h2 hp hc => by
  by_cases e : p = r
  · subst e
    rw [hx] at hp; cases hp
    exact Int.le_trans (hk c y h1 h2 hc) hle
  · exact h.rest p c x y h0 e h1 h2 hp hc
theorem HeapX.down (h : HeapX L f lo hi r) (hlr : lo ≤ r) (hkr : k = 2 * r + 1 ∨ k = 2 * r + 2) (hkh : k < hi) (hx : L[f + r]? = some xr) (hy : L[f + k]? = some yk) (hk : ∀ c y, (c = 2 * r + 1 ∨ c = 2 * r + 2) → c < hi → L[f + c]? = some y → kK y ≤ kK yk) (hlt : kK xr ≤ kK yk) : HeapX ((L.set (f + r) yk).set (f + k) xr) f lo hi k := by
  refine ⟨fun p c x y h0 h1 h2 h3 hp hc => ?_, fun p c x y h0 h1 h2 h3 hp hc => ?_⟩
  · rw [swap_at hx hy] at hp hc
    rw [if_neg (by omega)] at hp
    by_cases e : p = r
    · subst e
      rw [if_pos rfl] at hp; cases hp
      split at hc
      · cases hc; exact hlt
      · rw [if_neg (by omega)] at hc
        exact hk c y h2 h3 hc
    · rw [if_neg (by omega)] at hp
      split at hc
      · exfalso; omega
      · split at hc
        · cases hc
          obtain rfl : c = r := by omega
          exact h.over p k x yk h0 h2 hkr hkh hp hy
        · exact h.rest p c x y h0 e h2 h3 hp hc
  · obtain rfl : p = r := by omega
    rw [swap_at hx hy] at hp hc
    rw [if_neg (by omega), if_pos rfl] at hp
    cases hp
    rw [if_neg (by omega), if_neg (by omega)] at hc
    exact h.rest k c yk y (by omega) (by omega) h2 h3 hy hc
theorem Heap.top (h : Heap L f 0 hi) {x : Dk} (hx : L[f]? = some x) : ∀ n c y, c ≤ n → c < hi → L[f + c]? = some y → kK y ≤ kK x
  | 0, c, y, h0, h1, hy => by
    obtain rfl : c = 0 := by omega
    rw [Nat.add_zero, hx] at hy; cases hy; exact Int.le_refl _
  | n + 1, c, y, h0, h1, hy => by
    by_cases e : c = 0
    · subst e; rw [Nat.add_zero, hx] at hy; cases hy; exact Int.le_refl _
    · obtain ⟨p, hp⟩ : ∃ p, c = 2 * p + 1 ∨ c = 2 * p + 2 := ⟨(c - 1) / 2, by omega⟩
      have hl := (List.getElem?_eq_some_iff.1 hy).1
      obtain ⟨z, hz⟩ := get_of_lt (xs := L) (k := f + p) (by omega)
      exact Int.le_trans (h p c z y (Nat.zero_le _) hp h1 hz hy) (Heap.top h hx n p z (by omega) (by omega) hz)
end
/-- the heap's part, what is in order behind it, and each of the one at most each of the other -/
structure HS (L : List Dk) (a m b : Nat) : Prop where
  heap : Heap L a 0 m
  srt : Srt (a + m) b L
  le : ∀ p q x y, a ≤ p → p < a + m → a + m ≤ q → q < b → L[p]? = some x → L[q]? = some y → kK x ≤ kK y
theorem HS.next {L L2 : List Dk} {a m b : Nat} {x y : Dk} (h : HS L a (m + 1) b) (hx : L[a]? = some x) (hy : L[a + m]? = some y) (hb : a + m < b) (hs : Sh (a + 0) (a + m) ((L.set a y).set (a + m) x) L2) (hh : Heap L2 a 0 m) : HS L2 a m b := by
  have hat := swap_at hx hy
  have hm : L2[a + m]? = some x := by rw [hs.out (by omega), hat, if_pos rfl]
  have hr : ∀ q, a + m < q → L2[q]? = L[q]? := fun q hq => by rw [hs.out (by omega), hat, if_neg (by omega), if_neg (by omega)]
  refine ⟨hh, ?_, ?_⟩
  · intro p q u w h0 h1 h2 hp hq
    rw [hr q (by omega)] at hq
    by_cases e : p = a + m
    · subst e; rw [hm] at hp; cases hp
      exact h.le a q _ _ (Nat.le_refl _) (by omega) (by omega) h2 hx hq
    · rw [hr p (by omega)] at hp
      exact h.srt p q u w (by omega) h1 h2 hp hq
  · intro p q u w h0 h1 h2 h3 hp hq
    obtain ⟨j, j1, j2, j3⟩ := hs.inn (i := p) (by omega) h1
    rw [hp, hat, if_neg (by omega)] at j3
    have hu : ∃ i, i < m + 1 ∧ L[a + i]? = some u := by
      split at j3
      · exact ⟨m, by omega, by rw [hy]; exact j3.symm⟩
      · exact ⟨j - a, by omega, by rw [show a + (j - a) = j by omega]; exact j3.symm⟩
    obtain ⟨i, hi, hiu⟩ := hu
    by_cases e : q = a + m
    · subst e; rw [hm] at hq; cases hq
      exact h.heap.top hx (m + 1) i u (by omega) hi hiu
    · rw [hr q (by omega)] at hq
      exact h.le (a + i) q u w (by omega) (by omega) (by omega) h3 hiu hq
theorem Heap.swapped {L : List Dk} {a m : Nat} {x y : Dk} (h : Heap L a 0 (m + 1)) (hx : L[a]? = some x) (hy : L[a + m]? = some y) : Heap ((L.set a y).set (a + m) x) a (0 + 1) m := fun p c u w h0 h1 h2 hp hc => by
  rw [swap_at hx hy, if_neg (by omega), if_neg (by omega)] at hp hc
  exact h p c u w (Nat.zero_le _) h1 (by omega) hp hc
theorem Heap.mono_ {L : List Dk} {f lo lo' hi : Nat} (h0 : lo ≤ lo') (h : Heap L f lo hi) : Heap L f lo' hi := fun p c x y q => h p c x y (by omega)
end Go.Proofs.Ytfpkfbffpkjgbaa
