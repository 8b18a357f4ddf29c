/- Small functions of the laws, by what they answer. Over this seat's program. No condition. -/
import Derived.Test.YtffnjojdjbdfcaaS4
import Derived.Test.YtffnjojdjbdfcaaProg
import Derived.BigRegion
import Derived.Outline
namespace Go.Proofs.Ytffnjojdjbdfcaa
open Go.RowKit
set_option linter.unusedVariables false

def posI : List Int → Int → Int
  | [], _ => -1
  | y :: l, x => if y = x then 0 else if posI l x < 0 then -1 else posI l x + 1
theorem posI_ge : ∀ (l : List Int) (x : Int), -1 ≤ posI l x ∧ posI l x < l.length
  | [], _ => by simp [posI]
  | y :: l, x => by
    have := posI_ge l x
    unfold posI
    rw [List.length_cons]
    repeat' split
    all_goals omega
theorem posI_none : ∀ {l : List Int} {x : Int}, x ∉ l → posI l x = -1
  | [], _, _ => rfl
  | y :: l, x, h => by
    simp only [List.mem_cons, not_or] at h
    unfold posI
    rw [if_neg (fun e => h.1 e.symm), posI_none h.2]; rfl
theorem posI_at : ∀ {l : List Int} {x : Int} {j : Nat}, l[j]? = some x → x ∉ l.take j → posI l x = j
  | [], _, _, h, _ => by simp at h
  | y :: l, x, 0, h, _ => by simp at h; unfold posI; rw [if_pos h]; rfl
  | y :: l, x, j + 1, h, hn => by
    simp only [List.take_succ_cons, List.mem_cons, not_or] at hn
    have := posI_at (l := l) (x := x) (j := j) (by simpa using h) hn.2
    unfold posI
    rw [if_neg (fun e => hn.1 e.symm), this, if_neg (by omega)]; omega
theorem first_at : ∀ {l : List Int} {x : Int}, x ∈ l → ∃ a b, l = a ++ x :: b ∧ x ∉ a
  | [], _, h => by cases h
  | y :: l, x, h => by
    by_cases ey : y = x
    · subst ey; exact ⟨[], l, rfl, by simp⟩
    · have hm' : x ∈ l := by cases h with | head => exact absurd rfl ey | tail _ h => exact h
      obtain ⟨a, b, e, h2⟩ := first_at hm'
      exact ⟨y :: a, b, by rw [e]; rfl, by simp only [List.mem_cons, not_or]; exact ⟨fun e => ey e.symm, h2⟩⟩
theorem posI_neg {l : List Int} {x : Int} : posI l x < 0 ↔ x ∉ l := by
  constructor
  · intro h hm
    obtain ⟨a, b, e, hn⟩ := first_at hm
    have := posI_at (l := l) (x := x) (j := a.length) (by rw [e]; simp) (by rw [e]; simpa using hn)
    omega
  · intro h; rw [posI_none h]; omega
theorem posI_app {a b : List Int} {x : Int} (h : x ∉ a) : posI (a ++ x :: b) x = a.length := posI_at (by simp) (by simpa using h)

def eqI (xs ys : List Int) : Bool := decide (xs = ys)
theorem eqI_iff {xs ys : List Int} : eqI xs ys = true ↔ xs = ys := by unfold eqI; simp
theorem eqI_of {xs ys : List Int} (h : xs = ys) : eqI xs ys = true := eqI_iff.2 h
theorem eqI_no {xs ys : List Int} (h : xs ≠ ys) : eqI xs ys = false := by unfold eqI; simp [h]
def begI (xs ys : List Int) : Bool := decide (xs <+: ys)
theorem begI_iff {xs ys : List Int} : begI xs ys = true ↔ xs <+: ys := by unfold begI; simp
theorem begI_of {xs ys : List Int} (h : xs <+: ys) : begI xs ys = true := begI_iff.2 h
def insI (n : Int) (xs : List Int) : Bool := xs.all fun x => decide (0 ≤ x) && decide (x < n)
theorem insI_iff {n : Int} {xs : List Int} : insI n xs = true ↔ ∀ x ∈ xs, 0 ≤ x ∧ x < n := by unfold insI; simp [List.all_eq_true]
def onceI : List Int → Bool
  | [] => true
  | x :: l => !l.contains x && onceI l
theorem onceI_iff : ∀ {l : List Int}, onceI l = true ↔ l.Nodup
  | [] => by simp [onceI]
  | x :: l => by unfold onceI; rw [List.nodup_cons, ← onceI_iff (l := l)]; simp
theorem nodup_take_of {l : List Int} {j : Nat} {x : Int} (h : l[j]? = some x) (hp : posI l x = j) : x ∉ l.take j := by
  intro hm
  obtain ⟨i, hi⟩ := List.getElem?_of_mem hm
  rw [List.getElem?_take] at hi
  split at hi
  · rename_i hlt
    have key : ∀ (l : List Int) (i : Nat), l[i]? = some x → posI l x ≤ i := by
      intro l
      induction l with
      | nil => intro i h; simp at h
      | cons y l ih =>
        intro i h
        unfold posI
        split
        · omega
        · cases i with
          | zero => simp at h; rename_i hne; exact absurd h hne
          | succ i => have := ih i (by simpa using h); split <;> omega
    have := key l i hi
    omega
  · cases hi
theorem nodup_of_pos {l : List Int} (h : ∀ (j : Nat) (x : Int), l[j]? = some x → posI l x = j) : l.Nodup := by
  unfold List.Nodup
  rw [List.pairwise_iff_getElem]
  intro i j hi hj hij e
  have h1 := h j _ (List.getElem?_eq_getElem hj)
  have h2 := h i _ (List.getElem?_eq_getElem hi)
  rw [e, h1] at h2
  omega
theorem pos_of_nodup {l : List Int} (h : l.Nodup) {j : Nat} {x : Int} (hx : l[j]? = some x) : posI l x = j := by
  refine posI_at hx fun hm => ?_
  obtain ⟨i, hi⟩ := List.getElem?_of_mem hm
  rw [List.getElem?_take] at hi
  split at hi
  · rename_i hlt
    unfold List.Nodup at h
    rw [List.pairwise_iff_getElem] at h
    obtain ⟨q1, q2⟩ := List.getElem?_eq_some_iff.1 hi
    obtain ⟨q3, q4⟩ := List.getElem?_eq_some_iff.1 hx
    exact h i j q1 q3 hlt (q2.trans q4.symm)
  · cases hi
theorem Sl.get' {α : Type} {f : α → Value} {w : World} {a : Option Addr} {n cap : Nat} {xs : List α} (h : Sl f w (.slice a n cap) xs) {j : Nat} {x : α} (hx : xs[j]? = some x) : ∃ b off, a = some ⟨b, off, none⟩ ∧ b < w.heap.size ∧ w.cell? ⟨b, off + j, none⟩ = some (f x) := by
  obtain ⟨a', cap', hv, _, _, hc⟩ := h
  cases hv
  exact hc j x hx
theorem Sl.form {α : Type} {f : α → Value} {w : World} {v : Value} {xs : List α} (h : Sl f w v xs) : ∃ a cap, v = .slice a xs.length cap ∧ xs.length ≤ 140737488355328 := by
  obtain ⟨a, cap, e, hm, _⟩ := h; exact ⟨a, cap, e, hm⟩
theorem Sl.take {α : Type} {f : α → Value} {w : World} {a : Option Addr} {n cap : Nat} {xs : List α} (h : Sl f w (.slice a n cap) xs) {k : Nat} (hk : k ≤ xs.length) : Sl f w (.slice a k cap) (xs.take k) := by
  obtain ⟨a', cap', e, hm, hn, hc⟩ := h
  cases e
  refine ⟨a, cap, by rw [List.length_take, Nat.min_eq_left hk], by rw [List.length_take]; omega, hn, fun j x hx => ?_⟩
  have : xs[j]? = some x := by
    rw [List.getElem?_take] at hx
    split at hx
    · exact hx
    · cases hx
  exact hc j x this
theorem SlS.nats {w : World} {v : Value} {xs : List Nat} (h : SlS (fun x : Nat => [Value.int .i64 x]) 1 w v xs) : SlI w v (xs.map fun x : Nat => (x : Int)) := Sl.map (f := Value.int .i64) h.one
theorem calls_world {P : Program} {f : FuncId} {args : Array Value} {Q : Ending → World → Prop} {w : World} (p : World → Prop) (hp : p w) (h : ∀ w', p w' → Calls P f args w' Q) : Calls P f args w Q := h w hp
/-- a slice of what was written out -/
theorem Sl.lit {w : World} {e : TypeId} (xs : List Int) (cs : Array Value) (h : cs.toList = xs.map (Value.int .i64)) (hl : xs.length ≤ 140737488355328) : SlI (w.alloc (.cells cs e)) (.slice (some ⟨w.heap.size, 0, none⟩) xs.length xs.length) xs := by
  refine ⟨_, _, rfl, hl, (fun h => by cases h), fun j x hx => ⟨_, _, rfl, by simp, ?_⟩⟩
  rw [World.cell?_alloc_at _ _ _ _ rfl, Nat.zero_add, ← Array.getElem?_toList, h, List.getElem?_map, hx]; rfl
theorem insI_two {m : Nat} {i j : Int} (h : insI m [i, j] = true) : ∃ i' j' : Nat, i = i' ∧ j = j' ∧ i' < m ∧ j' < m := by
  have := insI_iff.1 h
  obtain ⟨h1, h2⟩ := this i (by simp)
  obtain ⟨h3, h4⟩ := this j (by simp)
  obtain ⟨i', rfl⟩ := Int.eq_ofNat_of_zero_le h1
  obtain ⟨j', rfl⟩ := Int.eq_ofNat_of_zero_le h3
  exact ⟨i', j', rfl, rfl, by omega, by omega⟩
theorem Sl.cut {α : Type} {f : α → Value} {w : World} {a : Option Addr} {n c k : Nat} {xs : List α} (h : Sl f w (.slice a n c) xs) (hk : k ≤ n) (hc : n ≤ c) : Sl f w (.slice (a.map fun x => x.add k) (n - k) (c - k)) (xs.drop k) := by
  obtain ⟨a', c', e, hm, hn, hx⟩ := h
  cases e
  refine ⟨_, _, by rw [List.length_drop], by rw [List.length_drop]; omega, fun e => ?_, fun j x hj => ?_⟩
  · cases a with
    | none => rw [hn rfl]; omega
    | some a => cases e
  · rw [List.getElem?_drop] at hj
    obtain ⟨b, off, rfl, hlt, hcell⟩ := hx _ _ hj
    refine ⟨b, off + k, by simp only [Option.map_some]; congr 1; unfold Addr.add; split <;> simp_all, hlt, ?_⟩
    rw [Nat.add_assoc]; exact hcell
theorem Sl.cut0 {α : Type} {f : α → Value} {w : World} {a : Option Addr} {n c k : Nat} {xs : List α} (h : Sl f w (.slice a n c) xs) (hk : k ≤ n) (hc : n ≤ c) (e : c = k) : Sl f w (.slice a (n - k) 0) (xs.drop k) := by
  obtain ⟨a', c', e', hm, hn, hx⟩ := h
  cases e'
  refine ⟨_, _, by rw [List.length_drop], by rw [List.length_drop]; omega, fun e => by omega, fun j x hj => ?_⟩
  rw [List.getElem?_drop] at hj
  have := (List.getElem?_eq_some_iff.1 hj).1
  omega

set_option maxHeartbeats 1000000 in
theorem inside_any {w : World} {v : Value} {xs : List Int} (n : Int) (h : SlI w v xs) : Calls Try.prog 18 #[.int .i64 n, v] w fun e w' => e = .returned (.bool (insI n xs)) ∧ w = w' := by
  obtain ⟨a, cap, rfl, hm⟩ := h.form
  have HS := Lib.hid h
  clear h
  go_enter Try.func18, Try.ntmps18
  go_wp2_with fail
  go_loop [9] (fun i => ∃ j : Nat, j ≤ xs.length ∧ i = .int .i64 j ∧ ∀ x ∈ xs.take j, 0 ≤ x ∧ x < n) (fun i => xs.length - (intOf i).toNat)
  case atStart => exact ⟨0, Nat.zero_le _, rfl, by simp⟩
  case round =>
    obtain ⟨j, hj, rfl, hno⟩ := hrel
    by_cases hlt : j < xs.length
    · obtain ⟨y, hy⟩ := get_of_lt hlt
      obtain ⟨b0, off, rfl, _, c0⟩ := HS.out.get' hy
      have i0 : (0 : Int) ≤ (j : Int) := by omega
      have i1 : (j : Int) < (xs.length : Int) := by omega
      by_cases e : 0 ≤ y ∧ y < n
      · obtain ⟨e1, e2⟩ := id e
        have HT := Lib.hid (show ∀ x ∈ xs.take (j + 1), 0 ≤ x ∧ x < n by
          intro x hx
          rw [take_of hy, List.mem_append] at hx
          rcases hx with hx | hx
          · exact hno x hx
          · simp at hx; subst hx; exact e)
        clear hy hno e
        go_wp2_with fail
        go_round
        case rel => exact ⟨j + 1, by omega, by go_num, HT.out⟩
        case measure => simp [intOf]; omega
      · have HT := Lib.hid (show insI n xs = false by
          cases hh : insI n xs
          · rfl
          · exact absurd (insI_iff.1 hh y (List.mem_of_getElem? hy)) e)
        clear hy hno
        by_cases e1 : y < 0
        · clear e
          go_wp2_with fail
          go_ret
          exact ⟨ret_bool HT.out.symm, rfl⟩
        · have e2 : n ≤ y := by omega
          clear e
          go_wp2_with fail
          go_ret
          exact ⟨ret_bool HT.out.symm, rfl⟩
    · obtain rfl : j = xs.length := by omega
      rw [List.take_length] at hno
      have HT := Lib.hid (show insI n xs = true from insI_iff.2 hno)
      clear hno
      go_wp2_with fail
      go_ret
      exact ⟨ret_bool HT.out.symm, rfl⟩

theorem inside_b {w : World} {v : Value} {xs : List Int} (n : Int) (h : SlS (fun x : Int => [Value.int .i64 x]) 1 w v xs) : Calls Try.prog 18 #[.int .i64 n, v] w fun e w' => e = .returned (.bool (insI n xs)) ∧ Below w.heap.size w w' :=
  (inside_any n (SlS.one (g := Value.int .i64) h)).mono fun e w' ⟨he, hw⟩ => ⟨he, by rw [← hw]; exact Below.refl _ _⟩
theorem insI_yes {n : Int} {xs : List Int} (h : ∀ x ∈ xs, 0 ≤ x ∧ x < n) : insI n xs = true := insI_iff.2 h
end Go.Proofs.Ytffnjojdjbdfcaa
