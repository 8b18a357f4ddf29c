/- Scalars. -/
import Derived.Test.YtffnjojdjbdfcaaKA3
import Derived.Test.YtffnjojdjbdfcaaS10
import Derived.Test.YtffnjojdjbdfcaaKH
namespace Go.Proofs.Ytffnjojdjbdfcaa
open Go.RowKit Go.Shelf
set_option linter.unusedVariables false
attribute [local go_sem] Oper.semAt_some

theorem marks_zero {P : Program} {fn : Func} {R : Ending → World → Prop} {tmps : Array Value} {w : World} {v : Value} (hr : ∀ w', (results fn tmps).run P w' = .ok v w') (h : R (.returned v) w) : bodyPostM Fence.wide 0 P fn R .ret { tmps := tmps, defers := [] } w := ⟨_, hr w, h⟩

theorem behindf_any {W w : World} {a : Option Addr} {n c : Nat} {R : Hp} (H : Sat W w R) :
    Calls Try.prog 32 #[.slice a n c] w fun e w' => ∃ Bl, e = .returned (.func (.func 34) #[] #[.pointer (some ⟨Bl, 0, none⟩)]) ∧ Sat W w' (Hp.rec_ Bl [.slice a n c] * R) := by
  have H1 := Lib.hid (H.allocAt #[.slice a n c] 22 [.slice a n c] rfl (b := w.heap.size) rfl)
  clear H
  go_enter Try.func32, Try.ntmps32
  go_wp2_with fail
  go_ret
  exact ⟨_, rfl, H1.out⟩

/-- a variable that holds an own list -/
def boxS (b : Nat) (xs : List Int) : Hp := Hp.ex fun v => Hp.rec_ b [v] * Hp.own SZ 1 v xs
/-- the greatest of what stands at some places -/
def mx (sc : List Int) (js : List Int) : Int := js.foldl (fun x j => max x (sc.getD j.toNat 0)) 0
theorem mx_snoc (sc js : List Int) (j : Int) : mx sc (js ++ [j]) = max (mx sc js) (sc.getD j.toNat 0) := by simp [mx, List.foldl_append]
theorem mx_le {sc : List Int} {m : Int} (h0 : 0 ≤ m) (h : ∀ x ∈ sc, x ≤ m) (js : List Int) : 0 ≤ mx sc js ∧ mx sc js ≤ m := by
  have key : ∀ (js : List Int) (a : Int), 0 ≤ a → a ≤ m → 0 ≤ js.foldl (fun x j => max x (sc.getD j.toNat 0)) a ∧ js.foldl (fun x j => max x (sc.getD j.toNat 0)) a ≤ m := by
    intro js
    induction js with
    | nil => intro a ha hb; exact ⟨ha, hb⟩
    | cons j js ih =>
      intro a ha hb
      have : sc.getD j.toNat 0 ≤ m := by
        rw [List.getD_eq_getElem?_getD]
        cases hx : sc[j.toNat]? with
        | none => simpa using h0
        | some x => exact h x (List.mem_of_getElem? hx)
      exact ih _ (by show 0 ≤ max _ _; omega) (by show max _ _ ≤ m; omega)
  exact key js 0 (Int.le_refl _) h0
/-- the first k numbers -/
def scalL (l : List Ev) : Nat → List Int
  | 0 => []
  | k + 1 => scalL l k ++ [mx (scalL l k) (fromL l k) + 1]
theorem scalL_len (l : List Ev) : ∀ k, (scalL l k).length = k
  | 0 => rfl
  | k + 1 => by simp [scalL, scalL_len l k]
theorem scalL_bd (l : List Ev) : ∀ k, ∀ x ∈ scalL l k, 1 ≤ x ∧ x ≤ k
  | 0, x, hx => by cases hx
  | k + 1, x, hx => by
    have ih := scalL_bd l k
    simp only [scalL, List.mem_append, List.mem_singleton] at hx
    rcases hx with hx | hx
    · have := ih x hx; omega
    · have := mx_le (m := (k : Int)) (by omega) (fun y hy => (ih y hy).2) (fromL l k); omega
theorem lastOf_lt {l : List Ev} {w : Int} : ∀ {k j : Nat}, lastOf l k w = some j → j < k
  | 0, j, h => by cases h
  | k + 1, j, h => by
    unfold lastOf at h
    split at h
    · split at h
      · cases h; omega
      · have := lastOf_lt h; omega
    · have := lastOf_lt h; omega
theorem from_lt {n : Int} {l : List Ev} (hok : OkE n l) (k : Nat) : ∀ j ∈ fromL l k, ∃ j' : Nat, j = j' ∧ j' < k := by
  intro j hj
  unfold fromL at hj
  cases he : l[k]? with
  | none => rw [he] at hj; cases hj
  | some e =>
    rw [he] at hj
    simp only [fromE, List.mem_append] at hj
    rcases hj with hj | hj
    · cases hl : lastOf l k e.who with
      | none => rw [hl] at hj; cases hj
      | some i => rw [hl] at hj; simp at hj; exact ⟨i, hj, lastOf_lt hl⟩
    · split at hj
      · rename_i h3
        simp at hj
        obtain ⟨q, s, h1, h2, _⟩ := (hok.all k e he).2.2.2 h3
        exact ⟨q, by rw [hj, h1], h2⟩
      · cases hj
theorem from_len (l : List Ev) (k : Nat) : (fromL l k).length ≤ 2 := by
  unfold fromL fromE
  split
  · rw [List.length_append]
    split <;> split <;> simp
  · simp

end Go.Proofs.Ytffnjojdjbdfcaa
