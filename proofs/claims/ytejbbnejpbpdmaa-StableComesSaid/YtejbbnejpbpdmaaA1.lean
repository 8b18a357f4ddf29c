/- The walks of the small functions of the ring that comes right: its checks, what is ahead, who may move. For every input that reads as numbers. -/
import Derived.Test.YtejbbnejpbpdmaaProg
import Derived.Test.YtejbbnejpbpdmaaL1
namespace Go.Proofs.Ytejbbnejpbpdmaa
open Go.RowKit

def okStates (k : Int) (xs : List Int) : Bool := xs.all fun s => decide (0 ≤ s) && decide (s < k)
def checkF (k : Int) (xs : List Int) : Int :=
  if xs.length < 2 ∨ 6 < xs.length ∨ k < 2 ∨ 1000 < k then 1 else if okStates k xs then 0 else 2

theorem okStates_nil (k : Int) : okStates k [] = true := rfl
theorem okStates_no {k x : Int} {xs : List Int} (h : x < 0 ∨ k ≤ x) : okStates k (x :: xs) = false := by
  simp only [okStates, List.all_cons]
  rcases h with h | h
  · rw [decide_eq_false (show ¬ 0 ≤ x by omega)]; rfl
  · rw [decide_eq_false (show ¬ x < k by omega)]; simp
theorem okStates_yes {k x : Int} {xs : List Int} (h : ¬ x < 0) (h' : x < k) : okStates k (x :: xs) = okStates k xs := by
  simp only [okStates, List.all_cons]
  rw [decide_eq_true (show 0 ≤ x by omega), decide_eq_true h']; rfl

set_option maxHeartbeats 400000 in
theorem stableCheck_any (k : Int) (v : Value) (xs : List Int) (w : World) (h : SlI w v xs) :
    Calls Try.prog 14 #[.int .i64 k, v] w fun e w' => e = .returned (.int .i64 (checkF k xs)) ∧ w = w' := by
  obtain ⟨a, cap, rfl, hm, hnn, hc⟩ := h
  by_cases hg : xs.length < 2 ∨ 6 < xs.length ∨ k < 2 ∨ 1000 < k
  · have hr : checkF k xs = 1 := by simp [checkF, hg]
    have HR := Lib.hid hr
    clear hr
    rcases hg with hg | hg | hg | hg <;> go_enter Try.func14, Try.ntmps14 <;> go_wp2
    all_goals (go_ret; exact ⟨ret_int HR.out.symm, rfl⟩)
  · obtain ⟨g1, g2, g3, g4⟩ : 2 ≤ xs.length ∧ xs.length ≤ 6 ∧ 2 ≤ k ∧ k ≤ 1000 := by omega
    have hr : checkF k xs = if okStates k xs then 0 else 2 := by simp only [checkF, hg, if_false]
    have HR := Lib.hid hr
    clear hr hg
    go_enter Try.func14, Try.ntmps14
    go_wp2
    go_loop [25] (fun i => ∃ m : Nat, m ≤ xs.length ∧ i = .int .i64 m ∧ okStates k xs = okStates k (xs.drop m)) (fun i => xs.length - (intOf i).toNat)
    case atStart => exact ⟨0, Nat.zero_le _, rfl, by simp⟩
    case round =>
      obtain ⟨m, hmm, rfl, hi⟩ := hrel
      have HI := Lib.hid hi
      clear hi
      by_cases hlt : m < xs.length
      · obtain ⟨x, hx⟩ := get_of_lt hlt
        obtain ⟨b, off, rfl, hb, hcell⟩ := hc m x hx
        have HX := Lib.hid (drop_of hx)
        clear hx hc
        go_wp2
        · go_ret; exact ⟨ret_int (by rw [HR.out, HI.out, HX.out, okStates_no (.inl (by assumption))]; rfl), rfl⟩
        · go_ret; exact ⟨ret_int (by rw [HR.out, HI.out, HX.out, okStates_no (.inr (by assumption))]; rfl), rfl⟩
        · go_round
          case rel => exact ⟨m + 1, by omega, by go_num, by rw [HI.out, HX.out, okStates_yes (by assumption) (by assumption)]⟩
          case measure => simp [intOf]; omega
      · go_wp2
        go_ret
        exact ⟨ret_int (by rw [HR.out, HI.out, List.drop_eq_nil_of_le (by omega)]; rfl), rfl⟩

theorem states_any (k : Int) (v : Value) (xs : List Int) (w : World) (h : SlI w v xs) :
    Calls Try.prog 8 #[.int .i64 k, v] w fun e w' => e = .returned (.bool (checkF k xs == 0)) ∧ w = w' := by
  go_enter Try.func8, Try.ntmps8
  go_wp2_with (go_at_call 14; refine (stableCheck_any _ _ _ _ h).mono ?_; rintro e w' ⟨rfl, rfl⟩)
  go_ret
  exact ⟨rfl, rfl⟩

theorem check1_any (s k : Int) (p : Addr) (w : World) (hk : w.cell? p = some (.int .i64 k)) :
    Calls Try.prog 19 #[.int .i64 s, .pointer (some p)] w fun e w' => e = .returned (.bool (decide (s < 0) || decide (k ≤ s))) ∧ w = w' := by
  by_cases h1 : s < 0
  · go_enter Try.func19, Try.ntmps19
    go_wp2
    go_ret
    exact ⟨by simp [h1], rfl⟩
  · go_enter Try.func19, Try.ntmps19
    go_wp2
    go_ret
    exact ⟨by simp; omega, rfl⟩

/-- the first place at which p holds, from k on; -1: nowhere -/
def idx {α : Type} (p : α → Bool) : List α → Int → Int
  | [], _ => -1
  | x :: xs, k => if p x then k else idx p xs (k + 1)

theorem idx_ge {α : Type} (p : α → Bool) (xs : List α) (k : Int) (hk : 0 ≤ k) : decide (0 ≤ idx p xs k) = xs.any p := by
  induction xs generalizing k with
  | nil => rfl
  | cons x xs ih =>
    simp only [idx, List.any_cons]
    by_cases hp : p x = true
    · simp [hp, hk]
    · simp only [hp, Bool.false_eq_true, if_false, Bool.false_or]
      exact ih (k + 1) (by omega)

set_option maxHeartbeats 400000 in
theorem indexFunc_any (f : Nat) (hcf : ∀ args w, (callFunc f args).run Try.prog w = .ok (.enter f args) w) (cs : Array Value) (p : Int → Bool) (v : Value) (xs : List Int) (w : World) (h : SlI w v xs)
    (hf : ∀ x : Int, Calls Try.prog f (#[.int .i64 x] ++ cs) w fun e w' => e = .returned (.bool (p x)) ∧ w = w') :
    Calls Try.prog 21 #[v, .func (.func f) #[] cs] w fun e w' => e = .returned (.int .i64 (idx p xs 0)) ∧ w = w' := by
  obtain ⟨a, cap, rfl, hm, hnn, hc⟩ := h
  go_enter Try.func21, Try.ntmps21
  go_wp2
  go_loop [8] (fun i => ∃ k : Nat, k ≤ xs.length ∧ i = .int .i64 k ∧ idx p xs 0 = idx p (xs.drop k) k) (fun i => xs.length - (intOf i).toNat)
  case atStart => exact ⟨0, Nat.zero_le _, rfl, by simp⟩
  case round =>
    obtain ⟨k, hk, rfl, hi⟩ := hrel
    have HI := Lib.hid hi
    clear hi
    by_cases hlt : k < xs.length
    · obtain ⟨x, hx⟩ := get_of_lt hlt
      obtain ⟨b, off, rfl, hb, hcell⟩ := hc k x hx
      have HX := Lib.hid (drop_of hx)
      clear hx hc
      have HF := Lib.hid (hf x)
      clear hf
      cases hp : p x
      · have HP := Lib.hid hp
        rw [hp] at HF
        clear hp
        go_wp2_with (refine HF.out.mono ?_; rintro e w' ⟨rfl, rfl⟩)
        go_round
        case rel => exact ⟨k + 1, by omega, by go_num, by rw [HI.out, HX.out]; simp [idx, HP.out]⟩
        case measure => simp [intOf]; omega
      · have HP := Lib.hid hp
        rw [hp] at HF
        clear hp
        go_wp2_with (refine HF.out.mono ?_; rintro e w' ⟨rfl, rfl⟩)
        go_ret
        exact ⟨ret_int (by rw [HI.out, HX.out]; simp [idx, HP.out]), rfl⟩
    · go_wp2
      go_ret
      exact ⟨ret_int (by rw [HI.out, List.drop_eq_nil_of_le (by omega)]; rfl), rfl⟩

theorem containsFunc_any (f : Nat) (hcf : ∀ args w, (callFunc f args).run Try.prog w = .ok (.enter f args) w) (cs : Array Value) (p : Int → Bool) (v : Value) (xs : List Int) (w : World) (h : SlI w v xs)
    (hf : ∀ x : Int, Calls Try.prog f (#[.int .i64 x] ++ cs) w fun e w' => e = .returned (.bool (p x)) ∧ w = w') :
    Calls Try.prog 18 #[v, .func (.func f) #[] cs] w fun e w' => e = .returned (.bool (xs.any p)) ∧ w = w' := by
  have HF := Lib.hid (indexFunc_any f hcf cs p v xs w h hf)
  have hx := idx_ge p xs 0 (by omega)
  generalize idx p xs 0 = i at *
  have HX := Lib.hid hx
  clear hf hcf hx
  go_enter Try.func18, Try.ntmps18
  go_wp2_with (go_at_call 21; refine HF.out.mono ?_; rintro e w' ⟨rfl, rfl⟩)
  go_ret
  exact ⟨ret_bool HX.out, rfl⟩

theorem cf19 : ∀ args w, (callFunc 19 args).run Try.prog w = .ok (.enter 19 args) w := fun _ _ => by kernel_rfl

end Go.Proofs.Ytejbbnejpbpdmaa
