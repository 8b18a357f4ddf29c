/- The walks of the statements' own small functions: inside, position, once. -/
import Derived.Test.YtejbbnejpbpdmaaA3
namespace Go.Proofs.Ytejbbnejpbpdmaa
open Go.RowKit

def insideF (many : Int) (xs : List Int) : Bool := xs.all fun x => decide (0 ≤ x) && decide (x < many)
theorem insideF_eq (many : Int) (xs : List Int) : insideF many xs = okStates many xs := rfl

set_option maxHeartbeats 400000 in
theorem inside_any (many : Int) (v : Value) (xs : List Int) (w : World) (h : SlI w v xs) :
    Calls Try.prog 9 #[.int .i64 many, v] w fun e w' => e = .returned (.bool (insideF many xs)) ∧ w = w' := by
  obtain ⟨a, cap, rfl, hm, hnn, hc⟩ := h
  rw [insideF_eq]
  go_enter Try.func9, Try.ntmps9
  go_wp2
  go_loop [9] (fun i => ∃ m : Nat, m ≤ xs.length ∧ i = .int .i64 m ∧ okStates many xs = okStates many (xs.drop m)) (fun i => xs.length - (intOf i).toNat)
  case atStart => exact ⟨0, Nat.zero_le _, rfl, by simp⟩
  case round =>
    obtain ⟨m, hmm, rfl, hi⟩ := hrel
    have HI := Lib.hid hi
    clear hi
    by_cases hlt : m < xs.length
    · obtain ⟨x, hx⟩ := get_of_lt hlt
      obtain ⟨b, off, rfl, hb, hcell⟩ := hc m x hx
      have HX := Lib.hid (drop_of hx)
      clear hx hc
      go_wp2
      · go_ret; exact ⟨ret_bool (by rw [HI.out, HX.out, okStates_no (.inl (by assumption))]), rfl⟩
      · go_ret; exact ⟨ret_bool (by rw [HI.out, HX.out, okStates_no (.inr (by assumption))]), rfl⟩
      · go_round
        case rel => exact ⟨m + 1, by omega, by go_num, by rw [HI.out, HX.out, okStates_yes (by assumption) (by assumption)]⟩
        case measure => simp [intOf]; omega
    · go_wp2
      go_ret
      exact ⟨ret_bool (by rw [HI.out, List.drop_eq_nil_of_le (by omega)]; rfl), rfl⟩

def posF (xs : List Int) (x : Int) : Int := idx (fun y => y == x) xs 0

set_option maxHeartbeats 400000 in
theorem position_any (v : Value) (xs : List Int) (x : Int) (w : World) (h : SlI w v xs) :
    Calls Try.prog 17 #[v, .int .i64 x] w fun e w' => e = .returned (.int .i64 (posF xs x)) ∧ w = w' := by
  obtain ⟨a, cap, rfl, hm, hnn, hc⟩ := h
  go_enter Try.func17, Try.ntmps17
  go_wp2
  go_loop [5] (fun i => ∃ k : Nat, k ≤ xs.length ∧ i = .int .i64 k ∧ posF xs x = idx (fun y => y == x) (xs.drop k) k) (fun i => xs.length - (intOf i).toNat)
  case atStart => exact ⟨0, Nat.zero_le _, rfl, by simp [posF]⟩
  case round =>
    obtain ⟨k, hk, rfl, hi⟩ := hrel
    have HI := Lib.hid hi
    clear hi
    by_cases hlt : k < xs.length
    · obtain ⟨y, hy⟩ := get_of_lt hlt
      obtain ⟨b, off, rfl, hb, hcell⟩ := hc k y hy
      have HX := Lib.hid (drop_of hy)
      clear hy hc
      by_cases hp : y = x
      · subst hp
        go_wp2
        go_ret
        exact ⟨ret_int (by rw [HI.out, HX.out]; simp [idx]), rfl⟩
      · have hp' : (y == x) = false := by simpa using hp
        go_wp2
        go_round
        case rel => exact ⟨k + 1, by omega, by go_num, by rw [HI.out, HX.out]; simp [idx, hp]⟩
        case measure => simp [intOf]; omega
    · go_wp2
      go_ret
      exact ⟨ret_int (by rw [HI.out, List.drop_eq_nil_of_le (by omega)]; rfl), rfl⟩

/-- is no number twice in a list? -/
def onceF (xs : List Int) : Bool := (List.range xs.length).all fun i => posF xs (xs.getD i 0) == (i : Int)

theorem all_range_succ (p : Nat → Bool) (m n : Nat) (h : m < n) (hm : p m = false) : (List.range n).all p = false := by
  rw [Bool.eq_false_iff]
  intro hall
  have := List.all_eq_true.1 hall m (List.mem_range.2 h)
  rw [hm] at this; cases this

theorem once_any (v : Value) (xs : List Int) (w : World) (h : SlI w v xs) :
    Calls Try.prog 11 #[v] w fun e w' => e = .returned (.bool (onceF xs)) ∧ w = w' := by
  have h' := h
  obtain ⟨a, cap, rfl, hm, hnn, hc⟩ := h
  have HPO := Lib.hid (fun x => position_any _ xs x w h')
  clear h'
  go_enter Try.func11, Try.ntmps11
  go_wp2
  go_loop [3] (fun i => ∃ k : Nat, k ≤ xs.length ∧ i = .int .i64 k ∧ ∀ j, j < k → (posF xs (xs.getD j 0) == (j : Int)) = true) (fun i => xs.length - (intOf i).toNat)
  case atStart => exact ⟨0, Nat.zero_le _, rfl, fun j hj => by omega⟩
  case round =>
    obtain ⟨k, hk, rfl, hi⟩ := hrel
    have HI := Lib.hid hi
    clear hi
    by_cases hlt : k < xs.length
    · obtain ⟨y, hy⟩ := get_of_lt hlt
      obtain ⟨b, off, rfl, hb, hcell⟩ := hc k y hy
      have hg : xs.getD k 0 = y := by simp [List.getD, hy]
      have HG := Lib.hid hg
      have HP := Lib.hid (HPO.out y)
      clear hy hc hg
      by_cases hp : posF xs y = (k : Int)
      · rw [hp] at HP
        have HPE := Lib.hid hp
        clear hp
        go_wp2_with (go_at_call 17; refine HP.out.mono ?_; rintro e w' ⟨rfl, rfl⟩)
        go_round
        case rel =>
          refine ⟨k + 1, by omega, by go_num, fun j hj => ?_⟩
          by_cases hjk : j = k
          · rw [hjk, HG.out, HPE.out]; simp
          · exact HI.out j (by omega)
        case measure => simp [intOf]; omega
      · have HN := Lib.hid hp
        have hp1 : (posF xs y == (k : Int)) = false := by simpa using hp
        have hp2 : (posF xs y != (k : Int)) = true := by simpa using hp
        clear hp
        generalize hq : posF xs y = q at *
        have HQ := Lib.hid hq
        clear hq
        go_wp2_with (go_at_call 17; refine HP.out.mono ?_; rintro e w' ⟨rfl, rfl⟩)
        go_ret
        exact ⟨ret_bool (by unfold onceF; rw [all_range_succ _ k _ hlt (by rw [HG.out, HQ.out]; simpa using HN.out)]), rfl⟩
    · obtain rfl : k = xs.length := by omega
      go_wp2
      go_ret
      exact ⟨ret_bool (by unfold onceF; rw [List.all_eq_true.2 (fun j hj => HI.out j (List.mem_range.1 hj))]), rfl⟩

end Go.Proofs.Ytejbbnejpbpdmaa
