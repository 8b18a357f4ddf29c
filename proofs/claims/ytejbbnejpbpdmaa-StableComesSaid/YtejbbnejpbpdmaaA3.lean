/- The walks of the ring's Check and Free. -/
import Derived.Test.YtejbbnejpbpdmaaA2
import Derived.Test.YtejbbnejpbpdmaaL3
namespace Go.Proofs.Ytejbbnejpbpdmaa
open Go.RowKit

theorem Try.eI : Elem Try.prog 22 3 (.int .i64 0) 1 8 := ⟨Try.underlying22, by kernel_rfl, rfl, by decide⟩

theorem okStates_any (k : Int) (xs : List Int) : okStates k xs = !(xs.any fun s => decide (s < 0) || decide (k ≤ s)) := by
  induction xs with
  | nil => rfl
  | cons x xs ih =>
    by_cases h : x < 0 ∨ k ≤ x
    · rw [okStates_no h]; simp only [List.any_cons]; rcases h with h | h <;> simp [h]
    · rw [okStates_yes (by omega) (by omega), ih]
      simp only [List.any_cons, decide_eq_false (show ¬ x < 0 by omega), decide_eq_false (show ¬ k ≤ x by omega)]; simp

set_option maxHeartbeats 400000 in
theorem check_any (k : Int) (v : Value) (xs : List Int) (w : World) (h : SlI w v xs) :
    Calls Try.prog 12 #[.int .i64 k, v] w fun e w' => e = .returned (.int .i64 (checkF k xs)) ∧ Below w.heap.size w w' := by
  have h' := h
  obtain ⟨a, cap, rfl, hm, hnn, hc⟩ := h
  by_cases hg : xs.length < 2 ∨ 6 < xs.length ∨ k < 2 ∨ 1000 < k
  · have hr : checkF k xs = 1 := by simp [checkF, hg]
    have HR := Lib.hid hr
    clear hr
    rcases hg with hg | hg | hg | hg <;> go_enter Try.func12, Try.ntmps12 <;> go_wp2
    all_goals (go_ret; exact ⟨ret_int HR.out.symm, (Below.refl _ _).alloc (Nat.le_refl _) _⟩)
  · obtain ⟨g1, g2, g3, g4⟩ : 2 ≤ xs.length ∧ xs.length ≤ 6 ∧ 2 ≤ k ∧ k ≤ 1000 := by omega
    have hr : checkF k xs = if okStates k xs then 0 else 2 := by simp only [checkF, hg, if_false]
    rw [okStates_any] at hr
    have hca := containsFunc_any 19 cf19 #[.pointer (some ⟨w.heap.size, 0, none⟩)] (fun s => decide (s < 0) || decide (k ≤ s)) _ xs (w.alloc (.cells #[.int .i64 k] 3)) (h'.alloc _) (fun x => check1_any x k _ _ (World.cell?_alloc_at _ _ _ _ rfl))
    generalize (xs.any fun s => decide (s < 0) || decide (k ≤ s)) = q at hr hca
    have HR := Lib.hid hr
    have HCA := Lib.hid hca
    clear hr hg hc h' hca
    cases q
    all_goals
      go_enter Try.func12, Try.ntmps12
      go_wp2_with (go_at_call 18; refine HCA.out.mono ?_; rintro e w' ⟨rfl, rfl⟩)
      all_goals first | (exfalso; omega) | (go_ret; exact ⟨ret_int HR.out.symm, (Below.refl _ _).alloc (Nat.le_refl _) _⟩)

/-- who may move -/
def freeL (xs : List Int) : List Nat := (List.range xs.length).filter (freeF xs)
abbrev IN : Nat → Value := fun i => .int .i64 i

theorem filter_range_succ (p : Nat → Bool) (m : Nat) : (List.range (m + 1)).filter p = (List.range m).filter p ++ (if p m then [m] else []) := by
  rw [List.range_succ, List.filter_append]; congr 1; cases h : p m <;> simp [h]
theorem filter_range_le (p : Nat → Bool) (m : Nat) : ((List.range m).filter p).length ≤ m := by
  have := List.length_filter_le p (List.range m); simpa using this

/-- what Free tells -/
def FreePost (k : Int) (xs : List Int) (w : World) (e : Ending) (w' : World) : Prop :=
  ∃ v, e = .returned (.tuple #[v, .int .i64 (checkF k xs)]) ∧ Ow IN w' w.heap.size 3 v (if checkF k xs = 0 then freeL xs else []) ∧ Below w.heap.size w w'

set_option maxHeartbeats 1000000 in
theorem freeCall_any (k : Int) (v : Value) (xs : List Int) (w : World) (h : SlI w v xs) :
    Calls Try.prog 7 #[.int .i64 k, v] w (FreePost k xs w) := by
  have h' := h
  obtain ⟨a, cap, rfl, hm, hnn, hc⟩ := h
  have HCH := Lib.hid (check_any k _ xs w h')
  by_cases hz : checkF k xs = 0
  · have hle : xs.length ≤ 6 := by unfold checkF at hz; split at hz <;> omega
    rw [hz] at HCH
    have HZ := Lib.hid hz
    have HF := Lib.hid (fun i w' (hi : i < xs.length) (hb : Below w.heap.size w w') => free_any k _ xs i w' (h'.below hb) hi)
    clear hc hz
    go_enter Try.func7, Try.ntmps7
    go_wp2_with (go_at_call 12; refine HCH.out.mono ?_; rintro e w1 ⟨rfl, hb1⟩)
    obtain ⟨W, hW⟩ : ∃ W, W = w1.alloc (Obj.cells #[Value.slice a xs.length cap, Value.int IntKind.i64 k] 35) := ⟨_, rfl⟩
    have c0 : W.cell? ⟨w1.heap.size, 0, none⟩ = some (Value.slice a xs.length cap) := by rw [hW, World.cell?_alloc_at _ _ _ _ rfl]; rfl
    have c1 : W.cell? ⟨w1.heap.size, 1, none⟩ = some (Value.int IntKind.i64 k) := by rw [hW, World.cell?_alloc_at _ _ _ _ rfl]; rfl
    have hsz : W.heap.size = w1.heap.size + 1 := by rw [hW]; simp
    have b1 : Below w.heap.size w W := by rw [hW]; exact hb1.alloc hb1.size _
    have hs1 := hb1.size
    rw [← hW]
    have HC0 := Lib.hid c0
    have HC1 := Lib.hid c1
    have HSZ := Lib.hid hsz
    clear hW c0 c1 hsz
    go_loopw [8, 21] (fun v i wr => ∃ m : Nat, m ≤ xs.length ∧ i = .int .i64 m ∧ Ow IN wr W.heap.size 3 v ((List.range m).filter (freeF xs)) ∧ Below W.heap.size W wr) (fun _ i _ => xs.length - (intOf i).toNat)
    case atStart => exact ⟨0, Nat.zero_le _, rfl, Ow.nil _ _ _, Below.refl _ _⟩
    case round =>
      obtain ⟨m, hmm, rfl, hown, hbr⟩ := hrel
      have hbw : Below w.heap.size w wr := b1.trans (hbr.mono b1.size)
      have d0 : wr.cell? ⟨w1.heap.size, 0, none⟩ = some (Value.slice a xs.length cap) := (hbr.cell (p := ⟨w1.heap.size, 0, none⟩) (by rw [HSZ.out]; exact Nat.lt_succ_self _)).trans HC0.out
      have d1 : wr.cell? ⟨w1.heap.size, 1, none⟩ = some (Value.int IntKind.i64 k) := (hbr.cell (p := ⟨w1.heap.size, 1, none⟩) (by rw [HSZ.out]; exact Nat.lt_succ_self _)).trans HC1.out
      by_cases hlt : m < xs.length
      · have HFM := Lib.hid (HF.out m wr hlt hbw)
        cases hf : freeF xs m
        · rw [hf] at HFM
          have HFF := Lib.hid hf
          clear hf
          go_wp2_with (go_at_call 13; refine HFM.out.mono ?_; rintro e w2 ⟨rfl, hb2⟩)
          go_roundw
          case rel =>
            refine ⟨m + 1, by omega, by go_num, ?_, hbr.trans (hb2.mono hbr.size)⟩
            rw [filter_range_succ, HFF.out]; simp only [Bool.false_eq_true, if_false, List.append_nil]
            exact hown.below hb2
          case measure => simp [intOf]; omega
        · rw [hf] at HFM
          have HFF := Lib.hid hf
          have hfl := filter_range_le (freeF xs) m
          clear hf
          go_wp2_with (first | (go_at_call 13; refine HFM.out.mono ?_; rintro e w2 ⟨rfl, hb2⟩) | (at_builtin; refine wpList_push _ rfl _ _ 22 rfl Try.eI W.heap.size IN m (hown.below ‹_›) rfl rfl rfl (by omega) (by omega) ?hb ?_))
          case hb => exact Nat.le_trans hbr.size (Below.size ‹_›)
          · intro v' w' hown' hg' _
            go_wp2
            go_roundw
            case rel =>
              refine ⟨m + 1, by omega, by go_num, ?_, ?_⟩
              · rw [filter_range_succ, HFF.out]; exact hown'
              · exact (hbr.trans ((‹Below wr.heap.size wr _› : Below wr.heap.size wr _).mono hbr.size)).trans (grown_below hg' (hown.below ‹_›) (Nat.le_refl _) (Nat.le_trans hbr.size (Below.size ‹_›)))
            case measure => simp [intOf]; omega
      · obtain rfl : m = xs.length := by omega
        go_wp2
        go_ret2
        exact ⟨_, ret_pair rfl HZ.out.symm, by rw [if_pos HZ.out]; exact hown.mono b1.size, hbw⟩
  · have HZ := Lib.hid hz
    have hbz : (checkF k xs == 0) = false := by simpa using hz
    have hbz' : (checkF k xs != 0) = true := by simpa using hz
    generalize hq : checkF k xs = q at *
    clear hc
    go_enter Try.func7, Try.ntmps7
    go_wp2_with (go_at_call 12; refine HCH.out.mono ?_; rintro e w1 ⟨rfl, hb1⟩)
    go_ret2
    exact ⟨_, ret_pair rfl hq.symm, by rw [hq, if_neg HZ.out]; exact Ow.nil _ _ _, hb1⟩

end Go.Proofs.Ytejbbnejpbpdmaa
