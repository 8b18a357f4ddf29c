/- The walks of the ring's next and Move, and of slices.Clone. -/
import Derived.Test.YtejbbnejpbpdmaaA3
namespace Go.Proofs.Ytejbbnejpbpdmaa
open Go.RowKit

def nextF (k : Int) (xs : List Int) (i : Nat) : Int := if i = 0 then (xs.getD 0 0 + 1) % k else aheadF xs i

set_option maxHeartbeats 400000 in
theorem next_any (k : Int) (v : Value) (xs : List Int) (i : Nat) (w : World) (h : SlI w v xs) (hi : i < xs.length) (hk : 2 ≤ k) (hk2 : k ≤ 1000) (hx0 : ∀ x ∈ xs, 0 ≤ x ∧ x < k) :
    Calls Try.prog 16 #[.agg #[v, .int .i64 k], .int .i64 i] w fun e w' => e = .returned (.int .i64 (nextF k xs i)) ∧ Below w.heap.size w w' := by
  have h' := h
  obtain ⟨a, cap, rfl, hm, hnn, hc⟩ := h
  by_cases hz : i = 0
  · subst hz
    obtain ⟨x, hx⟩ := get_of_lt hi
    obtain ⟨b, off, rfl, hb, hcell⟩ := hc _ x hx
    rw [Nat.add_zero] at hcell
    have hxr := hx0 x (List.mem_of_getElem? hx)
    have hr : nextF k xs 0 = (x + 1) % k := by simp [nextF, List.getD, hx]
    have HR := Lib.hid hr
    have e1 : IntKind.i64.wrap (x + 1) = x + 1 := IntWalk.i64_in _ (by omega)
    have e2 : (x + 1).tmod k = (x + 1) % k := Int.tmod_eq_emod_of_nonneg (by omega)
    have n0 : (0 : Int) < k := by omega
    have l1 : (0 : Int) < (xs.length : Int) := by omega
    generalize (x + 1) % k = y at *
    clear hr hx hc hm hi hx0 hk hk2 hxr
    go_enter Try.func16, Try.ntmps16
    go_wp2
    go_quiet (fail)
    go_wp2
    go_ret
    exact ⟨ret_int HR.out.symm, below_drewN ((Below.refl _ _).alloc (Nat.le_refl _) _) _⟩
  · have hr : nextF k xs i = aheadF xs i := by simp [nextF, hz]
    have HR := Lib.hid hr
    have HA := Lib.hid (ahead_any k _ xs i _ (h'.alloc (.cells #[.slice a xs.length cap, .int .i64 k] 35)) hi)
    have l1 : ((i : Int) == 0) = false := by rw [cast_beq0]; simpa using hz
    clear hr hc
    go_enter Try.func16, Try.ntmps16
    go_wp2_with (go_at_call 20; refine HA.out.mono ?_; rintro e w1 ⟨rfl, hb1⟩)
    go_ret
    exact ⟨ret_int HR.out.symm, ((Below.refl _ _).alloc (Nat.le_refl _) _).trans (hb1.mono (by simp))⟩

set_option maxHeartbeats 400000 in
theorem clone_any (v : Value) (xs : List Int) (w : World) (h : SlI w v xs) (hl : xs.length ≤ 1000000) :
    Calls Try.prog 15 #[v] w fun e w' => ∃ v', e = .returned v' ∧ Ow (Value.int .i64) w' w.heap.size 3 v' xs ∧ Below w.heap.size w w' := by
  have h' := h
  obtain ⟨a, cap, rfl, hm, hnn, hc⟩ := h
  cases a with
  | none =>
    obtain ⟨rfl, rfl⟩ := h'.none_nil
    have hq := fun w => Lib.run_eql_slice_nil (P := Try.prog) w 22 3 none 0 0 0 0 Try.underlying22
    go_enter Try.func15, Try.ntmps15
    go_wp2
    go_ret
    exact ⟨_, rfl, Ow.nil _ _ _, Below.refl _ _⟩
  | some ad =>
    clear hc
    have H := Lib.hid h'
    have hq := fun w => Lib.run_eql_slice_nil (P := Try.prog) w 22 3 (some ad) xs.length cap 0 0 Try.underlying22
    clear h'
    go_enter Try.func15, Try.ntmps15
    go_wp2_with (at_builtin; refine wpList_pushAll _ rfl _ _ 22 rfl Try.eI w.heap.size (Value.int .i64) (Ow.made _ _ (Nat.le_refl _)) (H.out.alloc _) rfl rfl (fun _ => rfl) (by simp; omega) (by simp; omega) (by simp) ?_)
    intro v' w' h1 h2 _
    go_wp2
    go_ret
    exact ⟨_, rfl, h1, ((Below.refl _ _).alloc (Nat.le_refl _) _).trans (grown_below h2 (Ow.made (f := Value.int .i64) _ _ (Nat.le_refl _)) (Nat.le_refl _) (by simp))⟩

end Go.Proofs.Ytejbbnejpbpdmaa
