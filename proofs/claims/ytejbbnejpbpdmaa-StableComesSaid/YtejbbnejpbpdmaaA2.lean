/- The walks of the ring's methods: what is ahead of a machine, whether it may move, and its state behind a move. -/
import Derived.Test.YtejbbnejpbpdmaaA1
import Derived.Test.YtejbbnejpbpdmaaL2
namespace Go.Proofs.Ytejbbnejpbpdmaa
open Go.RowKit

def aheadF (xs : List Int) (i : Nat) : Int := xs.getD ((i + xs.length - 1) % xs.length) 0

set_option maxHeartbeats 400000 in
theorem ahead_any (k : Int) (v : Value) (xs : List Int) (i : Nat) (w : World) (h : SlI w v xs) (hi : i < xs.length) :
    Calls Try.prog 20 #[.agg #[v, .int .i64 k], .int .i64 i] w fun e w' => e = .returned (.int .i64 (aheadF xs i)) ∧ Below w.heap.size w w' := by
  obtain ⟨a, cap, rfl, hm, hnn, hc⟩ := h
  have hlt : (i + xs.length - 1) % xs.length < xs.length := Nat.mod_lt _ (by omega)
  obtain ⟨x, hx⟩ := get_of_lt hlt
  obtain ⟨b, off, rfl, hb, hcell⟩ := hc _ x hx
  have hr : aheadF xs i = x := by simp [aheadF, List.getD, hx]
  have HR := Lib.hid hr
  clear hr hx hc
  have n0 : (0 : Int) < (xs.length : Int) := by omega
  have e1 : IntKind.i64.wrap ((i : Int) + (xs.length : Int)) = (i : Int) + (xs.length : Int) := IntWalk.i64_in _ (by omega)
  have e2 : IntKind.i64.wrap ((i : Int) + (xs.length : Int) - 1) = ((i + xs.length - 1 : Nat) : Int) := by rw [IntWalk.i64_in _ (by omega)]; omega
  have e3 : (((i + xs.length - 1 : Nat) : Int)).tmod (xs.length : Int) = (((i + xs.length - 1) % xs.length : Nat) : Int) := by
    rw [Int.tmod_eq_emod_of_nonneg (by omega)]; rfl
  generalize (i + xs.length - 1) % xs.length = m at *
  generalize i + xs.length - 1 = s at *
  have l1 : (m : Int) < (xs.length : Int) := by omega
  have l0 : (0 : Int) ≤ (m : Int) := by omega
  clear hlt hm hi
  go_enter Try.func20, Try.ntmps20
  go_wp2
  go_quiet (fail)
  go_wp2
  go_ret
  exact ⟨ret_int HR.out.symm, below_drewN ((Below.refl _ _).alloc (Nat.le_refl _) _) _⟩

def freeF (xs : List Int) (i : Nat) : Bool := (xs.getD i 0 == aheadF xs i) == (i == 0)

theorem Sl.alloc {α : Type} {f : α → Value} {w : World} {v : Value} {xs : List α} (h : Sl f w v xs) (o : Obj) : Sl f (w.alloc o) v xs := h.below ((Below.refl _ _).alloc (Nat.le_refl _) o)
theorem Sl.drewN {α : Type} {f : α → Value} {w : World} {v : Value} {xs : List α} (h : Sl f w v xs) (n : Nat) : Sl f (w.drewN n) v xs := h.below (below_drewN (Below.refl _ _) n)

set_option maxHeartbeats 400000 in
theorem free_any (k : Int) (v : Value) (xs : List Int) (i : Nat) (w : World) (h : SlI w v xs) (hi : i < xs.length) :
    Calls Try.prog 13 #[.agg #[v, .int .i64 k], .int .i64 i] w fun e w' => e = .returned (.bool (freeF xs i)) ∧ Below w.heap.size w w' := by
  have h' := h
  obtain ⟨a, cap, rfl, hm, hnn, hc⟩ := h
  obtain ⟨x, hx⟩ := get_of_lt hi
  obtain ⟨b, off, rfl, hb, hcell⟩ := hc _ x hx
  have hr : freeF xs i = ((x == aheadF xs i) == (i == 0)) := by simp [freeF, List.getD, hx]
  have HR := Lib.hid hr
  have HS := fun w' (hw' : Below w.heap.size w w') => ahead_any k _ xs i w' (h'.below hw') hi
  have HA := Lib.hid HS
  have l1 : (i : Int) < (xs.length : Int) := by omega
  have l0 : (0 : Int) ≤ (i : Int) := by omega
  clear hr hx hc hm hi HS
  go_enter Try.func13, Try.ntmps13
  go_wp2
  generalize hW : w.alloc (Obj.cells #[Value.slice (some { block := b, off := off }) xs.length cap, Value.int IntKind.i64 k] 35) = W
  have b0 : Below w.heap.size w W := by rw [← hW]; exact (Below.refl _ _).alloc (Nat.le_refl _) _
  have c0 : W.cell? ⟨w.heap.size, 0, none⟩ = some (Value.slice (some { block := b, off := off }) xs.length cap) := by rw [← hW, World.cell?_alloc_at _ _ _ _ rfl]; rfl
  have c1 : W.cell? ⟨w.heap.size, 1, none⟩ = some (Value.int IntKind.i64 k) := by rw [← hW, World.cell?_alloc_at _ _ _ _ rfl]; rfl
  have hsz : w.heap.size < W.heap.size := by rw [← hW]; simp
  have hd : W.cell? ⟨b, off + i, none⟩ = some (Value.int IntKind.i64 x) := (b0.cell (p := ⟨b, off + i, none⟩) hb).trans hcell
  obtain ⟨St, hne, F, hF, hC⟩ := stable_class W.heap.size W
  have c0 : ∀ s, (F s).cell? ⟨w.heap.size, 0, none⟩ = some (Value.slice (some { block := b, off := off }) xs.length cap) := fun s => ((hF s).cell (p := ⟨w.heap.size, 0, none⟩) hsz).trans c0
  have c1 : ∀ s, (F s).cell? ⟨w.heap.size, 1, none⟩ = some (Value.int IntKind.i64 k) := fun s => ((hF s).cell (p := ⟨w.heap.size, 1, none⟩) hsz).trans c1
  have hd : ∀ s, (F s).cell? ⟨b, off + i, none⟩ = some (Value.int IntKind.i64 x) := fun s => ((hF s).cell (p := ⟨b, off + i, none⟩) (by show b < _; omega)).trans hd
  have HC := Lib.hid hC
  have HF := Lib.hid hF
  clear hW hC hF
  refine wp_region_cls F (by kernel_rfl) (by kernel_rfl) (HC.out _ (Below.drew (Below.refl _ _))) ?_
  repeat (go_big_quiet_step ((go_at_call 20; refine (HA.out _ (b0.trans ((HF.out _).mono (Nat.le_of_lt hsz)))).mono ?_; rintro e w' ⟨rfl, hb'⟩; exact ⟨rfl, HC.out _ ((HF.out _).trans (hb'.mono (HF.out _).size))⟩)))
  refine wpQuiet_nil ?_
  rintro _ ⟨s, rfl⟩
  go_wp2
  go_ret
  exact ⟨ret_bool (by rw [HR.out, cast_beq0]), b0.trans ((HF.out _).mono (Nat.le_of_lt hsz))⟩

end Go.Proofs.Ytejbbnejpbpdmaa
