/- StableSome: its walk. -/
import Derived.Test.YtejbbnejpbpdmaaM3
import Derived.Test.YtejbbnejpbpdmaaA6
namespace Go.Proofs.Ytejbbnejpbpdmaa
open Go.RowKit

theorem inside_free {k : Int} {xs : List Int} (_h : checkF k xs = 0) : insideF (xs.length : Int) ((freeL xs).map fun i : Nat => (i : Int)) = true := by
  unfold insideF
  refine List.all_eq_true.2 fun y hy => ?_
  obtain ⟨i, hi, rfl⟩ := List.mem_map.1 hy
  have := (free_of_mem hi).1
  simp; omega

set_option maxHeartbeats 1000000 in
theorem stableSome_any (k : Int) (v : Value) (xs : List Int) (w : World) (h : SlI w v xs) :
    Calls Try.prog 4 #[.int .i64 k, v] w fun e w' => e = .returned (.bool true) ∧ Below w.heap.size w w' := by
  have h' := h
  obtain ⟨a, cap, rfl, hm, hnn, hc⟩ := h
  clear hc
  have HFR := Lib.hid (freeCall_any k _ xs w h')
  by_cases hz : checkF k xs = 0
  · have hlen := check_ok hz
    have hfle := freeL_le xs
    have hfpos := freeL_ne hz
    have hin := inside_free hz
    have HST := Lib.hid (fun w1 (hb : Below w.heap.size w w1) => states_any k _ xs w1 (h'.below hb))
    rw [hz] at HST
    have HMV := Lib.hid (fun i w1 (hb : Below w.heap.size w w1) => move_any k _ xs i w1 (h'.below hb))
    have HZ := Lib.hid hz
    obtain ⟨q1, q2, _⟩ := hlen
    go_enter Try.func4, Try.ntmps4
    go_wp2_with fail
    refine HFR.out.mono ?_
    rintro e w1 ⟨vf, rfl, hof, hb1⟩
    rw [if_pos hz] at hof
    rw [hz]
    obtain ⟨g, cp, rfl, hg, hgl⟩ := hof.form_ne hfpos
    have hsl : SlI w1 (.slice (some ⟨g, 0, none⟩) (freeL xs).length cp) ((freeL xs).map fun i : Nat => (i : Int)) := by
      have := (Ow.map (f := Value.int .i64) hof).sl (by simp; omega)
      exact this
    have HIN := Lib.hid (inside_any (xs.length : Int) _ _ w1 hsl)
    rw [hin] at HIN
    have hp0 : ((freeL xs).length == 0) = false := by simp; intro h0; rw [h0] at hfpos; cases hfpos
    have hp1 : (((freeL xs).length : Int) == 0) = false := by rw [cast_beq0]; exact hp0
    have HZ := Lib.hid hz
    clear hz hin hsl hp0
    go_wp2_with (first | (go_at_call 8; refine (HST.out _ hb1).mono ?_; rintro e w2 ⟨rfl, rfl⟩) | (go_at_call 9; refine HIN.out.mono ?_; rintro e w2 ⟨rfl, rfl⟩))
    go_loopw [41] (fun i wr => ∃ m : Nat, m ≤ (freeL xs).length ∧ i = .int .i64 m ∧ Below w1.heap.size w1 wr) (fun i _ => (freeL xs).length - (intOf i).toNat)
    case atStart => exact ⟨0, Nat.zero_le _, rfl, Below.refl _ _⟩
    case round =>
      obtain ⟨m, hmm, rfl, hbr⟩ := hrel
      have hbw : Below w.heap.size w wr := hb1.trans (hbr.mono hb1.size)
      by_cases hlt : m < (freeL xs).length
      · obtain ⟨x, hx⟩ := get_of_lt hlt
        have hxm := List.mem_of_getElem? hx
        have hcell : wr.cell? ⟨g, m, none⟩ = some (.int .i64 (x : Int)) := (hof.below hbr).cell hx
        have hmv := HMV.out (x : Int) wr hbw
        have hle := freeL_mv HZ.out hxm
        have hck := check_mv HZ.out (free_of_mem hxm).1
        have hfp := freeL_ne hck
        have HMV1 := Lib.hid hmv
        have HMO := Lib.hid (moveCode_ok HZ.out hxm)
        have HML := Lib.hid (moveL_ok HZ.out hxm)
        have HCK := Lib.hid hck
        clear hmv hx hxm hck
        go_wp2_with fail
        refine HMV1.out.mono ?_
        rintro e w3 ⟨vm, rfl, hom, hb3⟩
        rw [HMO.out]
        rw [HML.out] at hom
        go_wp2_with fail
        refine (freeCall_any k vm _ w3 (hom.sl (by simp; omega))).mono ?_
        rintro e w4 ⟨vg, rfl, hog, hb4⟩
        rw [if_pos HCK.out] at hog
        rw [HCK.out]
        obtain ⟨g4, cp4, rfl, _, _⟩ := hog.form_ne hfp
        have hy0 : (((freeL (xs.set x (nextF k xs x))).length : Int) == 0) = false := by rw [cast_beq0]; simp; intro h0; rw [h0] at hfp; cases hfp
        have hy1 : decide (((freeL xs).length : Int) < ((freeL (xs.set x (nextF k xs x))).length : Int)) = false := by simp; omega
        have hy2 : decide ((freeL xs).length < (freeL (xs.set x (nextF k xs x))).length) = false := by simp; omega
        generalize (freeL (xs.set x (nextF k xs x))).length = L4 at *
        go_wp2_with fail
        go_roundw
        case rel => exact ⟨m + 1, by omega, by go_num, (hbr.trans (hb3.mono hbr.size)).trans (hb4.mono (by have := hb3.size; have := hbr.size; omega))⟩
        case measure => simp [intOf]; omega
      · go_wp2
        go_ret
        exact ⟨rfl, hbw⟩
  · have HST := Lib.hid (fun w1 (hb : Below w.heap.size w w1) => states_any k _ xs w1 (h'.below hb))
    have hb1 : (checkF k xs == 0) = false := by simpa using hz
    have hb2' : (checkF k xs != 0) = true := by simpa using hz
    rw [hb1] at HST
    go_enter Try.func4, Try.ntmps4
    go_wp2_with fail
    refine HFR.out.mono ?_
    rintro e w1 ⟨vf, rfl, hof, hbb⟩
    generalize checkF k xs = q at *
    clear hz hof
    go_wp2_with (go_at_call 8; refine (HST.out _ hbb).mono ?_; rintro e w2 ⟨rfl, rfl⟩)
    go_ret
    exact ⟨rfl, hbb⟩

end Go.Proofs.Ytejbbnejpbpdmaa
