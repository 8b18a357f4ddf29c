/- Who doesn't lie, and the least and the greatest: the walks. -/
import Derived.Test.YtgbhbohleafibaaA2
namespace Go.Proofs.Ytgbhbohleafibaa
open Go.RowKit
set_option linter.unusedVariables false
attribute [local go_sem] EffAt EffUpon

/-- the values of those that don't lie, of the first k -/
def loyL (x : Nat) (l : List Int) (k : Nat) : List Int := ((List.range k).filter fun i => !x.testBit i).map fun i => l.getD i 0
theorem loyL_succ (x : Nat) (l : List Int) (k : Nat) : loyL x l (k + 1) = loyL x l k ++ if x.testBit k then [] else [l.getD k 0] := by
  unfold loyL
  rw [List.range_succ, List.filter_append, List.map_append]
  congr 1
  cases h : x.testBit k <;> simp [h]
theorem loyL_len (x : Nat) (l : List Int) (k : Nat) : (loyL x l k).length ≤ k := by
  unfold loyL; rw [List.length_map]; exact Nat.le_trans (List.length_filter_le _ _) (by simp)
theorem loyL_mem {x : Nat} {l : List Int} {k : Nat} {y : Int} : y ∈ loyL x l k ↔ ∃ i, i < k ∧ x.testBit i = false ∧ l.getD i 0 = y := by
  unfold loyL; simp [List.mem_map, List.mem_filter]; constructor
  · rintro ⟨i, ⟨h1, h2⟩, h3⟩; exact ⟨i, h1, h2, h3⟩
  · rintro ⟨i, h1, h2, h3⟩; exact ⟨i, ⟨h1, h2⟩, h3⟩

set_option maxHeartbeats 4000000 in
theorem loyal_any {w : World} {v : Value} {l : List Int} (x : Nat) (h : SlI w v l) (hn : l.length ≤ 9) (hx : x < 4294967296) :
    Calls Try.prog 9 #[.int .u32 x, v] w fun e w' => ∃ v', e = .returned v' ∧ SlS SZ 1 w' v' (loyL x l l.length) ∧ Below w.heap.size w w' := by
  have HB := Lib.hid (fun (i : Int) w => bit_any x i w hx)
  obtain ⟨a, c, hv, hm, _⟩ := id h
  subst hv
  have HS := Lib.hid h
  clear h
  go_enter Try.func9, Try.ntmps9
  go_wp2_with fail
  go_loopw [5, 10] (fun o i wr => ∃ (k : Nat) (vo : Value), k ≤ l.length ∧ i = .int .i64 k ∧ o = vo ∧ Sat w wr (Hp.own SZ 1 vo (loyL x l k) * 1)) (fun _ i _ => l.length - (intOf i).toNat)
  case atStart => exact ⟨0, _, Nat.zero_le _, rfl, rfl, (Sat.start w).nil SZ 1⟩
  case round =>
    obtain ⟨k, vo, hk, rfl, rfl, hsat⟩ := hrel
    obtain ⟨ao, co, ho, _⟩ := hsat.ows.form
    subst ho
    by_cases hlt : k < l.length
    · obtain ⟨y, hy⟩ := get_of_lt hlt
      obtain ⟨b0, off, rfl, hlb, c0⟩ := HS.out.get1 hy
      have c1 : wr.cell? ⟨b0, off + k, none⟩ = some (.int .i64 y) := (hsat.below.cell (p := ⟨b0, off + k, none⟩) hlb).trans c0
      have HK := Lib.hid (HB.out (k : Int))
      rw [bitF_nat (show k < 32 by omega)] at HK
      have HN := Lib.hid (loyL_succ x l k)
      have hll := loyL_len x l k
      have HY := Lib.hid (show l.getD k 0 = y by rw [List.getD, hy]; rfl)
      have i0 : (0 : Int) ≤ (k : Int) := by omega
      have i1 : (k : Int) < (l.length : Int) := by omega
      have H0 := Lib.hid hsat
      generalize loyL x l k = m at *
      clear hsat hy c0
      cases hb : x.testBit k
      · rw [hb] at HK HN
        clear hb
        go_wp2_with (first | (go_at_call 12; (with_reducible refine (HK.out _).mono ?_); rintro e w' ⟨rfl, rfl⟩) | (at_builtin; refine wpList_pushH rfl _ _ 23 rfl Try.eZ SZ SZ_len SZ_one y wr.heap.size rfl rfl (H0.out.alloc _ _ _ rfl) (by omega) (by omega) ?_; intro v' w3 hs' h'; have H7 := Lib.hid h'; clear h'))
        go_roundw
        case rel => exact ⟨k + 1, _, by omega, by go_num, rfl, by rw [HN.out, HY.out]; exact H7.out⟩
        case measure => simp [intOf]; omega
      · rw [hb] at HK HN
        clear hb
        go_wp2_with (go_at_call 12; (with_reducible refine (HK.out _).mono ?_); rintro e w' ⟨rfl, rfl⟩)
        go_roundw
        case rel => exact ⟨k + 1, _, by omega, by go_num, rfl, by rw [HN.out]; simpa using H0.out⟩
        case measure => simp [intOf]; omega
    · obtain rfl : k = l.length := by omega
      have H0 := Lib.hid hsat
      have hll := loyL_len x l l.length
      clear hsat
      go_wp2_with fail
      go_ret
      exact ⟨_, rfl, H0.out.sls (by omega), H0.out.below⟩

def EndsOf (l : List Int) (lo hi : Int) : Prop := (∀ y ∈ l, lo ≤ y ∧ y ≤ hi) ∧ lo ∈ l ∧ hi ∈ l
set_option maxHeartbeats 4000000 in
theorem ends_any {w : World} {v : Value} {l : List Int} (h : SlI w v l) (h0 : l ≠ []) :
    Calls Try.prog 11 #[v] w fun e w' => (∃ lo hi : Int, e = .returned (.tuple #[.int .i64 lo, .int .i64 hi]) ∧ EndsOf l lo hi) ∧ w = w' := by
  obtain ⟨a, c, hv, hm, _⟩ := id h
  subst hv
  obtain ⟨z, hz⟩ := get_of_lt (show 0 < l.length from List.length_pos_iff.2 h0)
  obtain ⟨b0, off, rfl, hlb, c0⟩ := h.get1 hz
  have hl1 := (List.getElem?_eq_some_iff.1 hz).1
  have i0 : (0 : Int) < (l.length : Int) := by omega
  rw [Nat.add_zero] at c0
  have HS := Lib.hid h
  have HZ := Lib.hid hz
  clear h h0 hz
  go_enter Try.func11, Try.ntmps11
  go_wp2_with fail
  go_loop [4, 5, 16] (fun p q i => ∃ (k : Nat) (lo hi : Int), k ≤ l.length ∧ i = .int .i64 k ∧ p = .int .i64 lo ∧ q = .int .i64 hi ∧ (∀ y ∈ l.take k, lo ≤ y ∧ y ≤ hi) ∧ lo ∈ l ∧ hi ∈ l) (fun _ _ i => l.length - (intOf i).toNat)
  case atStart => exact ⟨0, z, z, Nat.zero_le _, rfl, rfl, rfl, by simp, List.mem_of_getElem? HZ.out, List.mem_of_getElem? HZ.out⟩
  case round =>
    obtain ⟨k, lo, hi, hk, rfl, rfl, rfl, hb, h1, h2⟩ := hrel
    by_cases hlt : k < l.length
    · obtain ⟨y, hy⟩ := get_of_lt hlt
      obtain ⟨b1, off1, e1, _, c1⟩ := HS.out.get1 hy
      cases e1
      have j0 : (0 : Int) ≤ (k : Int) := by omega
      have j1 : (k : Int) < (l.length : Int) := by omega
      have HM := Lib.hid (And.intro hb (And.intro h1 (And.intro h2 (And.intro (List.mem_of_getElem? hy) (take_of hy)))))
      clear hb h1 h2 hy
      by_cases q1 : y < lo
      · by_cases q2 : hi < y
        · go_wp2_with fail
          go_round
          case rel => exact ⟨k + 1, y, y, by omega, by go_num, rfl, rfl, fun t ht => by
            rw [HM.out.2.2.2.2, List.mem_append] at ht
            rcases ht with ht | ht
            · have := HM.out.1 t ht; omega
            · simp at ht; omega, HM.out.2.2.2.1, HM.out.2.2.2.1⟩
          case measure => simp [intOf]; omega
        · go_wp2_with fail
          go_round
          case rel => exact ⟨k + 1, y, hi, by omega, by go_num, rfl, rfl, fun t ht => by
            rw [HM.out.2.2.2.2, List.mem_append] at ht
            rcases ht with ht | ht
            · have := HM.out.1 t ht; omega
            · simp at ht; omega, HM.out.2.2.2.1, HM.out.2.2.1⟩
          case measure => simp [intOf]; omega
      · by_cases q2 : hi < y
        · go_wp2_with fail
          go_round
          case rel => exact ⟨k + 1, lo, y, by omega, by go_num, rfl, rfl, fun t ht => by
            rw [HM.out.2.2.2.2, List.mem_append] at ht
            rcases ht with ht | ht
            · have := HM.out.1 t ht; omega
            · simp at ht; omega, HM.out.2.1, HM.out.2.2.2.1⟩
          case measure => simp [intOf]; omega
        · go_wp2_with fail
          go_round
          case rel => exact ⟨k + 1, lo, hi, by omega, by go_num, rfl, rfl, fun t ht => by
            rw [HM.out.2.2.2.2, List.mem_append] at ht
            rcases ht with ht | ht
            · have := HM.out.1 t ht; omega
            · simp at ht; omega, HM.out.2.1, HM.out.2.2.1⟩
          case measure => simp [intOf]; omega
    · obtain rfl : k = l.length := by omega
      rw [List.take_length] at hb
      have HM := Lib.hid (show EndsOf l lo hi from ⟨hb, h1, h2⟩)
      clear hb h1 h2
      go_wp2_with fail
      go_ret2
      exact ⟨⟨lo, hi, rfl, HM.out⟩, rfl⟩
end Go.Proofs.Ytgbhbohleafibaa
