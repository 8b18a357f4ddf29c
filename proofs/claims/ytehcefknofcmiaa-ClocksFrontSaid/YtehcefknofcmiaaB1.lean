/- The walk of ClocksFront. -/
import Derived.Test.YtehcefknofcmiaaA6
namespace Go.Proofs.Ytehcefknofcmiaa
open Go.RowKit Go.Shelf
set_option linter.unusedVariables false

theorem take_get {α : Type} {l : List α} {m i : Nat} (h : i < m) : (l.take m)[i]? = l[i]? := by rw [List.getElem?_take, if_pos h]
theorem lastOf_take {l : List Ev} {a : Nat} {w : Int} : ∀ {k : Nat}, k ≤ a → lastOf (l.take a) k w = lastOf l k w
  | 0, _ => rfl
  | k + 1, h => by
    unfold lastOf
    rw [take_get (by omega), lastOf_take (k := k) (by omega)]
theorem fromL_take {l : List Ev} {a k : Nat} (h : k < a) : fromL (l.take a) k = fromL l k := by
  unfold fromL
  rw [take_get h]
  split
  · unfold fromE; rw [lastOf_take (by omega)]
  · rfl
theorem scalL_take {l : List Ev} {a : Nat} : ∀ {k : Nat}, k ≤ a → scalL (l.take a) k = scalL l k
  | 0, _ => rfl
  | k + 1, h => by
    rw [show scalL (l.take a) (k + 1) = scalL (l.take a) k ++ [mx (scalL (l.take a) k) (fromL (l.take a) k) + 1] from rfl, scalL_take (k := k) (by omega), fromL_take (by omega)]; rfl
theorem vecL_take {l : List Ev} {n a : Nat} : ∀ {k : Nat}, k ≤ a → vecL (l.take a) n k = vecL l n k
  | 0, _ => rfl
  | k + 1, h => by
    rw [show vecL (l.take a) n (k + 1) = vecL (l.take a) n k ++ [bump (joins n (vecL (l.take a) n k) (fromL (l.take a) k)) (whoN (l.take a) k)] from rfl, vecL_take (k := k) (by omega), fromL_take (by omega),
      show whoN (l.take a) k = whoN l k by unfold whoN; rw [take_get (by omega)]]; rfl
theorem scalL_cut {l : List Ev} {a : Nat} : ∀ {m : Nat}, a ≤ m → (scalL l m).take a = scalL l a
  | 0, h => by obtain rfl : a = 0 := by omega
               rfl
  | m + 1, h => by
    rw [show scalL l (m + 1) = scalL l m ++ [mx (scalL l m) (fromL l m) + 1] from rfl]
    by_cases e : a = m + 1
    · subst e; rw [List.take_of_length_le (by simp [scalL_len])]; rfl
    · rw [List.take_append_of_le_length (by rw [scalL_len]; omega)]; exact scalL_cut (m := m) (by omega)
theorem vecL_cut {l : List Ev} {n a : Nat} : ∀ {m : Nat}, a ≤ m → (vecL l n m).take a = vecL l n a
  | 0, h => by obtain rfl : a = 0 := by omega
               rfl
  | m + 1, h => by
    rw [show vecL l n (m + 1) = vecL l n m ++ [bump (joins n (vecL l n m) (fromL l m)) (whoN l m)] from rfl]
    by_cases e : a = m + 1
    · subst e; rw [List.take_of_length_le (by simp [vecL_len])]; rfl
    · rw [List.take_append_of_le_length (by rw [vecL_len]; omega)]; exact vecL_cut (m := m) (by omega)
theorem OkE.take {n : Int} {l : List Ev} (h : OkE n l) (a : Nat) : OkE n (l.take a) := by
  have hf := h.few
  refine ⟨h.low, h.high, by rw [List.length_take]; omega, fun i e he => ?_⟩
  have hl := (List.getElem?_eq_some_iff.1 he).1
  rw [List.length_take] at hl
  rw [take_get (by omega)] at he
  obtain ⟨q1, q2, q3, q4⟩ := h.all i e he
  refine ⟨q1, q2, q3, fun h3 => ?_⟩
  obtain ⟨j, s, r1, r2, r3, r4⟩ := q4 h3
  exact ⟨j, s, r1, r2, by rw [take_get (by omega)]; exact r3, r4⟩
theorem Vs.take {w : World} {a : Option Addr} {n c k : Nat} {ls : List (List Int)} (h : Vs w (.slice a n c) ls) (hk : k ≤ ls.length) : Vs w (.slice a k c) (ls.take k) := by
  obtain ⟨ps, h1, h2, h3⟩ := h
  refine ⟨ps.take k, by rw [List.map_take, h1], h2.take (by rw [← h1, List.length_map] at hk; exact hk), fun p hp => h3 p (List.mem_of_mem_take hp)⟩
theorem Vs.cap {w : World} {a : Option Addr} {n c : Nat} {ls : List (List Int)} (h : Vs w (.slice a n c) ls) : n = ls.length ∧ n ≤ c := by
  obtain ⟨ps, h1, h2, h3⟩ := h
  have := h2.cap
  rw [← h1, List.length_map]; exact this

set_option maxHeartbeats 4000000 in
theorem lists_same {w : World} {va vb : Value} {xs : List (List Int)} (ha : Vs w va xs) (hb : Vs w vb xs) (hl : xs.length ≤ 1000) : Calls Try.prog 15 #[va, vb] w fun e w' => e = .returned (.bool true) ∧ ∃ m, w' = w.drewN m := by
  obtain ⟨a, c1, rfl⟩ := ha.form
  obtain ⟨b, c2, rfl⟩ := hb.form
  have HA := Lib.hid ha
  have HB := Lib.hid hb
  clear ha hb
  go_enter Try.func15, Try.ntmps15
  go_wp2_with fail
  go_loopw [5] (fun i wr => ∃ (j m : Nat), j ≤ xs.length ∧ i = .int .i64 j ∧ wr = w.drewN m) (fun i _ => xs.length - (intOf i).toNat)
  case atStart => exact ⟨0, 0, Nat.zero_le _, rfl, rfl⟩
  case round =>
    obtain ⟨j, m, hj, rfl, rfl⟩ := hrel
    have i0 : (0 : Int) ≤ (j : Int) := by omega
    by_cases hlt : j < xs.length
    · obtain ⟨x, hx⟩ := get_of_lt hlt
      obtain ⟨b1, o1, p1, q1, rfl, h1, s1⟩ := HA.out.get hx
      obtain ⟨b2, o2, p2, q2, rfl, h2, s2⟩ := HB.out.get hx
      have i1 : (j : Int) < (xs.length : Int) := by omega
      have HI := Lib.hid (fun nq => ints_any (w := w.drewN nq) (s1.below (below_drewN (Below.refl _ _) nq)).one (s2.below (below_drewN (Below.refl _ _) nq)).one)
      rw [eqI_of rfl] at HI
      have HI2 := Lib.hid (fun m nq => show Calls Try.prog 12 #[.slice p1 x.length q1, .slice p2 x.length q2] (w.drewN (m + nq)) (fun e w' => e = .returned (.bool true) ∧ ∃ k, w' = w.drewN (m + k)) from by
        refine (HI.out (m + nq)).mono ?_
        rintro e w' ⟨rfl, k, rfl⟩
        exact ⟨rfl, nq + k, by rw [World.drewN_drewN]; congr 1; omega⟩)
      clear hx s1 s2
      go_wp2_with fail
      go_quiet ((go_at_call 12; exact HI2.out _ _))
      go_wp2_with fail
      go_roundw
      case rel => exact ⟨j + 1, _, by omega, by go_num, rfl⟩
      case measure => simp [intOf]; omega
    · obtain rfl : j = xs.length := by omega
      go_wp2_with fail
      go_ret
      exact ⟨rfl, m, rfl⟩

set_option maxHeartbeats 8000000 in
theorem front_any {W : World} {v : Value} {l : List Ev} (n : Int) (kk : Int) (hk0 : 0 ≤ kk ∧ kk ≤ 255) (h : SlS FE 3 W v l) :
    Calls Try.prog 5 #[.int .i64 n, v, .int .u8 kk] W fun e w' => e = .returned (.bool true) ∧ Below W.heap.size W w' := by
  obtain ⟨kk, rfl⟩ := Int.eq_ofNat_of_zero_le hk0.1
  obtain ⟨al, cl, rfl, hml⟩ := h.form
  have HV := Lib.hid (fun (w1 : World) (hb : Below W.heap.size W w1) => vectorsF_any n (h.below hb))
  have HSC := Lib.hid (fun (w1 : World) (hb : Below W.heap.size W w1) => scalars_any n (h.below hb))
  have HEV := Lib.hid (fun (w1 : World) (hb : Below W.heap.size W w1) => events_any n (h.below hb))
  by_cases ok : OkE n l
  rotate_left
  · have HN := Lib.hid ok
    clear ok h
    go_enter Try.func5, Try.ntmps5
    go_wp2_with fail
    refine (HV.out _ (Below.refl _ _)).mono ?_
    rintro e w1 ⟨⟨ov, c, rfl, hc, _⟩, hb⟩
    have hc0 : ¬ c = 0 := fun h => HN.out (hc.1 h)
    have hc1 : (c != 0) = true := by simpa using hc0
    have HB := Lib.hid hb
    clear hb hc hc0
    go_wp2_with fail
    refine (HSC.out _ HB.out).mono ?_
    rintro e w2 ⟨⟨sv, d, rfl, hd, _⟩, hb⟩
    have hd0 : ¬ d = 0 := fun h => HN.out (hd.1 h)
    have hd1 : (d != 0) = true := by simpa using hd0
    have HB2 := Lib.hid (HB.out.trans (hb.mono HB.out.size))
    clear hb hd hd0
    go_wp2_with fail
    refine (HEV.out _ HB2.out).mono ?_
    rintro e w3 ⟨⟨bo, rfl, hbo⟩, hb⟩
    obtain rfl : bo = false := by cases bo with | false => rfl | true => exact absurd (hbo.1 rfl) HN.out
    have HB3 := Lib.hid (HB2.out.trans (hb.mono HB2.out.size))
    clear hb hbo
    go_wp2_with fail
    go_ret
    exact ⟨rfl, HB3.out⟩
  · have HOK := Lib.hid ok
    have hfew := ok.few
    obtain ⟨a, ha⟩ : ∃ a, a = kk % (l.length + 1) := ⟨_, rfl⟩
    have hal : a ≤ l.length := by rw [ha]; have := Nat.mod_lt kk (show 0 < l.length + 1 by omega); omega
    have hmod : (kk : Int) % ((l.length : Int) + 1) = (a : Int) := by rw [ha]; rfl
    have HT := Lib.hid (h.take hal)
    have hcap := h.cap.2
    have HV2 := Lib.hid (fun (w1 : World) (hb : Below W.heap.size W w1) => vectorsF_any n (HT.out.below hb))
    have HS2 := Lib.hid (fun (w1 : World) (hb : Below W.heap.size W w1) => scalars_any n (HT.out.below hb))
    have HOK2 := Lib.hid (ok.take a)
    have HTL := Lib.hid (show (l.take a).length = a by rw [List.length_take]; omega)
    have HVE := Lib.hid (show vecL (l.take a) n.toNat (l.take a).length = vecL l n.toNat a by rw [HTL.out]; exact vecL_take (Nat.le_refl _))
    have HSE := Lib.hid (show scalL (l.take a) (l.take a).length = scalL l a by rw [HTL.out]; exact scalL_take (Nat.le_refl _))
    have HVC := Lib.hid (show (vecL l n.toNat l.length).take a = vecL l n.toNat a from vecL_cut hal)
    have HSC2 := Lib.hid (show (scalL l l.length).take a = scalL l a from scalL_cut hal)
    have HLV := Lib.hid (vecL_len l n.toNat l.length)
    have HLS := Lib.hid (scalL_len l l.length)
    have HAL := Lib.hid hal
    have q0 : (0 : Int) ≤ (kk : Int) := by omega
    have q1 : (kk : Int) ≤ 255 := hk0.2
    have q2 : (l.length : Int) ≤ 60 := by omega
    have q3 : (0 : Int) ≤ (a : Int) := by omega
    have q4 : (a : Int) ≤ (l.length : Int) := by omega
    have q5 : (a : Int) ≤ (cl : Int) := by omega
    have q6 : (((l.length : Int) + 1) == 0) = false := by simp; omega
    have q7 : (a : Int) ≤ 140737488355328 := by omega
    clear h ok ha hal hk0 hcap
    go_enter Try.func5, Try.ntmps5
    go_wp2_with fail
    refine (HV.out _ (Below.refl _ _)).mono ?_
    rintro e w1 ⟨⟨ov, c, rfl, hc, hvs⟩, hb⟩
    obtain rfl : c = 0 := hc.2 HOK.out
    have HVS := Lib.hid (hvs rfl)
    have HB := Lib.hid hb
    obtain ⟨ao, co, rfl⟩ := HVS.out.form
    rw [HLV.out] at HVS ⊢
    clear hb hc hvs
    go_wp2_with fail
    refine (HSC.out _ HB.out).mono ?_
    rintro e w2 ⟨⟨sv, d, rfl, hd, hss⟩, hb⟩
    obtain rfl : d = 0 := hd.2 HOK.out
    have HSS := Lib.hid (hss rfl)
    have HVS2 := Lib.hid (HVS.out.below hb)
    have HB2 := Lib.hid (HB.out.trans (hb.mono HB.out.size))
    obtain ⟨as_, cs, rfl, _⟩ := HSS.out.form
    rw [HLS.out] at HSS ⊢
    clear hb hd hss
    go_wp2_with fail
    refine (HEV.out _ HB2.out).mono ?_
    rintro e w3 ⟨⟨bo, rfl, hbo⟩, hb⟩
    obtain rfl : bo = true := hbo.2 HOK.out
    have HB3 := Lib.hid (HB2.out.trans (hb.mono HB2.out.size))
    have HVS3 := Lib.hid (HVS2.out.below hb)
    have HSS3 := Lib.hid (HSS.out.below hb)
    clear hb hbo
    go_wp2_with fail
    refine (HV2.out _ HB3.out).mono ?_
    rintro e w4 ⟨⟨ov2, c, rfl, hc, hvs⟩, hb⟩
    obtain rfl : c = 0 := hc.2 HOK2.out
    have HVT := Lib.hid (show Vs w4 ov2 (vecL l n.toNat a) from by have h9 := hvs rfl; rw [HVE.out] at h9; exact h9)
    have HVS4 := Lib.hid (HVS3.out.below hb)
    have HSS4 := Lib.hid (HSS3.out.below hb)
    have HB4 := Lib.hid (HB3.out.trans (hb.mono HB3.out.size))
    obtain ⟨at2, ct2, rfl⟩ := HVT.out.form
    rw [vecL_len] at HVT ⊢
    clear hb hc hvs
    go_wp2_with fail
    refine (HS2.out _ HB4.out).mono ?_
    rintro e w5 ⟨⟨sv2, c, rfl, hc, hss⟩, hb⟩
    obtain rfl : c = 0 := hc.2 HOK2.out
    have HST := Lib.hid (show SlS SZ 1 w5 sv2 (scalL l a) from by have h9 := hss rfl; rw [HSE.out] at h9; exact h9)
    have HVS5 := Lib.hid (HVS4.out.below hb)
    have HSS5 := Lib.hid (HSS4.out.below hb)
    have HVT5 := Lib.hid (HVT.out.below hb)
    have HB5 := Lib.hid (HB4.out.trans (hb.mono HB4.out.size))
    obtain ⟨as2, cs2, rfl, _⟩ := HST.out.form
    rw [scalL_len] at HST ⊢
    have HVK := Lib.hid (show Vs w5 (.slice ao a co) (vecL l n.toNat a) from by have h9 := HVS5.out.take (k := a) (by rw [HLV.out]; exact HAL.out); rw [HVC.out] at h9; exact h9)
    have HSK := Lib.hid (show SlS SZ 1 w5 (.slice as_ a cs) (scalL l a) from by have h9 := HSS5.out.take (k := a) (by rw [HLS.out]; exact HAL.out); rw [HSC2.out] at h9; exact h9)
    have z1 : (a : Int) ≤ (co : Int) := by have := HVS5.out.cap.2; omega
    have z2 : (a : Int) ≤ (cs : Int) := by have := HSS5.out.cap.2; omega
    have HLI := Lib.hid (lists_same HVT5.out HVK.out (by rw [vecL_len]; omega))
    have HIN := Lib.hid (fun m => ints_any (w := w5.drewN m) (HST.out.below (below_drewN (Below.refl _ _) m)).one (HSK.out.below (below_drewN (Below.refl _ _) m)).one)
    rw [eqI_of rfl] at HIN
    clear hb hc hss
    go_wp2_with fail
    refine HLI.out.mono ?_
    rintro e w6 ⟨rfl, m, rfl⟩
    go_wp2_with fail
    refine (HIN.out _).mono ?_
    rintro e w7 ⟨rfl, m2, rfl⟩
    go_wp2_with fail
    go_ret
    exact ⟨rfl, below_drewN HB5.out (m + m2)⟩
end Go.Proofs.Ytehcefknofcmiaa
