/- What is said to each one, and what is too far out: the walks. -/
import Derived.Test.YtgbhbohleafibaaZ
import Derived.Test.YtgbhbohleafibaaK
import Derived.Test.YtgbhbohleafibaaS4
namespace Go.Proofs.Ytgbhbohleafibaa
open Go.RowKit
set_option linter.unusedVariables false
attribute [local go_sem] EffAt EffUpon

def farB (x : Int) : Bool := decide (x < -1099511627776) || decide (1099511627776 < x)
theorem farB_no {x : Int} : farB x = false ↔ (-1099511627776 ≤ x ∧ x ≤ 1099511627776) := by unfold farB; simp
theorem Try.eZ : Elem Try.prog 23 2 (.int .i64 0) 1 8 := ⟨Try.underlying23, by kernel_rfl, rfl, by decide⟩

set_option maxHeartbeats 1000000 in
theorem far_any (x : Int) (w : World) : Calls Try.prog 14 #[.int .i64 x] w fun e w' => e = .returned (.bool (farB x)) ∧ w = w' := by
  by_cases h1 : x < -1099511627776
  · have HR := Lib.hid (show farB x = true by unfold farB; simp [h1])
    go_enter Try.func14, Try.ntmps14
    go_wp2_with fail
    go_ret
    exact ⟨ret_bool HR.out.symm, rfl⟩
  · by_cases h2 : 1099511627776 < x
    · have HR := Lib.hid (show farB x = true by unfold farB; simp [h2])
      go_enter Try.func14, Try.ntmps14
      go_wp2_with fail
      go_ret
      exact ⟨ret_bool HR.out.symm, rfl⟩
    · have HR := Lib.hid (show farB x = false from farB_no.2 (by omega))
      go_enter Try.func14, Try.ntmps14
      go_wp2_with fail
      go_ret
      exact ⟨ret_bool HR.out.symm, rfl⟩

theorem Sl.get1 {α : Type} {f : α → Value} {w : World} {a : Option Addr} {n cap : Nat} {xs : List α} (h : Sl f w (.slice a n cap) xs) {j : Nat} {x : α} (hx : xs[j]? = some x) : ∃ b off, a = some ⟨b, off, none⟩ ∧ b < w.heap.size ∧ w.cell? ⟨b, off + j, none⟩ = some (f x) := by
  obtain ⟨a', cap', hv, _, _, hc⟩ := h
  cases hv
  exact hc j x hx

set_option maxHeartbeats 1000000 in
theorem index_any {w : World} {v : Value} {xs : List Int} (h : SlI w v xs) : Calls Try.prog 19 #[v, .func (.func 14) #[] #[]] w fun e w' => (∃ r : Int, e = .returned (.int .i64 r) ∧ decide (0 ≤ r) = xs.any farB) ∧ w = w' := by
  obtain ⟨a, cap, hv, hm, _⟩ := id h
  subst hv
  have HS := Lib.hid h
  clear h
  go_enter Try.func19, Try.ntmps19
  go_wp2_with fail
  go_loop [8] (fun i => ∃ j : Nat, j ≤ xs.length ∧ i = .int .i64 j ∧ (xs.take j).any farB = false) (fun i => xs.length - (intOf i).toNat)
  case atStart => exact ⟨0, Nat.zero_le _, rfl, rfl⟩
  case round =>
    obtain ⟨j, hj, rfl, hno⟩ := hrel
    by_cases hlt : j < xs.length
    · obtain ⟨y, hy⟩ := get_of_lt hlt
      obtain ⟨b0, off, rfl, _, c0⟩ := HS.out.get1 hy
      have i0 : (0 : Int) ≤ (j : Int) := by omega
      have i1 : (j : Int) < (xs.length : Int) := by omega
      have HF := Lib.hid (fun w => far_any y w)
      cases hf : farB y
      · have HT := Lib.hid (show (xs.take (j + 1)).any farB = false by rw [take_of hy, List.any_append, hno]; simp [hf])
        rw [hf] at HF
        clear hy hno hf
        go_wp2_with (go_at_call 14; (with_reducible refine (HF.out _).mono ?_); rintro e w' ⟨rfl, rfl⟩)
        go_round
        case rel => exact ⟨j + 1, by omega, by go_num, HT.out⟩
        case measure => simp [intOf]; omega
      · have HT := Lib.hid (show xs.any farB = true from List.any_eq_true.2 ⟨y, List.mem_of_getElem? hy, hf⟩)
        rw [hf] at HF
        clear hy hno hf
        go_wp2_with (go_at_call 14; (with_reducible refine (HF.out _).mono ?_); rintro e w' ⟨rfl, rfl⟩)
        go_ret
        exact ⟨⟨j, rfl, by rw [HT.out]; simp⟩, rfl⟩
    · obtain rfl : j = xs.length := by omega
      rw [List.take_length] at hno
      have HT := Lib.hid hno
      clear hno
      go_wp2_with fail
      go_ret
      exact ⟨⟨-1, rfl, by rw [HT.out]; rfl⟩, rfl⟩

theorem anyfar_any {w : World} {v : Value} {xs : List Int} (h : SlI w v xs) : Calls Try.prog 13 #[v, .func (.func 14) #[] #[]] w fun e w' => e = .returned (.bool (xs.any farB)) ∧ w = w' := by
  have HX := Lib.hid (index_any h)
  obtain ⟨a, cap, hv, hm, _⟩ := id h
  subst hv
  clear h
  generalize xs.any farB = r at *
  go_enter Try.func13, Try.ntmps13
  go_wp2_with (go_at_call 19; (with_reducible refine HX.out.mono ?_); rintro e w' ⟨⟨q, rfl, hq⟩, rfl⟩; have HQ := Lib.hid hq; clear hq)
  go_ret
  exact ⟨ret_bool HQ.out, rfl⟩

theorem OwS.some_of {α : Type} {f : α → List Value} {sz base : Nat} {w : World} {v : Value} {xs : List α} (h : OwS f sz w base v xs) (h0 : xs ≠ []) : ∃ g o c, v = .slice (some ⟨g, o, none⟩) xs.length c := by
  rcases h with ⟨_, h⟩ | ⟨g, o, c, h, _⟩
  · exact absurd h h0
  · exact ⟨g, o, c, h⟩

set_option maxHeartbeats 1000000 in
theorem clone_any {W w : World} {v : Value} {xs : List Int} {R : Hp} (H : Sat W w R) (h : SlS SZ 1 w v xs) (h0 : xs ≠ []) (hl : xs.length ≤ 100) :
    Calls Try.prog 20 #[v] w fun e w' => ∃ g o c, e = .returned (.slice (some ⟨g, o, none⟩) xs.length c) ∧ Sat W w' (Hp.own SZ 1 (.slice (some ⟨g, o, none⟩) xs.length c) xs * R) := by
  obtain ⟨x, xs', rfl⟩ : ∃ x l, xs = x :: l := by
    cases xs with
    | nil => exact absurd rfl h0
    | cons x l => exact ⟨x, l, rfl⟩
  have hs := h
  obtain ⟨a, cap, rfl, hm, hn, hc⟩ := h
  obtain ⟨b, off, rfl, _⟩ := hc 0 x rfl
  have HS := Lib.hid hs
  have HH := Lib.hid H
  have HN := Lib.hid h0
  clear hs hc H hn h0
  generalize x :: xs' = xs at *
  go_enter Try.func20, Try.ntmps20
  have ke := @Lib.run_eql_slice_nil Try.prog
  go_wp2_with (at_builtin; refine wpList_copyAll rfl _ _ 23 rfl Try.eZ SZ SZ_len SZ_one rfl rfl HH.out (HS.out.below (below_alloc _ _)) (by omega) ?_; intro v1 w3 hv1 h1; have H1 := Lib.hid h1; obtain ⟨av, cv, rfl⟩ := hv1; clear h1)
  go_ret
  obtain ⟨g, o, c, e⟩ := H1.out.ows.some_of HN.out
  cases e
  exact ⟨_, _, _, rfl, H1.out⟩

/-- what i says to j -/
def heardF (x : Nat) (vs ls : List Int) (j i : Nat) : Int := if x.testBit i then ls.getD (vs.length * i + j) 0 else vs.getD i 0
def heardL (x : Nat) (vs ls : List Int) (j k : Nat) : List Int := (List.range vs.length).map fun i => if i < k then heardF x vs ls j i else vs.getD i 0
theorem heardL_len (x : Nat) (vs ls : List Int) (j k : Nat) : (heardL x vs ls j k).length = vs.length := by simp [heardL]
theorem heardL_zero (x : Nat) (vs ls : List Int) (j : Nat) : heardL x vs ls j 0 = vs := by
  refine List.ext_getElem? fun i => ?_
  unfold heardL
  rw [List.getElem?_map]
  by_cases h : i < vs.length
  · rw [List.getElem?_range h]; simp [List.getD, h]
  · rw [List.getElem?_eq_none (by simpa using h), List.getElem?_eq_none (by omega)]; rfl
theorem heardL_get {x : Nat} {vs ls : List Int} {j k i : Nat} (h : i < vs.length) : (heardL x vs ls j k)[i]? = some (if i < k then heardF x vs ls j i else vs.getD i 0) := by
  unfold heardL; rw [List.getElem?_map, List.getElem?_range h]; rfl
theorem heardL_set {x : Nat} {vs ls : List Int} {j k : Nat} (h : k < vs.length) : heardL x vs ls j (k + 1) = (heardL x vs ls j k).set k (heardF x vs ls j k) := by
  refine List.ext_getElem? fun i => ?_
  rw [List.getElem?_set, heardL_len]
  by_cases hi : i < vs.length
  · rw [heardL_get hi]
    by_cases e : k = i
    · subst e; rw [if_pos rfl, if_pos h, if_pos (by omega)]
    · rw [if_neg e, heardL_get hi]
      by_cases h1 : i < k
      · rw [if_pos h1, if_pos (by omega)]
      · rw [if_neg h1, if_neg (by omega)]
  · rw [List.getElem?_eq_none (by rw [heardL_len]; omega), if_neg (by omega), List.getElem?_eq_none (by rw [heardL_len]; omega)]
theorem heardL_same {x : Nat} {vs ls : List Int} {j k : Nat} (h : k < vs.length) (hb : x.testBit k = false) : heardL x vs ls j (k + 1) = heardL x vs ls j k := by
  rw [heardL_set h]
  refine set_same ?_
  rw [heardL_get h, if_neg (by omega)]
  unfold heardF; rw [hb]; rfl

set_option maxHeartbeats 8000000 in
set_option maxRecDepth 100000 in
theorem heard_any {W w : World} {v vl : Value} {vs ls : List Int} {R : Hp} (x j : Nat) (H : Sat W w R) (h : SlS SZ 1 W v vs) (hl : SlI W vl ls) (h0 : vs ≠ []) (hn : vs.length ≤ 9) (hj : j < 9) (hx : x < 4294967296) :
    Calls Try.prog 15 #[.int .u32 x, v, vl, .int .i64 j] w fun e w' => ∃ g o c, e = .returned (.slice (some ⟨g, o, none⟩) vs.length c) ∧ Sat W w' (Hp.own SZ 1 (.slice (some ⟨g, o, none⟩) vs.length c) (heardL x vs ls j vs.length) * R) := by
  have HC := Lib.hid (clone_any H (h.below H.below) h0 (by omega))
  obtain ⟨av, cv, hv, _⟩ := h.form
  obtain ⟨al, cl, hvl, hlm, _⟩ := id hl
  subst hv hvl
  have HL := Lib.hid hl
  clear H h hl h0
  go_enter Try.func15, Try.ntmps15
  go_wp2_with (go_at_call 20; (with_reducible refine HC.out.mono ?_); rintro e w1 ⟨g, o, c, rfl, hX⟩; have HX := Lib.hid hX; clear hX)
  go_loopw [16] (fun i wr => ∃ k : Nat, k ≤ vs.length ∧ i = .int .i64 k ∧ Sat W wr (Hp.own SZ 1 (.slice (some ⟨g, o, none⟩) vs.length c) (heardL x vs ls j k) * R)) (fun i _ => vs.length - (intOf i).toNat)
  case atStart => exact ⟨0, Nat.zero_le _, rfl, by rw [heardL_zero]; exact HX.out⟩
  case round =>
    obtain ⟨k, hk, rfl, hsat⟩ := hrel
    by_cases hlt : k < vs.length
    · have i0 : (0 : Int) ≤ (k : Int) := by omega
      have i1 : (k : Int) < (vs.length : Int) := by omega
      have i2 : (vs.length : Int) ≤ 9 := by omega
      have hbit := u32_shr_and (x := x) (i := k) hx
      have HS := Lib.hid hsat
      cases ht : x.testBit k
      · rw [ht] at hbit
        have hb0 : bits .and .u32 ((x : Int) / 2 ^ k) 1 = 0 := hbit
        have HN := Lib.hid (heardL_same (x := x) (vs := vs) (ls := ls) (j := j) hlt ht)
        clear hbit ht hsat
        go_wp2_with fail
        all_goals first | (exfalso; omega) | skip
        go_roundw
        case rel => exact ⟨k + 1, by omega, by go_num, by rw [HN.out]; exact HS.out⟩
        case measure => simp [intOf]; omega
      · rw [ht] at hbit
        have hb0 : bits .and .u32 ((x : Int) / 2 ^ k) 1 = 1 := hbit
        have HN := Lib.hid (heardL_set (x := x) (vs := vs) (ls := ls) (j := j) hlt)
        have hmul : (vs.length : Int) * (k : Int) = ((vs.length * k : Nat) : Int) := by push_cast; rfl
        have hmb : vs.length * k ≤ 81 := Nat.le_trans (Nat.mul_le_mul hn (show k ≤ 9 by omega)) (by decide)
        have HF := Lib.hid (show heardF x vs ls j k = ls.getD (vs.length * k + j) 0 by unfold heardF; rw [ht]; rfl)
        obtain ⟨y, hy⟩ := get_of_lt (show k < (heardL x vs ls j k).length by rw [heardL_len]; exact hlt)
        obtain ⟨c0, f0⟩ := hsat.cell1 hy rfl
        have HP := Lib.hid (fun z : Int => hsat.put1 SZ_len (j := k) (by rw [heardL_len]; exact hlt) (u := .int .i64 z) (y := z) rfl)
        generalize vs.length * k = p at *
        have e1 : IntKind.i64.wrap ((vs.length : Int) * (k : Int)) = (p : Int) := by rw [hmul]; exact IntWalk.i64_in _ (by omega)
        have e2 : IntKind.i64.wrap ((p : Int) + (j : Int)) = ((p + j : Nat) : Int) := by rw [IntWalk.i64_in _ (by omega)]; omega
        by_cases hll : p + j < ls.length
        · obtain ⟨q, hq⟩ := get_of_lt hll
          obtain ⟨b0, off, rfl, hlb, _⟩ := HL.out.get1 hq
          have cq : wr.cell? ⟨b0, off + (p + j), none⟩ = some (.int .i64 q) := by
            obtain ⟨b1, off1, e, _, c⟩ := (HL.out.below hsat.below).get1 hq
            cases e; exact c
          have hgl := (hsat.ows.lt g rfl).1
          have l1 : ((p + j : Nat) : Int) < (ls.length : Int) := by omega
          have l0 : (0 : Int) ≤ ((p + j : Nat) : Int) := by omega
          have ld : decide (((p + j : Nat) : Int) < (ls.length : Int)) = true := by simp; omega
          have ld' : decide (p + j < ls.length) = true := by simp; omega
          have HQ := Lib.hid (show ls.getD (p + j) 0 = q by rw [List.getD, hq]; rfl)
          generalize p + j = u at *
          have hne : ¬ (b0 = g) := by omega
          clear hbit ht hsat hy hq hmul hmb hgl hlb
          go_wp2_with fail
          all_goals first | (exfalso; omega) | skip
          go_roundw
          case rel => exact ⟨k + 1, by omega, by go_num, by
            rw [HN.out, HF.out, HQ.out]
            have h2 := (HP.out 0).put1 SZ_len (j := k) (by rw [List.length_set, heardL_len]; exact hlt) (u := .int .i64 q) (y := q) rfl
            rwa [List.set_set] at h2⟩
          case measure => simp [intOf]; omega
        · have ld : decide (((p + j : Nat) : Int) < (ls.length : Int)) = false := by simp; omega
          have ld' : decide (p + j < ls.length) = false := by simp; omega
          have HQ := Lib.hid (show ls.getD (p + j) 0 = 0 by rw [List.getD, List.getElem?_eq_none (by omega)]; rfl)
          generalize p + j = u at *
          clear hbit ht hsat hy hmul hmb
          go_wp2_with fail
          all_goals first | (exfalso; omega) | skip
          go_roundw
          case rel => exact ⟨k + 1, by omega, by go_num, by rw [HN.out, HF.out, HQ.out]; exact HP.out 0⟩
          case measure => simp [intOf]; omega
    · obtain rfl : k = vs.length := by omega
      have HS := Lib.hid hsat
      clear hsat
      go_wp2_with fail
      go_ret
      exact ⟨_, _, _, rfl, HS.out⟩

theorem Sl.sls {w : World} {a : Option Addr} {n c : Nat} {xs : List Int} (h : SlI w (.slice a n c) xs) (hc : n ≤ c) : SlS SZ 1 w (.slice a n c) xs := by
  obtain ⟨a', c', e, hm, hn, hx⟩ := h
  cases e
  refine ⟨_, _, rfl, hm, ⟨hn, hc⟩, fun j x hj => ?_⟩
  obtain ⟨b, off, rfl, hlt, hcell⟩ := hx j x hj
  refine ⟨b, off, rfl, hlt, fun i u hu => ?_⟩
  have hi : i = 0 := by have := (List.getElem?_eq_some_iff.1 hu).1; simp [SZ] at this; omega
  subst hi
  simp [SZ] at hu; subst hu
  simpa using hcell
theorem Sl.len_eq {α : Type} {f : α → Value} {w : World} {a : Option Addr} {n c : Nat} {xs : List α} (h : Sl f w (.slice a n c) xs) : n = xs.length := by
  obtain ⟨a', c', e, _⟩ := h
  cases e; rfl
end Go.Proofs.Ytgbhbohleafibaa
