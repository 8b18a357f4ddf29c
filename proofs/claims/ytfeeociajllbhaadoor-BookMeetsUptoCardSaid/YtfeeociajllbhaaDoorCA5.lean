/- The path from the first one. -/
import Derived.Test.YtfeeociajllbhaaDoorCA4
import Derived.Test.YtfeeociajllbhaaDoorW2
namespace Go.Proofs.YtfeeociajllbhaaDoor
open Go.RowKit
set_option linter.unusedVariables false
attribute [local go_sem] EffAt EffUpon
namespace Chn
/-- turned at both ends -/
def Rv (xs L : List Int) (k : Nat) : Prop := L.length = xs.length ∧ ∀ q, q < xs.length → L[q]? = if q < k ∨ xs.length ≤ q + k then xs[xs.length - 1 - q]? else xs[q]?
theorem Rv.zero (xs : List Int) : Rv xs xs 0 := ⟨rfl, fun q hq => by rw [if_neg (by omega)]⟩
theorem Rv.next {xs L : List Int} {k m : Nat} (h : Rv xs L k) (hkm : k + m + 1 = xs.length) (hlt : k < m) {x y : Int} (hx : L[k]? = some x) (hy : L[m]? = some y) : Rv xs ((L.set k y).set m x) (k + 1) := by
  obtain ⟨h1, h2⟩ := h
  refine ⟨by simp [h1], fun q hq => ?_⟩
  have hk := h2 k (by omega)
  have hm := h2 m (by omega)
  rw [hx, if_neg (by omega)] at hk
  rw [hy, if_neg (by omega)] at hm
  rw [List.getElem?_set]
  by_cases e : m = q
  · subst e
    rw [if_pos rfl, if_pos (by simp; omega), if_pos (by omega), show xs.length - 1 - m = k by omega]
    exact hk
  · rw [if_neg e, List.getElem?_set]
    by_cases e2 : k = q
    · subst e2
      rw [if_pos rfl, if_pos (by omega), if_pos (by omega), show xs.length - 1 - k = m by omega]
      exact hm
    · rw [if_neg e2, h2 q hq]
      by_cases e3 : q < k ∨ xs.length ≤ q + k
      · rw [if_pos e3, if_pos (by omega)]
      · rw [if_neg e3, if_neg (by omega)]
theorem Rv.done {xs L : List Int} {k m : Nat} (h : Rv xs L k) (hkm : k + m + 1 = xs.length) (hge : m ≤ k) (hkm2 : k ≤ m + 1) : L = xs.reverse := by
  obtain ⟨h1, h2⟩ := h
  refine List.ext_getElem? fun q => ?_
  by_cases hq : q < xs.length
  · rw [List.getElem?_reverse hq, h2 q hq]
    split
    · rfl
    · rename_i hn
      have : q = xs.length - 1 - q := by omega
      rw [← this]
  · rw [List.getElem?_eq_none (by omega), List.getElem?_eq_none (by simp; omega)]

set_option maxHeartbeats 8000000 in
set_option maxRecDepth 100000 in
theorem reverse_any {W w : World} {g o n cap : Nat} {xs : List Int} {R : Hp} (H : Sat W w (Hp.own SZ 1 (.slice (some ⟨g, o, none⟩) n cap) xs * R)) (hn : n = xs.length) (hl : xs.length ≤ 1000) (h0 : 0 < xs.length) :
    Calls Tryd.prog 25 #[.slice (some ⟨g, o, none⟩) n cap] w fun e w' => (∃ u, e = .returned u) ∧ Sat W w' (Hp.own SZ 1 (.slice (some ⟨g, o, none⟩) n cap) xs.reverse * R) := by
  subst hn
  have HH := Lib.hid H
  clear H
  have l0 : (xs.length : Int) ≤ 1000 := by omega
  have l1 : (1 : Int) ≤ (xs.length : Int) := by omega
  go_enter Tryd.func25, Tryd.ntmps25
  go_wp2_with fail
  go_loopw [2, 3] (fun i j wr => ∃ (k m : Nat) (L : List Int), k + m + 1 = xs.length ∧ k ≤ m + 1 ∧ i = .int .i64 k ∧ j = .int .i64 m ∧ Rv xs L k ∧ Sat W wr (Hp.own SZ 1 (.slice (some ⟨g, o, none⟩) xs.length cap) L * R)) (fun _ j _ => (intOf j).toNat)
  case atStart => exact ⟨0, xs.length - 1, xs, by omega, by omega, rfl, by congr 1; omega, Rv.zero xs, HH.out⟩
  case round =>
    obtain ⟨k, m, L, hkm, hk1, rfl, rfl, hrv, hsat⟩ := hrel
    have i0 : (0 : Int) ≤ (k : Int) := by omega
    have i1 : (k : Int) < (xs.length : Int) := by omega
    have j0 : (0 : Int) ≤ (m : Int) := by omega
    have j1 : (m : Int) < (xs.length : Int) := by omega
    by_cases hlt : k < m
    · have hll := hrv.1
      obtain ⟨x, hx⟩ := get_of_lt (show k < L.length by omega)
      obtain ⟨y, hy⟩ := get_of_lt (show m < L.length by omega)
      have HRV := Lib.hid (hrv.next hkm hlt hx hy)
      have HXY := Lib.hid (And.intro hx hy)
      have HS := Lib.hid hsat
      have HL := Lib.hid (show k < L.length ∧ m < L.length ∧ k ≠ m by omega)
      have hlt1 : (k : Int) < (m : Int) := by omega
      have hd : decide (k < m) = true := decide_eq_true hlt
      clear hll hx hy hrv hsat
      go_wp2_with fail
      refine region_in (W := W) HS.out fun w1 H1 => ?_
      have hx1 := (H1.cell1 HXY.out.1 rfl).1
      have hy1 := (H1.cell1 HXY.out.2 rfl).1
      obtain ⟨St, hne, F, hF, hFC⟩ := fact_class (fun w' => w'.cell? ⟨g, o + k, none⟩ = some (.int .i64 x) ∧ w'.cell? ⟨g, o + m, none⟩ = some (.int .i64 y)) (w := w1) ⟨hx1, hy1⟩
      have g0 : ∀ s, (F s).cell? ⟨g, o + k, none⟩ = some (.int .i64 x) := fun s => (hF s).1
      have g1 : ∀ s, (F s).cell? ⟨g, o + m, none⟩ = some (.int .i64 y) := fun s => (hF s).2
      obtain ⟨Stt, hnet, Ft, hFt, hFCt⟩ := fact_class (fun _ => True) (w := w1) trivial
      have HFC := Lib.hid (And.intro hFC hFCt)
      clear hF hFC hFt hFCt hx1 hy1
      refine wp_region_ord (fun j => j == 13) 14 [0, 1, 2, 3, 4, 5, 6, 7, 8, 9, 10, 11, 12, 13] (stC (fun w' => Sat W w' (Hp.own SZ 1 (.slice (some ⟨g, o, none⟩) xs.length cap) L * R)) (fun w' => Sat W w' (Hp.own SZ 1 (.slice (some ⟨g, o, none⟩) xs.length cap) (L.set k y) * R))) (by kernel_rfl) (by kernel_rfl) (H1.drawn _) ?_
      refine gWalk_val (fun w' => ∃ s, w' = Ft s) rfl rfl rfl rfl (fun us w' h => HFC.out.2 _ trivial) (fun K hK => ?_); simp only [List.getElem_toArray, List.getElem_cons_zero, List.getElem_cons_succ]; go_big_quiet_op; refine hK _ ?_; clear hK K
      refine gWalk_val (fun w' => ∃ s, w' = Ft s) rfl rfl rfl rfl (fun us w' h => HFC.out.2 _ trivial) (fun K hK => ?_); simp only [List.getElem_toArray, List.getElem_cons_zero, List.getElem_cons_succ]; go_big_quiet_op; refine hK _ ?_; clear hK K
      refine gWalk_val (fun w' => ∃ s, w' = Ft s) rfl rfl rfl rfl (fun us w' h => HFC.out.2 _ trivial) (fun K hK => ?_); simp only [List.getElem_toArray, List.getElem_cons_zero, List.getElem_cons_succ]; go_big_quiet_op; refine hK _ ?_; clear hK K
      refine gWalk_val (fun w' => ∃ s, w' = Ft s) rfl rfl rfl rfl (fun us w' h => HFC.out.2 _ trivial) (fun K hK => ?_); simp only [List.getElem_toArray, List.getElem_cons_zero, List.getElem_cons_succ]; go_big_quiet_op; refine hK _ ?_; clear hK K
      refine gWalk_val (fun w' => ∃ s, w' = Ft s) rfl rfl rfl rfl (fun us w' h => HFC.out.2 _ trivial) (fun K hK => ?_); simp only [List.getElem_toArray, List.getElem_cons_zero, List.getElem_cons_succ]; go_big_quiet_op; refine hK _ ?_; clear hK K
      refine gWalk_val (fun w' => ∃ s, w' = Ft s) rfl rfl rfl rfl (fun us w' h => HFC.out.2 _ trivial) (fun K hK => ?_); simp only [List.getElem_toArray, List.getElem_cons_zero, List.getElem_cons_succ]; go_big_quiet_op; refine hK _ ?_; clear hK K
      refine gWalk_val (fun w' => ∃ s, w' = Ft s) rfl rfl rfl rfl (fun us w' h => HFC.out.2 _ trivial) (fun K hK => ?_); simp only [List.getElem_toArray, List.getElem_cons_zero, List.getElem_cons_succ]; go_big_quiet_op; refine hK _ ?_; clear hK K
      refine gWalk_val0 (fun w' => ∃ s, w' = F s) rfl rfl rfl rfl (by kernel_rfl) (fun w' h => HFC.out.1 _ ⟨(Sat.cell1 h HXY.out.1 rfl).1, (Sat.cell1 h HXY.out.2 rfl).1⟩) (fun K hK => ?_); simp only [List.getElem_toArray, List.getElem_cons_zero, List.getElem_cons_succ]; go_big_quiet_op; refine hK _ ?_; clear hK K
      refine gWalk_val (fun w' => ∃ s, w' = Ft s) rfl rfl rfl rfl (fun us w' h => HFC.out.2 _ trivial) (fun K hK => ?_); simp only [List.getElem_toArray, List.getElem_cons_zero, List.getElem_cons_succ]; go_big_quiet_op; refine hK _ ?_; clear hK K
      refine gWalk_val (fun w' => ∃ s, w' = Ft s) rfl rfl rfl rfl (fun us w' h => HFC.out.2 _ trivial) (fun K hK => ?_); simp only [List.getElem_toArray, List.getElem_cons_zero, List.getElem_cons_succ]; go_big_quiet_op; refine hK _ ?_; clear hK K
      refine gWalk_val (fun w' => ∃ s, w' = Ft s) rfl rfl rfl rfl (fun us w' h => HFC.out.2 _ trivial) (fun K hK => ?_); simp only [List.getElem_toArray, List.getElem_cons_zero, List.getElem_cons_succ]; go_big_quiet_op; refine hK _ ?_; clear hK K
      refine gWalk_val0 (fun w' => ∃ s, w' = F s) rfl rfl rfl rfl (by kernel_rfl) (fun w' h => HFC.out.1 _ ⟨(Sat.cell1 h HXY.out.1 rfl).1, (Sat.cell1 h HXY.out.2 rfl).1⟩) (fun K hK => ?_); simp only [List.getElem_toArray, List.getElem_cons_zero, List.getElem_cons_succ]; go_big_quiet_op; refine hK _ ?_; clear hK K
      refine gWalk_val (fun w' => ∃ s, w' = Ft s) rfl rfl rfl rfl (fun us w' h => HFC.out.2 _ trivial) (fun K hK => ?_); simp only [List.getElem_toArray, List.getElem_cons_zero, List.getElem_cons_succ]; go_big_quiet_op; refine hK _ ?_; clear hK K
      refine gWalk_st (fun w => w.setCell ⟨g, o + k, none⟩ (.int .i64 y)) rfl rfl rfl (fun w' h => ?_) (fun w' h => Sat.put1 h SZ_len HL.out.1 rfl) ?_
      · obtain ⟨c1, c2⟩ := Sat.cell1 h HXY.out.1 rfl
        simp only [List.getElem_toArray, List.getElem_cons_zero, List.getElem_cons_succ]
        go_simp
      simp only [List.getElem_toArray, List.getElem_cons_zero, List.getElem_cons_succ, Act.put, List.setIfInBounds_toArray, List.set_cons_succ, List.set_cons_zero]
      intro w2 H2
      have H3 : Sat W w2 (Hp.own SZ 1 (.slice (some ⟨g, o, none⟩) xs.length cap) (L.set k y) * R) := H2
      obtain ⟨d1, d2⟩ := H3.cell1 (j := m) (x := y) (by rw [List.getElem?_set, if_neg HL.out.2.2]; exact HXY.out.2) rfl
      have H4 := Lib.hid (H3.put1 SZ_len (j := m) (by rw [List.length_set]; exact HL.out.2.1) (u := .int .i64 x) (y := x) rfl)
      clear H2 H3 H1 g0 g1
      simp only [List.drop_succ_cons, List.drop_zero]
      go_wp2_with fail
      go_roundw
      case rel => exact ⟨k + 1, m - 1, _, by omega, by omega, by go_num, by congr 1; omega, HRV.out, H4.out⟩
      case measure => simp [intOf]; omega
    · have HE := Lib.hid (hrv.done hkm (by omega) hk1)
      have HS := Lib.hid hsat
      have hd : decide (k < m) = false := decide_eq_false hlt
      have hlt1 : (m : Int) ≤ (k : Int) := by omega
      clear hrv hsat
      go_wp2_with fail
      go_end0
      exact ⟨⟨_, rfl⟩, HE.out ▸ HS.out⟩

/-- up from b -/
def ups (l : List (Int × Int)) : Nat → Nat → List Nat
  | 0, b => [b]
  | n + 1, b => if b = 0 then [0] else b :: ups l n (pr l b)
theorem ups_first (l : List (Int × Int)) : ∀ (n b : Nat), (ups l n b)[0]? = some b
  | 0, b => rfl
  | n + 1, b => by unfold ups; split
                   · rename_i h; rw [h]; rfl
                   · rfl
theorem ups_cons (l : List (Int × Int)) (n b : Nat) : ∃ t, ups l n b = b :: t := by
  have := ups_first l n b
  cases h : ups l n b with
  | nil => rw [h] at this; simp at this
  | cons x t => rw [h] at this; simp at this; exact ⟨t, by rw [this]⟩
theorem ups_len (l : List (Int × Int)) : ∀ (n b : Nat), (ups l n b).length ≤ n + 1
  | 0, b => by simp [ups]
  | n + 1, b => by unfold ups; split
                   · simp
                   · simp; exact ups_len l n _
theorem OkC.ups_mem {l : List (Int × Int)} (h : OkC l) : ∀ (n b : Nat), b ≤ n → b < l.length → ∀ c, c ∈ ups l n b ↔ Anc l c b
  | 0, b, hn, hl, c => by
    obtain rfl : b = 0 := by omega
    simp only [ups, List.mem_singleton]
    constructor
    · intro e; subst e; exact .self 0
    · intro ha; cases ha with
      | self => rfl
      | step h0 _ => omega
  | n + 1, b, hn, hl, c => by
    unfold ups
    split
    · rename_i e
      subst e
      simp only [List.mem_singleton]
      constructor
      · intro e; subst e; exact .self 0
      · intro ha; cases ha with
        | self => rfl
        | step h0 _ => omega
    · rename_i e
      have hp := h.prlt (b := b) (by omega) hl
      rw [List.mem_cons, h.ups_mem n _ (by omega) (by omega)]
      constructor
      · rintro (e | e)
        · subst e; exact .self c
        · exact .step (by omega) e
      · intro ha; cases ha with
        | self => exact .inl rfl
        | step h0 h2 => exact .inr h2
theorem OkC.ups_up {l : List (Int × Int)} (h : OkC l) : ∀ (n b : Nat), b ≤ n → b < l.length → IsUp l (ups l n b)
  | 0, b, hn, hl => by
    obtain rfl : b = 0 := by omega
    refine ⟨fun i c hc => ?_, fun i c x hc hx => ?_, fun i c d hc hd => ?_⟩
    · cases i with
      | zero => simp [ups] at hc; omega
      | succ i => simp [ups] at hc
    · cases i with
      | zero => simp [ups] at hc; subst hc; rw [h.first] at hx; cases hx; simp [ups]
      | succ i => simp [ups] at hc
    · simp [ups] at hd
  | n + 1, b, hn, hl => by
    by_cases e : b = 0
    · subst e
      have e2 : ups l (n + 1) 0 = ups l 0 0 := by simp [ups]
      rw [e2]; exact h.ups_up 0 0 (Nat.le_refl _) hl
    · have hp := h.prlt (b := b) (by omega) hl
      have ih := h.ups_up n (pr l b) (by omega) (by omega)
      have e2 : ups l (n + 1) b = b :: ups l n (pr l b) := by rw [ups, if_neg e]
      rw [e2]
      refine ⟨fun i c hc => ?_, fun i c x hc hx => ?_, fun i c d hc hd => ?_⟩
      · cases i with
        | zero => simp at hc; omega
        | succ i => exact ih.lt i c (by simpa using hc)
      · cases i with
        | zero => simp at hc; subst hc; simp only [Nat.zero_add, List.getElem?_cons_succ, ups_first]; exact (h.par (by omega) hx).1
        | succ i => simp only [List.getElem?_cons_succ] at hc ⊢; exact ih.next i c x hc hx
      · cases i with
        | zero => simp only [Nat.zero_add, List.getElem?_cons_succ, List.getElem?_cons_zero, ups_first] at hc hd; cases hc; cases hd; exact hp
        | succ i => simp only [List.getElem?_cons_succ] at hc hd; exact ih.down i c d hc hd
theorem OkC.ups_last {l : List (Int × Int)} (h : OkC l) : ∀ (n b : Nat), b ≤ n → b < l.length → (ups l n b)[(ups l n b).length - 1]? = some 0
  | 0, b, hn, hl => by obtain rfl : b = 0 := by omega
                       rfl
  | n + 1, b, hn, hl => by
    unfold ups
    split
    · rfl
    · have hp := h.prlt (b := b) (by omega) hl
      obtain ⟨t, ht⟩ := ups_cons l n (pr l b)
      have ih := h.ups_last n (pr l b) (by omega) (by omega)
      rw [ht] at ih ⊢
      simpa using ih
def nI (xs : List Nat) : List Int := xs.map fun c : Nat => (c : Int)
theorem at1_map (xs : List Nat) : (List.range xs.length).map (at1 xs) = nI xs := by
  refine List.ext_getElem? fun i => ?_
  rw [List.getElem?_map, nI, List.getElem?_map]
  by_cases h : i < xs.length
  · rw [List.getElem?_range h, List.getElem?_eq_getElem h]
    simp [at1, List.getElem?_eq_getElem h]
  · rw [List.getElem?_eq_none (by simp; omega), List.getElem?_eq_none (by omega)]; rfl

theorem upf_any {W w : World} {v : Value} {b : Int} {R : Hp} (H : Sat W w R) (hv : v.oneCell' = true) :
    Calls Tryd.prog 24 #[v, .int .i64 b] w fun e w' => ∃ Bb Bl, e = .returned (.func (.func 34) #[] #[.pointer (some ⟨Bb, 0, none⟩), .pointer (some ⟨Bl, 0, none⟩)]) ∧ Sat W w' (Hp.rec_ Bb [.int .i64 b] * (Hp.rec_ Bl [v] * R)) := by
  have H1 := H.allocAt #[v] 27 [v] rfl (b := w.heap.size) rfl
  have H2 := Lib.hid (H1.allocAt #[.int .i64 b] 3 [.int .i64 b] rfl (b := w.heap.size + 1) (by simp))
  clear H H1
  go_enter Tryd.func24, Tryd.ntmps24
  go_wp2_with fail
  go_ret
  exact ⟨_, _, rfl, H2.out⟩
end Chn
end Go.Proofs.YtfeeociajllbhaaDoor
