/- The path from the first one. -/
import Derived.Test.YtghnahckopokhaaCA4
import Derived.Test.YtghnahckopokhaaW2
namespace Go.Proofs.Ytghnahckopokhaa
open Go.RowKit
set_option linter.unusedVariables false
attribute [local go_sem] EffAt EffUpon
namespace Chn
/-- turned at both ends -/
def ups (l : List (Int × Int)) : Nat → Nat → List Nat
  | 0, b => [b]
  | n + 1, b => if b = 0 then [0] else b :: ups l n (pr l b)
theorem ups_first (l : List (Int × Int)) : ∀ (n b : Nat), (ups l n b)[0]? = some b
  | 0, b => rfl
  | n + 1, b => by unfold ups; split
                   · rename_i h; rw [h]; rfl
                   · rfl
theorem ups_cons (l : List (Int × Int)) (n b : Nat) : ∃ t, ups l n b = b :: t := by
  have := ups_first l n b
  cases h : ups l n b with
  | nil => rw [h] at this; simp at this
  | cons x t => rw [h] at this; simp at this; exact ⟨t, by rw [this]⟩
theorem ups_len (l : List (Int × Int)) : ∀ (n b : Nat), (ups l n b).length ≤ n + 1
  | 0, b => by simp [ups]
  | n + 1, b => by unfold ups; split
                   · simp
                   · simp; exact ups_len l n _
theorem OkC.ups_mem {l : List (Int × Int)} (h : OkC l) : ∀ (n b : Nat), b ≤ n → b < l.length → ∀ c, c ∈ ups l n b ↔ Anc l c b
  | 0, b, hn, hl, c => by
    obtain rfl : b = 0 := by omega
    simp only [ups, List.mem_singleton]
    constructor
    · intro e; subst e; exact .self 0
    · intro ha; cases ha with
      | self => rfl
      | step h0 _ => omega
  | n + 1, b, hn, hl, c => by
    unfold ups
    split
    · rename_i e
      subst e
      simp only [List.mem_singleton]
      constructor
      · intro e; subst e; exact .self 0
      · intro ha; cases ha with
        | self => rfl
        | step h0 _ => omega
    · rename_i e
      have hp := h.prlt (b := b) (by omega) hl
      rw [List.mem_cons, h.ups_mem n _ (by omega) (by omega)]
      constructor
      · rintro (e | e)
        · subst e; exact .self c
        · exact .step (by omega) e
      · intro ha; cases ha with
        | self => exact .inl rfl
        | step h0 h2 => exact .inr h2
theorem OkC.ups_up {l : List (Int × Int)} (h : OkC l) : ∀ (n b : Nat), b ≤ n → b < l.length → IsUp l (ups l n b)
  | 0, b, hn, hl => by
    obtain rfl : b = 0 := by omega
    refine ⟨fun i c hc => ?_, fun i c x hc hx => ?_, fun i c d hc hd => ?_⟩
    · cases i with
      | zero => simp [ups] at hc; omega
      | succ i => simp [ups] at hc
    · cases i with
      | zero => simp [ups] at hc; subst hc; rw [h.first] at hx; cases hx; simp [ups]
      | succ i => simp [ups] at hc
    · simp [ups] at hd
  | n + 1, b, hn, hl => by
    by_cases e : b = 0
    · subst e
      have e2 : ups l (n + 1) 0 = ups l 0 0 := by simp [ups]
      rw [e2]; exact h.ups_up 0 0 (Nat.le_refl _) hl
    · have hp := h.prlt (b := b) (by omega) hl
      have ih := h.ups_up n (pr l b) (by omega) (by omega)
      have e2 : ups l (n + 1) b = b :: ups l n (pr l b) := by rw [ups, if_neg e]
      rw [e2]
      refine ⟨fun i c hc => ?_, fun i c x hc hx => ?_, fun i c d hc hd => ?_⟩
      · cases i with
        | zero => simp at hc; omega
        | succ i => exact ih.lt i c (by simpa using hc)
      · cases i with
        | zero => simp at hc; subst hc; simp only [Nat.zero_add, List.getElem?_cons_succ, ups_first]; exact (h.par (by omega) hx).1
        | succ i => simp only [List.getElem?_cons_succ] at hc ⊢; exact ih.next i c x hc hx
      · cases i with
        | zero => simp only [Nat.zero_add, List.getElem?_cons_succ, List.getElem?_cons_zero, ups_first] at hc hd; cases hc; cases hd; exact hp
        | succ i => simp only [List.getElem?_cons_succ] at hc hd; exact ih.down i c d hc hd
theorem OkC.ups_last {l : List (Int × Int)} (h : OkC l) : ∀ (n b : Nat), b ≤ n → b < l.length → (ups l n b)[(ups l n b).length - 1]? = some 0
  | 0, b, hn, hl => by obtain rfl : b = 0 := by omega
                       rfl
  | n + 1, b, hn, hl => by
    unfold ups
    split
    · rfl
    · have hp := h.prlt (b := b) (by omega) hl
      obtain ⟨t, ht⟩ := ups_cons l n (pr l b)
      have ih := h.ups_last n (pr l b) (by omega) (by omega)
      rw [ht] at ih ⊢
      simpa using ih
def nI (xs : List Nat) : List Int := xs.map fun c : Nat => (c : Int)
theorem at1_map (xs : List Nat) : (List.range xs.length).map (at1 xs) = nI xs := by
  refine List.ext_getElem? fun i => ?_
  rw [List.getElem?_map, nI, List.getElem?_map]
  by_cases h : i < xs.length
  · rw [List.getElem?_range h, List.getElem?_eq_getElem h]
    simp [at1, List.getElem?_eq_getElem h]
  · rw [List.getElem?_eq_none (by simp; omega), List.getElem?_eq_none (by omega)]; rfl

theorem upf_any {W w : World} {v : Value} {b : Int} {R : Hp} (H : Sat W w R) (hv : v.oneCell' = true) :
    Calls Try.prog 32 #[v, .int .i64 b] w fun e w' => ∃ Bb Bl, e = .returned (.func (.func 34) #[] #[.pointer (some ⟨Bb, 0, none⟩), .pointer (some ⟨Bl, 0, none⟩)]) ∧ Sat W w' (Hp.rec_ Bb [.int .i64 b] * (Hp.rec_ Bl [v] * R)) := by
  have H1 := H.allocAt #[v] 25 [v] rfl (b := w.heap.size) rfl
  have H2 := Lib.hid (H1.allocAt #[.int .i64 b] 3 [.int .i64 b] rfl (b := w.heap.size + 1) (by simp))
  clear H H1
  go_enter Try.func32, Try.ntmps32
  go_wp2_with fail
  go_ret
  exact ⟨_, _, rfl, H2.out⟩
end Chn
end Go.Proofs.Ytghnahckopokhaa
