/- A range over a function that hands on what it has just made: a round's arguments come with their part of memory. Over any program. No condition. -/
import Derived.Test.YtffnjojdjbdfcaaS9
namespace Go.Proofs.Ytffnjojdjbdfcaa
open Go.RowKit
set_option linter.unusedVariables false

/-- what the iterator is told of yield: k rounds are over, one more goes; what it hands on is gone with it -/
def YieldsV (P : Program) (W : World) (l : Nat) (encs : Nat → Value → Array Value) (Fr : Nat → Value → Hp) (n : Nat) (B : Nat → Hp) : Prop :=
  ∀ k v w R, k < n → Sat W w (Fr k v * (B k * R)) → YieldAt Fence.wide 0 P l (encs k v) w fun e w' => e = .returned (.bool true) ∧ Sat W w' (B (k + 1) * R)

theorem wp_rangeFuncV {P : Program} {g : Operand} {ps : Array Tmp} {assign body : Code} {Q : Exit → Act → World → Prop} {a : Act} {W w : World}
    {gf : Nat} {lb : Array Value} (hg : a.eval g = .func (.func gf) #[] lb) (eg : ∀ args w, (callFunc gf args).run P w = .ok (.enter gf args) w)
    (encs : Nat → Value → Array Value) (Fr : Nat → Value → Hp) (n : Nat) (hps : ∀ k v, (encs k v).size = ps.size) (A : Nat → Hp) (R0 R1 : Hp) (H : Sat W w (A 0 * R0))
    (iter : ∀ (l : Nat) (B : Nat → Hp) (w1 : World), YieldsV P W l encs Fr n B → Sat W w1 (B 0 * R0) → Calls P gf (#[.func (.yield l) #[] #[]] ++ lb) w1 fun e w' => (∃ v, e = .returned v) ∧ Sat W w' (B n * R1))
    (a₁ : Nat → Value → Act)
    (hassign : ∀ (l k : Nat) (v : Value) (w1 : World) (K : Act → World → Prop), k < n → K (a₁ k v) w1 →
      assign.wpIn (Fence.wide.inRound l) 0 P (Exit.then K (fun _ _ _ => False)) { tmps := (ps.zip (encs k v)).foldl (fun t (p, v) => t.setIfInBounds p v) a.tmps, defers := [] } w1)
    (hbody : ∀ (l k : Nat) (v : Value) (w1 : World) (R : Hp), k < n → Sat W w1 (Fr k v * (A k * R)) → body.wpIn (Fence.wide.inRound l) 0 P (roundEnd fun w' => Sat W w' (A (k + 1) * R)) (a₁ k v) w1)
    (hdone : ∀ (D : Nat) (w' : World), W.heap.size ≤ D → Sat W w' (Hp.obj D (.deferred (some [])) * (A n * R1)) → Q .normal { a with defers := { target := .collected D, args := #[] } :: a.defers } w') :
    (Code.rangeFunc g ps assign body).wp P Q a w := by
  refine wpIn_wide (n := 0) |>.1 (wpIn_rangeFunc fun fn _ => ?_)
  have H1 := (H.allocObj (.deferred (some [])) rfl).allocObj (.loop (recOf_ fn a.tmps ps assign body w.heap.size .ready)) (b := w.heap.size + 1) (by simp)
  obtain ⟨W1, hW1⟩ : ∃ W1, W1 = (w.alloc (.deferred (some []))).alloc (.loop (recOf_ fn a.tmps ps assign body w.heap.size .ready)) := ⟨_, rfl⟩
  rw [← hW1] at H1
  refine ⟨w.heap.size + 1, [{ target := .collected w.heap.size, args := #[] }], W1, { target := .fn (.func gf) lb, args := #[.func (.yield (w.heap.size + 1)) #[] #[]] }, W1, gf,
    #[.func (.yield (w.heap.size + 1)) #[] #[]] ++ lb, W1, by rw [hW1]; exact run_enterLoop_outer _ _ _ _ _, ?_, fun _ _ => trivial, ?_, fun h => by simp [Fence.wide] at h, ?_⟩
  · simp only [resolve, hg]
    simp [go_sem]
  · simp [invoke, go_sem, eg]
  · refine callsIn_wide.2 ?_
    have hY : YieldsV P W (w.heap.size + 1) encs Fr n (fun k => Hp.obj (w.heap.size + 1) (.loop (recOf_ fn a.tmps ps assign body w.heap.size .ready)) * (Hp.obj w.heap.size (.deferred (some [])) * A k)) := by
      intro k v w2 R hk hs
      have hs1 : Sat W w2 (Hp.obj (w.heap.size + 1) (.loop (recOf_ fn a.tmps ps assign body w.heap.size .ready)) * (Fr k v * (A k * (Hp.obj w.heap.size (.deferred (some [])) * R)))) := hs.cast (by dsimp only; ac_rfl)
      have hl := hs1.obj
      refine ⟨fn, _, assign, body, run_yield (P := P) (args := encs k v) hl (hps k v), roundIn_of_wpIn trivial (hassign _ k v w2 _ hk ⟨_, run_beginRound hl rfl, ?_⟩)⟩
      have hs2 := hs1.putObj (.loop (recOf_ fn a.tmps ps assign body w.heap.size .busy))
      have hs3 : Sat W (w2.putObj (w.heap.size + 1) (.loop (recOf_ fn a.tmps ps assign body w.heap.size .busy))) (Fr k v * (A k * (Hp.obj (w.heap.size + 1) (.loop (recOf_ fn a.tmps ps assign body w.heap.size .busy)) * (Hp.obj w.heap.size (.deferred (some [])) * R)))) := hs2.cast (by ac_rfl)
      refine wpIn_mono (hbody _ k v _ _ hk hs3) fun e a3 w3 hp => ?_
      cases e with
      | normal =>
        have h4 : Sat W w3 (A (k + 1) * (Hp.obj (w.heap.size + 1) (.loop (recOf_ fn a.tmps ps assign body w.heap.size .busy)) * (Hp.obj w.heap.size (.deferred (some [])) * R))) := hp
        have h5 := h4.sw
        have h6 := h5.putObj (.loop (recOf_ fn a.tmps ps assign body w.heap.size .ready))
        exact ⟨_, _, run_endRound none h5.obj, rfl, h6.cast (by ac_rfl)⟩
      | exit id => exact False.elim hp
      | goto t => exact False.elim hp
      | ret => exact False.elim hp
      | panic c => exact False.elim hp
      | outgrown => exact False.elim hp
    refine (iter _ _ _ hY (H1.cast (by ac_rfl))).mono ?_
    rintro e w2 ⟨⟨v, rfl⟩, hs⟩
    have hs1 := hs.assoc
    have hl := hs1.obj
    have h2 := hs1.putObj (.loop { recOf_ fn a.tmps ps assign body w.heap.size .ready with state := .exhausted })
    exact ⟨none, _, run_endLoop (P := P) hl (by simp [recOf_]), hdone _ _ (Nat.le_trans H.size (Nat.le_refl _)) (h2.drop.cast (by ac_rfl))⟩
end Go.Proofs.Ytffnjojdjbdfcaa
