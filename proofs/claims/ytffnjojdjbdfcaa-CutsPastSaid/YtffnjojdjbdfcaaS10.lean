/- Ranges over functions in the rounds of a loop: the marks they leave, in a list. Over any program. No condition. -/
import Derived.Test.YtffnjojdjbdfcaaS9
namespace Go.Proofs.Ytffnjojdjbdfcaa
open Go.RowKit
set_option linter.unusedVariables false

/-- what the ranges have left to come to -/
def marksD (Ds : List Nat) : List Deferred := Ds.map fun D => { target := .collected D, args := #[] }
def marksH : List Nat → Hp
  | [] => 1
  | D :: Ds => Hp.obj D (.deferred (some [])) * marksH Ds
theorem leaves_marks {P : Program} {fn : Func} {R : Ending → World → Prop} {tmps : Array Value} {W : World} {A : Hp} {v : Value} (hr : ∀ w', (results fn tmps).run P w' = .ok v w')
    (h : ∀ w', Sat W w' A → R (.returned v) w') : ∀ (Ds : List Nat) (w : World), Sat W w (marksH Ds * A) → LeavesInM Fence.wide 0 P fn tmps R (marksD Ds) .returning w
  | [], w, H => ⟨_, hr _, h _ (by have : Sat W w (1 * A) := H; rwa [Hp.one_mul] at this)⟩
  | D :: Ds, w, H => by
    have H1 : Sat W w (Hp.obj D (.deferred (some [])) * (marksH Ds * A)) := H.assoc
    exact ⟨by simp, .inl ⟨_, _, rfl, run_takeDeferred H1.obj, leaves_marks hr h Ds _ (H1.putObj _).drop⟩⟩
theorem marks_many {P : Program} {fn : Func} {R : Ending → World → Prop} {tmps : Array Value} {Ds : List Nat} {W w : World} {A : Hp} (H : Sat W w (marksH Ds * A)) {v : Value} (hr : ∀ w', (results fn tmps).run P w' = .ok v w')
    (h : ∀ w', Sat W w' A → R (.returned v) w') : bodyPostM Fence.wide 0 P fn R .ret { tmps := tmps, defers := marksD Ds } w := leaves_marks hr h Ds w H
end Go.Proofs.Ytffnjojdjbdfcaa
