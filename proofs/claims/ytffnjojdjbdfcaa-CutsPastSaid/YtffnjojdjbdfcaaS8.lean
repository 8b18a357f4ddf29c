/- A statement that stores, and leaves the order of its reads open. Over any program. No condition. -/
import Derived.Test.YtffnjojdjbdfcaaS3
namespace Go.Proofs.Ytffnjojdjbdfcaa
open Go.RowKit
set_option linter.unusedVariables false

section
variable {P : Program} {ops : Array Oper} {md : Region.Mode} {eff : Nat → Bool} {C : List Value → World → Prop} {T : List Value → Act → Prop} {i : Nat} {rest : List Nat} {vs : List Value} {a : Act} {o : Oper}

/-- an operation that reads alone, of this stage alone -/
theorem gWalk_val0 (D : World → Prop) (ho : ops[i]? = some o) (hw : Region.wanted o (yielded ops a.tmps) = true) (he : eff i = false)
    (hno : valued o.op = true) (hhi : decide (hiOf md ops eff i ≤ vs.length) = true) (hD : ∀ w, C vs w → D w)
    (h : ∀ K : Act → Prop, (∀ a, gWalk P md ops eff C T rest vs a → K a) → o.quiet P a D K) : gWalk P md ops eff C T (i :: rest) vs a := by
  obtain ⟨v, h1, h2⟩ := h _ (fun _ h => h)
  unfold gWalk
  simp only [ho, hw, if_true, he, Bool.false_eq_true, if_false]
  refine ⟨v, fun us hp hl w hc => ?_, h2⟩
  have : vs = us := hp.eq_of_length_le (Nat.le_trans hl (of_decide_eq_true hhi))
  subst this
  have h3 := h1 w (hD w hc)
  unfold Oper.quietAt at h3
  unfold EffAt
  have hn := noEnter (P := P) hno a.eval w
  generalize (execOp a.eval o).run P w = r at *
  cases r with
  | ok n w' =>
    cases n <;> simp only [Oper.quietUpon] at h3 <;> simp only [EffUpon]
    case value u => obtain ⟨e1, e2⟩ := h3; subst e1; exact ⟨e2, hc⟩
    case skip => obtain ⟨e1, e2⟩ := h3; subst e1; exact ⟨e2.symm, hc⟩
    case enter f args => exact absurd rfl (hn w' f args)
  | halt x w' => simp only [Oper.quietUpon] at h3

/-- a store -/
theorem gWalk_st (nw : World → World) (ho : ops[i]? = some o) (hw : Region.wanted o (yielded ops a.tmps) = true) (he : eff i = true)
    (hrun : ∀ w, C vs w → (execOp a.eval o).run P w = .ok .skip (nw w)) (hC : ∀ w, C vs w → C (vs ++ [undef]) (nw w))
    (h2 : gWalk P md ops eff C T rest (vs ++ [undef]) (a.put o.dst undef)) : gWalk P md ops eff C T (i :: rest) vs a := by
  refine gWalk_eff (fun u => u = undef) ho hw he (fun w hc => ?_) (fun u hu => by subst hu; exact h2)
  unfold EffAt
  rw [hrun w hc]
  exact ⟨rfl, hC w hc⟩
/-- a value that is made in memory -/
theorem gWalk_mk (val : World → Value) (nw : World → World) (ho : ops[i]? = some o) (hw : Region.wanted o (yielded ops a.tmps) = true) (he : eff i = true)
    (hrun : ∀ w, C vs w → (execOp a.eval o).run P w = .ok (.value (val w)) (nw w)) (R : Value → Prop) (hC : ∀ w, C vs w → R (val w) ∧ C (vs ++ [val w]) (nw w))
    (h2 : ∀ v, R v → gWalk P md ops eff C T rest (vs ++ [v]) (a.put o.dst v)) : gWalk P md ops eff C T (i :: rest) vs a := by
  refine gWalk_eff R ho hw he (fun w hc => ?_) h2
  unfold EffAt
  rw [hrun w hc]
  exact hC w hc
end
/-- a store into an element of one cell -/
theorem Sat.put1 {α : Type} {f : α → List Value} {W w : World} {R : Hp} {g off n cap : Nat} {xs : List α} (H : Sat W w (Hp.own f 1 (.slice (some ⟨g, off, none⟩) n cap) xs * R)) (hf : ∀ x, (f x).length = 1) {j : Nat} (hj : j < xs.length) {u : Value} {y : α} (hy : f y = [u]) :
    Sat W (w.setCell ⟨g, off + j, none⟩ u) (Hp.own f 1 (.slice (some ⟨g, off, none⟩) n cap) (xs.set j y) * R) := by
  obtain ⟨x, hx⟩ := get_of_lt hj
  have h := (H.spell hx).put0 hf hj u y (by decide) (by
    rw [hy]
    have := hf x
    match hfx : f x, this with
    | [z], _ => rfl)
  rwa [Nat.mul_one] at h
theorem Sat.cell1 {α : Type} {f : α → List Value} {W w : World} {R : Hp} {g off n cap : Nat} {xs : List α} (H : Sat W w (Hp.own f 1 (.slice (some ⟨g, off, none⟩) n cap) xs * R)) {j : Nat} {x : α} (hx : xs[j]? = some x) {u : Value} (hu : f x = [u]) :
    w.cell? ⟨g, off + j, none⟩ = some u ∧ w.frozen? ⟨g, off + j, none⟩ = false := by
  have h := H.ows.el hx 0 (u := u) (by rw [hu]; rfl) (by decide)
  simpa using h
/-- stage by stage -/
def stC (p : World → Prop) (q : World → Prop) : List Value → World → Prop
  | [], w => p w
  | _ :: _, w => q w
end Go.Proofs.Ytffnjojdjbdfcaa
