/- A range over a function, in parts of memory that share nothing: the iterator may keep state of its own. Over any program. No condition. -/
import Derived.Test.YtffnjojdjbdfcaaS8
import Derived.RangeFuncLeaves
import Derived.RangeFuncNested
import Derived.Shelf.Abstract
import Derived.Shelf.RegionOpen
import Derived.WalkKit
import Derived.OwnWalkIn
import Derived.TacticsInMore
import Derived.LoopNIn
import Derived.LoopIn
namespace Go.Proofs.Ytffnjojdjbdfcaa
open Go.RowKit
set_option linter.unusedVariables false

/-- a block, just so -/
def Hp.obj (b : Nat) (o : Obj) : Hp := Hp.blk b (fun x => x = o)
theorem Sat.obj {W w : World} {b : Nat} {o : Obj} {R : Hp} (H : Sat W w (Hp.obj b o * R)) : w.heap[b]? = some o := by
  obtain ⟨_, x, hx, rfl⟩ := H.blk; exact hx
theorem Sat.putObj {W w : World} {b : Nat} {o : Obj} {R : Hp} (H : Sat W w (Hp.obj b o * R)) (o' : Obj) : Sat W (w.putObj b o') (Hp.obj b o' * R) :=
  H.blk_change (grownBy_putObj' w b o') fun x hx _ => ⟨o', World.putObj_heap_same (Array.getElem?_eq_some_iff.1 hx).1, rfl⟩
theorem Sat.allocObj {W w : World} {R : Hp} (H : Sat W w R) (o : Obj) {b : Nat} (hb : w.heap.size = b) : Sat W (w.alloc o) (Hp.obj b o * R) := by
  subst hb; exact H.alloc_blk o rfl

/-- the record of a loop over a function -/
def recOf_ (fn : FuncId) (tmps : Array Value) (ps : Array Tmp) (assign body : Code) (d : Nat) (st : LoopState) : Loop := { state := st, pending := none, fn, tmps, params := ps, assign, body, defers := d }

/-- where the body of a round may be left: off its end -/
def roundEnd (p : World → Prop) : Exit → Act → World → Prop
  | .normal, _, w => p w
  | _, _, _ => False

/-- what the iterator is told of yield: k rounds are over, one more goes -/
def Yields (P : Program) (W : World) (l : Nat) (encs : Nat → Array Value) (n : Nat) (B : Nat → Hp) : Prop :=
  ∀ k w R, k < n → Sat W w (B k * R) → YieldAt Fence.wide 0 P l (encs k) w fun e w' => e = .returned (.bool true) ∧ Sat W w' (B (k + 1) * R)

theorem wp_rangeFunc {P : Program} {g : Operand} {ps : Array Tmp} {assign body : Code} {Q : Exit → Act → World → Prop} {a : Act} {W w : World}
    {gf : Nat} {lb : Array Value} (hg : a.eval g = .func (.func gf) #[] lb) (eg : ∀ args w, (callFunc gf args).run P w = .ok (.enter gf args) w)
    (encs : Nat → Array Value) (n : Nat) (hps : ∀ k, (encs k).size = ps.size) (A : Nat → Hp) (R0 R1 : Hp) (H : Sat W w (A 0 * R0))
    (iter : ∀ (l : Nat) (B : Nat → Hp) (w1 : World), Yields P W l encs n B → Sat W w1 (B 0 * R0) → Calls P gf (#[.func (.yield l) #[] #[]] ++ lb) w1 fun e w' => (∃ v, e = .returned v) ∧ Sat W w' (B n * R1))
    (a₁ : Nat → Act)
    (hassign : ∀ (l k : Nat) (w1 : World) (K : Act → World → Prop), k < n → K (a₁ k) w1 →
      assign.wpIn (Fence.wide.inRound l) 0 P (Exit.then K (fun _ _ _ => False)) { tmps := (ps.zip (encs k)).foldl (fun t (p, v) => t.setIfInBounds p v) a.tmps, defers := [] } w1)
    (hbody : ∀ (l k : Nat) (w1 : World) (R : Hp), k < n → Sat W w1 (A k * R) → body.wpIn (Fence.wide.inRound l) 0 P (roundEnd fun w' => Sat W w' (A (k + 1) * R)) (a₁ k) w1)
    (hdone : ∀ (D : Nat) (w' : World), W.heap.size ≤ D → Sat W w' (Hp.obj D (.deferred (some [])) * (A n * R1)) → Q .normal { a with defers := { target := .collected D, args := #[] } :: a.defers } w') :
    (Code.rangeFunc g ps assign body).wp P Q a w := by
  refine wpIn_wide (n := 0) |>.1 (wpIn_rangeFunc fun fn _ => ?_)
  have H1 := (H.allocObj (.deferred (some [])) rfl).allocObj (.loop (recOf_ fn a.tmps ps assign body w.heap.size .ready)) (b := w.heap.size + 1) (by simp)
  obtain ⟨W1, hW1⟩ : ∃ W1, W1 = (w.alloc (.deferred (some []))).alloc (.loop (recOf_ fn a.tmps ps assign body w.heap.size .ready)) := ⟨_, rfl⟩
  rw [← hW1] at H1
  refine ⟨w.heap.size + 1, [{ target := .collected w.heap.size, args := #[] }], W1, { target := .fn (.func gf) lb, args := #[.func (.yield (w.heap.size + 1)) #[] #[]] }, W1, gf,
    #[.func (.yield (w.heap.size + 1)) #[] #[]] ++ lb, W1, by rw [hW1]; exact run_enterLoop_outer _ _ _ _ _, ?_, fun _ _ => trivial, ?_, fun h => by simp [Fence.wide] at h, ?_⟩
  · simp only [resolve, hg]
    simp [go_sem]
  · simp [invoke, go_sem, eg]
  · refine callsIn_wide.2 ?_
    have hY : Yields P W (w.heap.size + 1) encs n (fun k => Hp.obj (w.heap.size + 1) (.loop (recOf_ fn a.tmps ps assign body w.heap.size .ready)) * (Hp.obj w.heap.size (.deferred (some [])) * A k)) := by
      intro k w2 R hk hs
      have hs1 := hs.assoc
      have hl := hs1.obj
      refine ⟨fn, _, assign, body, run_yield (P := P) (args := encs k) hl (hps k), roundIn_of_wpIn trivial (hassign _ k w2 _ hk ⟨_, run_beginRound hl rfl, ?_⟩)⟩
      have hs2 := hs1.putObj (.loop (recOf_ fn a.tmps ps assign body w.heap.size .busy))
      have hs3 : Sat W (w2.putObj (w.heap.size + 1) (.loop (recOf_ fn a.tmps ps assign body w.heap.size .busy))) (A k * (Hp.obj (w.heap.size + 1) (.loop (recOf_ fn a.tmps ps assign body w.heap.size .busy)) * (Hp.obj w.heap.size (.deferred (some [])) * R))) := hs2.cast (by ac_rfl)
      refine wpIn_mono (hbody _ k _ _ hk hs3) fun e a3 w3 hp => ?_
      cases e with
      | normal =>
        have h4 : Sat W w3 (A (k + 1) * (Hp.obj (w.heap.size + 1) (.loop (recOf_ fn a.tmps ps assign body w.heap.size .busy)) * (Hp.obj w.heap.size (.deferred (some [])) * R))) := hp
        have h5 := h4.sw
        have h6 := h5.putObj (.loop (recOf_ fn a.tmps ps assign body w.heap.size .ready))
        exact ⟨_, _, run_endRound none h5.obj, rfl, h6.cast (by ac_rfl)⟩
      | exit id => exact False.elim hp
      | goto t => exact False.elim hp
      | ret => exact False.elim hp
      | panic c => exact False.elim hp
      | outgrown => exact False.elim hp
    refine (iter _ _ _ hY (H1.cast (by ac_rfl))).mono ?_
    rintro e w2 ⟨⟨v, rfl⟩, hs⟩
    have hs1 := hs.assoc
    have hl := hs1.obj
    have h2 := hs1.putObj (.loop { recOf_ fn a.tmps ps assign body w.heap.size .ready with state := .exhausted })
    exact ⟨none, _, run_endLoop (P := P) hl (by simp [recOf_]), hdone _ _ (Nat.le_trans H.size (Nat.le_refl _)) (h2.drop.cast (by ac_rfl))⟩

/-- a contract of a function that ranges over functions -/
theorem calls_marks {P : Program} {f : FuncId} {fn : Func} {c : Code} {args : Array Value} {w : World} {R : Ending → World → Prop} (hf : P.funcs[f]? = some fn) (hb : fn.body = some c)
    (h : c.wp P (bodyPostM Fence.wide 0 P fn R) { tmps := args ++ Array.replicate (fn.ntmps - args.size) undef, defers := [] } w) : Calls P f args w R :=
  (callsIn_wide (n := 0)).1 (callsIn_of_wp_marks hf hb trivial (wpIn_wide.2 h))

section
variable {α : Type} {P : Program} {W w : World} {R : Hp} {e : TypeId} {z : Value} {sz bytes : Nat} {f : α → List Value} {xs : List α} {v : Value}
/-- 'append(out, y)' in a round -/
theorem wpListIn_pushH {F : Fence} {n : Nat} {ops : Array Oper} {rest : List Oper} {o : Oper} {a : Act} {Q : Exit → Act → World → Prop} (hgd : o.guard = none) (s x : Operand) (t : TypeId) (ho : o.op = .call { callee := .builtin .append, args := #[s, x], argTypes := #[t, t] })
    (E : Elem P t e z sz bytes) (f : α → List Value) (hf : ∀ x, (f x).length = sz) (h1 : ∀ x u, u ∈ f x → u.oneCell' = true) (y : α) (b0 : Nat) (hs : a.eval s = v) (hx : a.eval x = .slice (some ⟨b0, 0, none⟩) 1 1)
    (H : Sat W w (Hp.rec_ b0 (f y) * (Hp.own f sz v xs * R)))
    (hlen : (xs.length + 1) * bytes ≤ 140737488355328) (hm : xs.length + 1 ≤ 140737488355328)
    (h : ∀ v' w', isSl v' (xs.length + 1) → Sat W w' (Hp.own f sz v' (xs ++ [y]) * R) → wpListIn F n P ops Q rest (a.put o.dst v') w') : wpListIn F n P ops Q (o :: rest) a w := by
  refine wpListIn_plain hgd fun K hK => ?_
  obtain ⟨v', w', hrun, q1, q2⟩ := H.pushRun t o.type E f hf h1 y b0 hlen hm
  unfold Oper.wpIn
  refine ⟨?_, ?_⟩
  · simp [Oper.about, ho, resolve, Target.leads, Sem.run_pure]
  · rw [Oper.semAt_plain F _ _ (by rw [ho]; intro c hc'; cases hc')]
    simp [execOp, ho, resolve, invoke, builtin, hs, hx, hrun, Result.andThen]
    exact hK _ _ (h v' w' q2 q1)
end
/-- the end of a function that ranged over a function: the mark is come to -/
theorem marks_ret {P : Program} {fn : Func} {R : Ending → World → Prop} {tmps : Array Value} {D : Nat} {W w : World} {A : Hp} (H : Sat W w (Hp.obj D (.deferred (some [])) * A)) {v : Value} (hr : ∀ w', (results fn tmps).run P w' = .ok v w')
    (h : ∀ w', Sat W w' (Hp.obj D (.deferred none) * A) → R (.returned v) w') : bodyPostM Fence.wide 0 P fn R .ret { tmps := tmps, defers := [{ target := .collected D, args := #[] }] } w := by
  refine ⟨by simp, .inl ⟨_, _, rfl, run_takeDeferred H.obj, ?_⟩⟩
  exact ⟨_, hr _, h _ (H.putObj _)⟩
end Go.Proofs.Ytffnjojdjbdfcaa
