/- Appends and classes of worlds, in parts that share nothing. Over any program. No condition. -/
import Derived.Test.YtcblkjjkpffjhaaDoorS2
import Derived.Test.YtcblkjjkpffjhaaDoorL9
namespace Go.Proofs.YtcblkjjkpffjhaaDoor
open Go.RowKit
set_option linter.unusedVariables false

/-- all worlds of which p is true, named so that a walk does not look into it -/
theorem fact_class (p : World → Prop) {w : World} (h : p w) : ∃ (St : Type) (_ : Nonempty St) (F : St → World), (∀ s, p (F s)) ∧ (∀ w', p w' → ∃ s, w' = F s) :=
  ⟨{w' : World // p w'}, ⟨⟨w, h⟩⟩, fun s => s.1, fun s => s.2, fun w' h => ⟨⟨w', h⟩, rfl⟩⟩

def isSl (v : Value) (n : Nat) : Prop := ∃ g o cap, v = .slice (some ⟨g, o, none⟩) n cap

section
variable {α : Type} {P : Program} {W w : World} {R : Hp} {e : TypeId} {z : Value} {sz bytes : Nat} {f : α → List Value} {xs : List α} {v : Value}

theorem Sat.pushRun (t ty : TypeId) (E : Elem P t e z sz bytes) (f : α → List Value) (hf : ∀ x, (f x).length = sz) (h1 : ∀ x u, u ∈ f x → u.oneCell' = true) (y : α) (b0 : Nat)
    (H : Sat W w (Hp.rec_ b0 (f y) * (Hp.own f sz v xs * R))) (hlen : (xs.length + 1) * bytes ≤ 140737488355328) (hm : xs.length + 1 ≤ 140737488355328) :
    ∃ v' w', (Builtin.append_ #[t, t] ty #[v, .slice (some ⟨b0, 0, none⟩) 1 1]).run P w = .ok v' w' ∧ Sat W w' (Hp.own f sz v' (xs ++ [y]) * R) ∧ isSl v' (xs.length + 1) := by
  have H2 := H.drop
  obtain ⟨v', w', hrun, q1, q2, q3⟩ := run_pushS w t ty E W.heap.size f hf h1 y H2.ows b0 (fun i u hu => H.cell i hu) hlen hm H.size
  refine ⟨v', w', hrun, H2.reown q1 q2 q3, ?_⟩
  rcases q1 with ⟨_, h⟩ | ⟨g, o, cap, rfl, _⟩
  · simp at h
  · exact ⟨g, o, cap, by simp⟩

/-- 'append(out, y)', wherever its turn comes -/
theorem EffAt.pushH {o : Oper} {a : Act} (s x : Operand) (t : TypeId) (ho : o.op = .call { callee := .builtin .append, args := #[s, x], argTypes := #[t, t] }) (E : Elem P t e z sz bytes) (f : α → List Value) (hf : ∀ x, (f x).length = sz)
    (h1 : ∀ x u, u ∈ f x → u.oneCell' = true) (y : α) (b0 : Nat) (H : Sat W w (Hp.rec_ b0 (f y) * (Hp.own f sz v xs * R))) (hs : a.eval s = v) (hx : a.eval x = .slice (some ⟨b0, 0, none⟩) 1 1)
    (hlen : (xs.length + 1) * bytes ≤ 140737488355328) (hm : xs.length + 1 ≤ 140737488355328) : EffAt P o a w fun v' w' => isSl v' (xs.length + 1) ∧ Sat W w' (Hp.own f sz v' (xs ++ [y]) * R) := by
  obtain ⟨v', w', hrun, q1, q2⟩ := H.pushRun t o.type E f hf h1 y b0 hlen hm
  unfold EffAt
  have : (execOp a.eval o).run P w = .ok (.value v') w' := by
    simp [execOp, ho, resolve, invoke, builtin, hs, hx, hrun, Result.andThen]
  rw [this]
  exact ⟨q2, q1⟩

/-- 'append(out, y)' where the order is fixed -/
theorem wpList_pushH {ops : Array Oper} {rest : List Oper} {o : Oper} {a : Act} {Q : Exit → Act → World → Prop} (hgd : o.guard = none) (s x : Operand) (t : TypeId) (ho : o.op = .call { callee := .builtin .append, args := #[s, x], argTypes := #[t, t] })
    (E : Elem P t e z sz bytes) (f : α → List Value) (hf : ∀ x, (f x).length = sz) (h1 : ∀ x u, u ∈ f x → u.oneCell' = true) (y : α) (b0 : Nat) (hs : a.eval s = v) (hx : a.eval x = .slice (some ⟨b0, 0, none⟩) 1 1)
    (H : Sat W w (Hp.rec_ b0 (f y) * (Hp.own f sz v xs * R)))
    (hlen : (xs.length + 1) * bytes ≤ 140737488355328) (hm : xs.length + 1 ≤ 140737488355328)
    (h : ∀ v' w', isSl v' (xs.length + 1) → Sat W w' (Hp.own f sz v' (xs ++ [y]) * R) → wpList P ops Q rest (a.put o.dst v') w') : wpList P ops Q (o :: rest) a w := by
  refine wpList_plain hgd fun K hK => ?_
  exact (EffAt.pushH s x t ho E f hf h1 y b0 H hs hx hlen hm).wp fun v' w' ⟨q1, q2⟩ => hK _ _ (h v' w' q1 q2)
end

/-- an operation whose run is known, and that changes the world -/
theorem gWalk_effR {P : Program} {ops : Array Oper} {md : Region.Mode} {eff : Nat → Bool} {C : List Value → World → Prop} {T : List Value → Act → Prop} {i : Nat} {rest : List Nat} {vs : List Value} {a : Act} {o : Oper} (R : Value → Prop) (val : World → Value) (nw : World → World)
    (ho : ops[i]? = some o) (hw : Region.wanted o (yielded ops a.tmps) = true) (he : eff i = true) (hrun : ∀ w, (execOp a.eval o).run P w = .ok (.value (val w)) (nw w)) (hR : ∀ w, C vs w → R (val w) ∧ C (vs ++ [val w]) (nw w))
    (h2 : ∀ v, R v → gWalk P md ops eff C T rest (vs ++ [v]) (a.put o.dst v)) : gWalk P md ops eff C T (i :: rest) vs a := by
  refine gWalk_eff R ho hw he (fun w hC => ?_) h2
  unfold EffAt
  rw [hrun w]
  exact hR w hC

/-! ### maps at the operation -/
section
variable {α β : Type} {P : Program} {k : TypeId} {kl : α → Lit} {vf : β → Value} {kf : α → Value} {ok : α → Prop} {W w : World} {R : Hp} {b : Nat} {ms : List (α × β)}
  {ops : Array Oper} {rest : List Oper} {o : Oper} {a : Act} {Q : Exit → Act → World → Prop}

theorem wpList_lenH (hg : o.guard = none) (m : Operand) (t : TypeId) {e : TypeId} (hop : o.op = Op.call { callee := Callee.builtin Builtin.len, args := #[m], argTypes := #[t] }) (ht : P.underlying t = some (.map k e)) (hm : a.eval m = .map (some b))
    (H : Sat W w (Hp.map P k kl vf b ms * R)) (hK : wpList P ops Q rest (a.put o.dst (.int .i64 ms.length)) w) : wpList P ops Q (o :: rest) a w := by
  refine wpList_plain hg fun K' hK' => ?_
  unfold Oper.wp
  simp [execOp, hop, resolve, invoke, builtin, hm, H.lenM ht o.type, Result.andThen]
  exact hK' _ _ hK

theorem wpList_storeH [DecidableEq α] (hg : o.guard = none) (m x v : Operand) (t : TypeId) {e : TypeId} (hop : o.op = Op.mapUpdate t m x v) (ht : P.underlying t = some (.map k e)) (T : KeyT P k kf kl ok) (hkey : ∀ a : α, WideAt.IsKeyLit (kl a))
    (i : α) (y : β) (hm : a.eval m = .map (some b)) (hx : a.eval x = kf i) (hv : a.eval v = vf y) (hi : ok i)
    (H : Sat W w (Hp.map P k kl vf b ms * R)) (hroom : ms.length < maxLen) (hK : ∀ w', Sat W w' (Hp.map P k kl vf b (putM ms i y) * R) → w.grownBy w' (some b) → wpList P ops Q rest (a.put o.dst undef) w') : wpList P ops Q (o :: rest) a w := by
  refine wpList_plain hg fun K' hK' => ?_
  obtain ⟨w', hrun, h1, h2, _⟩ := H.storeM T hkey ht hroom hi y
  unfold Oper.wp
  simp [execOp, hop, hm, hx, hv, hrun, Result.andThen]
  exact hK' _ _ (hK w' h1 h2)

theorem wpList_lookH [DecidableEq α] (hg : o.guard = none) (m x : Operand) (t : TypeId) (c : Bool) {e : TypeId} (hop : o.op = Op.lookup t m x c) (ht : P.underlying t = some (.map k e)) (T : KeyT P k kf kl ok) {z : Value} (hz : (zeroValue e).run P w = .ok z w)
    (i : α) (hm : a.eval m = .map (some b)) (hx : a.eval x = kf i) (hi : ok i) (H : Sat W w (Hp.map P k kl vf b ms * R))
    (hK : wpList P ops Q rest (a.put o.dst (match getM ms i with | some x => if c then .tuple #[vf x, .bool true] else vf x | none => if c then .tuple #[z, .bool false] else z)) w) : wpList P ops Q (o :: rest) a w := by
  refine wpList_plain hg fun K' hK' => ?_
  have hrun := H.look T ht hz hi c
  unfold Oper.wp
  simp [execOp, hop, hm, hx, hrun, Result.andThen]
  exact hK' _ _ hK
end

/-! ### a statement that leaves its order open, and appends -/
def one (b : Nat) : Value := .slice (some ⟨b, 0, none⟩) 1 1

section
variable {α : Type}
/-- 'x.f = append(x.f, y)', stage by stage -/
def pushC (W : World) (f : α → List Value) (sz : Nat) (v : Value) (xs : List α) (y : α) (R : Hp) : List Value → World → Prop
  | [], w => Sat W w (Hp.own f sz v xs * R)
  | [u], w => ∃ b, u = one b ∧ Sat W w (Hp.rec_ b (f y) * (Hp.own f sz v xs * R))
  | _ :: v' :: _, w => isSl v' (xs.length + 1) ∧ Sat W w (Hp.own f sz v' (xs ++ [y]) * R)

/-- 'x.f = append(x.f, call)', stage by stage: M ahead of the call, M' behind it, c what it hands back -/
def callC (W : World) (f : α → List Value) (sz : Nat) (v : Value) (xs : List α) (y : α) (c : Value) (M M' : Hp) (R : Hp) : List Value → World → Prop
  | [], w => Sat W w (Hp.own f sz v xs * (M * R))
  | u :: l, w => u = c ∧ pushC W f sz v xs y (M' * R) l w

variable {P : Program} {ops : Array Oper} {md : Region.Mode} {eff : Nat → Bool} {T : List Value → Act → Prop} {i : Nat} {rest : List Nat} {a : Act} {o : Oper}
  {W : World} {f : α → List Value} {sz : Nat} {v : Value} {xs : List α} {y : α} {R M M' : Hp} {c : Value}

theorem pushC.owned {us : List Value} {w : World} (h : pushC W f sz v xs y R us w) : ∃ X, Sat W w (R * X) := by
  match us, h with
  | [], h => exact ⟨_, h.cast (Hp.mul_comm _ _)⟩
  | [u], ⟨b, _, h⟩ => exact ⟨_, h.drop.cast (Hp.mul_comm _ _)⟩
  | _ :: v' :: _, ⟨_, h⟩ => exact ⟨_, h.cast (Hp.mul_comm _ _)⟩

theorem callC.owned {us : List Value} {w : World} (h : callC W f sz v xs y c M M' R us w) : ∃ X, Sat W w ((M * R) * X) ∨ Sat W w ((M' * R) * X) := by
  match us, h with
  | [], h => exact ⟨_, .inl (h.cast (Hp.mul_comm _ _))⟩
  | u :: l, ⟨_, h⟩ => obtain ⟨X, h⟩ := h.owned; exact ⟨X, .inr h⟩

theorem gWalk_build {e : TypeId} {cs : Array Value} (ho : ops[i]? = some o) (hw : Region.wanted o (yielded ops a.tmps) = true) (he : eff i = true) (hcs : cs.toList = f y)
    (hrun : ∀ w : World, (execOp a.eval o).run P w = .ok (.value (one w.heap.size)) (w.alloc (.cells cs e)))
    (h : ∀ b, gWalk P md ops eff (pushC W f sz v xs y R) T rest [one b] (a.put o.dst (one b))) : gWalk P md ops eff (pushC W f sz v xs y R) T (i :: rest) [] a := by
  refine gWalk_eff (fun u => ∃ b, u = one b) ho hw he (fun w hC => ?_) (fun u hu => ?_)
  · unfold EffAt
    rw [hrun w]
    exact ⟨⟨_, rfl⟩, _, rfl, Sat.alloc hC cs e _ hcs⟩
  · obtain ⟨b, rfl⟩ := hu; exact h b

theorem gWalk_push {e : TypeId} {z : Value} {bytes b : Nat} (s x : Operand) (t : TypeId) (ho : ops[i]? = some o) (hw : Region.wanted o (yielded ops a.tmps) = true) (he : eff i = true)
    (hop : o.op = .call { callee := .builtin .append, args := #[s, x], argTypes := #[t, t] }) (E : Elem P t e z sz bytes) (hf : ∀ x, (f x).length = sz) (h1 : ∀ x u, u ∈ f x → u.oneCell' = true)
    (hs : a.eval s = v) (hx : a.eval x = one b) (hlen : (xs.length + 1) * bytes ≤ 140737488355328) (hm : xs.length + 1 ≤ 140737488355328)
    (h : ∀ v', isSl v' (xs.length + 1) → gWalk P md ops eff (pushC W f sz v xs y R) T rest [one b, v'] (a.put o.dst v')) : gWalk P md ops eff (pushC W f sz v xs y R) T (i :: rest) [one b] a := by
  refine gWalk_eff (fun u => isSl u (xs.length + 1)) ho hw he (fun w hC => ?_) (fun u hu => h u hu)
  obtain ⟨b', hb, hC⟩ := hC
  cases hb
  exact (EffAt.pushH s x t hop E f hf h1 y b hC hs hx hlen hm).mono fun v' w' ⟨q1, q2⟩ => ⟨q1, q1, q2⟩

theorem gWalk_callC (ho : ops[i]? = some o) (hw : Region.wanted o (yielded ops a.tmps) = true) (he : eff i = true)
    (hcall : ∀ w, Sat W w (M * (Hp.own f sz v xs * R)) → EffAt P o a w fun u w' => u = c ∧ Sat W w' (M' * (Hp.own f sz v xs * R)))
    (h : gWalk P md ops eff (callC W f sz v xs y c M M' R) T rest [c] (a.put o.dst c)) : gWalk P md ops eff (callC W f sz v xs y c M M' R) T (i :: rest) [] a := by
  refine gWalk_eff (fun u => u = c) ho hw he (fun w hC => ?_) (fun u hu => by subst hu; exact h)
  exact (hcall w (Sat.cast hC (Hp.mul_left_comm _ _ _))).mono fun u w' ⟨q1, q2⟩ => ⟨q1, q1, q2.cast (Hp.mul_left_comm _ _ _)⟩

theorem gWalk_buildC {e : TypeId} {cs : Array Value} (ho : ops[i]? = some o) (hw : Region.wanted o (yielded ops a.tmps) = true) (he : eff i = true) (hcs : cs.toList = f y)
    (hrun : ∀ w : World, (execOp a.eval o).run P w = .ok (.value (one w.heap.size)) (w.alloc (.cells cs e)))
    (h : ∀ b, gWalk P md ops eff (callC W f sz v xs y c M M' R) T rest [c, one b] (a.put o.dst (one b))) : gWalk P md ops eff (callC W f sz v xs y c M M' R) T (i :: rest) [c] a := by
  refine gWalk_eff (fun u => ∃ b, u = one b) ho hw he (fun w hC => ?_) (fun u hu => ?_)
  · unfold EffAt
    rw [hrun w]
    exact ⟨⟨_, rfl⟩, hC.1, _, rfl, Sat.alloc hC.2 cs e _ hcs⟩
  · obtain ⟨b, rfl⟩ := hu; exact h b

theorem gWalk_pushC {e : TypeId} {z : Value} {bytes b : Nat} (s x : Operand) (t : TypeId) (ho : ops[i]? = some o) (hw : Region.wanted o (yielded ops a.tmps) = true) (he : eff i = true)
    (hop : o.op = .call { callee := .builtin .append, args := #[s, x], argTypes := #[t, t] }) (E : Elem P t e z sz bytes) (hf : ∀ x, (f x).length = sz) (h1 : ∀ x u, u ∈ f x → u.oneCell' = true)
    (hs : a.eval s = v) (hx : a.eval x = one b) (hlen : (xs.length + 1) * bytes ≤ 140737488355328) (hm : xs.length + 1 ≤ 140737488355328)
    (h : ∀ v', isSl v' (xs.length + 1) → gWalk P md ops eff (callC W f sz v xs y c M M' R) T rest [c, one b, v'] (a.put o.dst v')) : gWalk P md ops eff (callC W f sz v xs y c M M' R) T (i :: rest) [c, one b] a := by
  refine gWalk_eff (fun u => isSl u (xs.length + 1)) ho hw he (fun w hC => ?_) (fun u hu => h u hu)
  obtain ⟨hc, b', hb, hC⟩ := hC
  cases hb
  exact (EffAt.pushH s x t hop E f hf h1 y b hC hs hx hlen hm).mono fun v' w' ⟨q1, q2⟩ => ⟨q1, hc, q1, q2⟩
end
end Go.Proofs.YtcblkjjkpffjhaaDoor
