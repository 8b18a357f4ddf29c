/- Operations that change memory, each by its own law: stores, new records, rows, appends, maps, calls. Over any program. No condition. -/
import Derived.Test.YtcblkjjkpffjhaaDoorX2
namespace Go.Proofs.YtcblkjjkpffjhaaDoor
open Go.RowKit
set_option linter.unusedVariables false

def setL : List Value → Nat → List Value → List Value
  | vs, _, [] => vs
  | vs, i, u :: us => setL (vs.set i u) (i + 1) us

theorem Sat.setCells {W : World} {R : Hp} {b : Nat} : ∀ (us vs : List Value) (i : Nat) (w : World), Sat W w (Hp.rec_ b vs * R) → Sat W (w.setCells b i us) (Hp.rec_ b (setL vs i us) * R)
  | [], _, _, _, H => H
  | u :: us, vs, i, w, H => Sat.setCells us (vs.set i u) (i + 1) _ (H.set i u)
theorem run_storeRec {P : Program} {W w : World} {R : Hp} {b i : Nat} {vs us : List Value} (H : Sat W w (Hp.rec_ b vs * R)) (hl : i + us.length ≤ vs.length) (h1 : ∀ u ∈ us, u.oneCell' = true) : (storeCells ⟨b, i, none⟩ us 0).run P w = .ok () (w.setCells b i us) := by
  have h := run_storeCells_cells (P := P) b i us 0 w (fun j hj => ?_) (fun j hj => ?_) h1
  · simpa using h
  · obtain ⟨y, hy⟩ := get_of_lt (xs := vs) (k := i + j) (by omega)
    rw [Nat.add_zero, H.cell (i + j) hy]; rfl
  · obtain ⟨y, hy⟩ := get_of_lt (xs := vs) (k := i + j) (by omega)
    rw [Nat.add_zero, H.free (i + j) hy]

theorem setCells_meta (b : Nat) : ∀ (vs : List Value) (o : Nat) (w : World), (w.setCells b o vs).os = w.os ∧ (w.setCells b o vs).tape = w.tape ∧ (w.setCells b o vs).output = w.output ∧ (w.setCells b o vs).heap.size = w.heap.size ∧ ∀ k, k ≠ b → (w.setCells b o vs).heap[k]? = w.heap[k]?
  | [], _, w => ⟨rfl, rfl, rfl, rfl, fun _ _ => rfl⟩
  | v :: vs, o, w => by
    obtain ⟨h1, h2, h3, h4, h5⟩ := setCells_meta b vs (o + 1) (w.setCell ⟨b, o, none⟩ v)
    exact ⟨h1, h2, h3, h4.trans (by simp [World.setCell]), fun k hk => (h5 k hk).trans (Below.heap_setCell w ⟨b, o, none⟩ v k hk)⟩
theorem OwS.storedA {α : Type} {f : α → List Value} {sz base g o n cap : Nat} {w : World} {xs : List α} (h : OwS f sz w base (.slice (some ⟨g, o, none⟩) n cap) xs) (hf : ∀ x, (f x).length = sz) {j : Nat} {x : α} (y : α) (hx : xs[j]? = some x) :
    OwS f sz (w.setCells g (o + j * sz) (f y)) base (.slice (some ⟨g, o, none⟩) n cap) (xs.set j y) := by
  rcases h with ⟨h, _⟩ | ⟨g', o', cap', h, hb, hlt, hc, hsp, hel⟩
  · cases h
  · cases h
    have hj := (List.getElem?_eq_some_iff.1 hx).1
    have hm : j * sz + sz ≤ cap * sz := by
      have := Nat.mul_le_mul_right sz (show j + 1 ≤ cap by omega)
      rwa [Nat.add_mul, Nat.one_mul] at this
    have hin : ∀ k, k < (f y).length → (w.setCells g (o + j * sz) (f y)).cell? ⟨g, o + j * sz + k, none⟩ = (f y)[k]? := fun k hk => by
      rw [World.cell?_setCells_in g (f y) (o + j * sz) w (fun k hk => by rw [Nat.add_assoc]; exact (hsp (j * sz + k) (by rw [hf] at hk; omega)).1) k hk]
      exact (List.getElem?_eq_getElem hk).symm
    have hout : ∀ q, q < o + j * sz ∨ o + j * sz + sz ≤ q → (w.setCells g (o + j * sz) (f y)).cell? ⟨g, q, none⟩ = w.cell? ⟨g, q, none⟩ := fun q hq => World.cell?_setCells_out g (f y) (o + j * sz) w ⟨g, q, none⟩ fun _ _ => by rw [hf]; exact hq
    refine .inr ⟨g, o, cap, by rw [List.length_set], hb, by rw [(setCells_meta _ _ _ _).2.2.2.1]; exact hlt, by rw [List.length_set]; exact hc, fun q hq => ?_, fun q z hz p u hu => ?_⟩
    · rw [World.frozen?_setCells]
      refine ⟨?_, (hsp q hq).2⟩
      by_cases e : q < j * sz ∨ j * sz + sz ≤ q
      · rw [hout _ (by omega)]; exact (hsp q hq).1
      · have hk : q - j * sz < (f y).length := by rw [hf]; omega
        have := hin (q - j * sz) hk
        rw [show o + j * sz + (q - j * sz) = o + q by omega] at this
        rw [this, List.getElem?_eq_getElem hk]; rfl
    · have hp : p < sz := by
        have := (List.getElem?_eq_some_iff.1 hu).1
        rw [hf] at this; exact this
      rw [List.getElem?_set] at hz
      by_cases e : j = q
      · subst e
        rw [if_pos rfl, if_pos hj] at hz
        cases hz
        rw [← Nat.add_assoc, hin p (by rw [hf]; exact hp)]; exact hu
      · rw [if_neg e] at hz
        rw [hout _ ?_]
        · exact hel q z hz p u hu
        · rcases Nat.lt_or_gt_of_ne e with h | h
          · have := Nat.mul_le_mul_right sz (show j + 1 ≤ q by omega)
            rw [Nat.add_mul, Nat.one_mul] at this
            omega
          · have := Nat.mul_le_mul_right sz (show q + 1 ≤ j by omega)
            rw [Nat.add_mul, Nat.one_mul] at this
            omega

section
variable {P : Program} {c : Cx} {m : List (Nat × Value)} {l l' : List Hp} {o : Oper} {x y z : Operand} {v u u' : Value} {T T' S : TypeId}

theorem Eff.of {R : Value → List Hp → Prop} (h : ∀ a w, Slots c a m → Sat c.W w (sep l) → ∃ v w', (execOp a.eval o).run P w = .ok (.value v) w' ∧ ∃ l', R v l' ∧ Sat c.W w' (sep l')) : Eff P c m l o R := fun a w s H => by
  obtain ⟨v, w', h1, h2⟩ := h a w s H
  unfold EffAt; rw [h1]; exact h2
theorem Eff.ofSkip {R : Value → List Hp → Prop} (h : ∀ a w, Slots c a m → Sat c.W w (sep l) → ∃ w', (execOp a.eval o).run P w = .ok .skip w' ∧ ∃ l', R undef l' ∧ Sat c.W w' (sep l')) : Eff P c m l o R := fun a w s H => by
  obtain ⟨w', h1, h2⟩ := h a w s H
  unfold EffAt; rw [h1]; exact h2
theorem Eff.mono {R R' : Value → List Hp → Prop} (h : Eff P c m l o R) (hr : ∀ v l, R v l → R' v l) : Eff P c m l o R' := fun a w s H => (h a w s H).mono fun v w' ⟨l', h1, h2⟩ => ⟨l', hr _ _ h1, h2⟩

/-! stores -/
theorem eff_store {d : TypeDesc} {sz bytes : Nat} {z' : Value} {b i k : Nat} {vs vs' us : List Value} (ho : o.op = .store T x y) (hT : Ty P T d sz bytes z') (hx : evo m x = some (ptr b i)) (hy : evo m y = some u) (hu : u.cells.toList = us) (hs : us.length = sz) (h1 : us.all Value.oneCell' = true)
    (hk : l[k]? = some (Hp.rec_ b vs)) (hi : Nat.ble (i + sz) vs.length = true) (hv : setL vs i us = vs') (hl : l.set k (Hp.rec_ b vs') = l') : Eff P c m l o (fun _ l'' => l'' = l') := Eff.ofSkip fun a w s H => by
  have hsz : u.cells.size = sz := by rw [← Array.length_toList, hu, hs]
  have h2 := run_storeRec (P := P) (us := us) (i := i) (H.at_ hk) (by have := Nat.le_of_ble_eq_true hi; omega) (fun u hu => List.all_eq_true.1 h1 u hu)
  refine ⟨w.setCells b i us, ?_, l', rfl, Sat.back hk hl (by rw [← hv]; exact Sat.setCells _ _ _ _ (H.at_ hk))⟩
  simp [execOp, ho, s.ev hx, s.ev hy, Instr.storeAt, Instr.sureAddr, storeVar, hT.size, hsz, hu, h2, Result.andThen]
/-- into an element of one's own slice: one cell of it -/
theorem eff_storeEl {α : Type} {f : α → List Value} {d : TypeDesc} {bytes : Nat} {z' : Value} {sz j i k : Nat} {xs : List α} {e e' : α} (ho : o.op = .store T x y) (hT : Ty P T d 1 bytes z') (hx : evo m x = some (ptr (sB v) (sO v + j * sz + i))) (hy : evo m y = some u) (hu : u.cells = #[u]) (h1 : u.oneCell' = true)
    (hk : l[k]? = some (Hp.own f sz v xs)) (hf : ∀ x, (f x).length = sz) (hj : xs[j]? = some e) (hi : i < sz) (he : f e' = (f e).set i u) (hl : l.set k (Hp.own f sz v (xs.set j e')) = l') : Eff P c m l o (fun _ l'' => l'' = l') := Eff.ofSkip fun a w s H => by
  have H1 := H.at_ hk
  obtain ⟨cap, hv, _⟩ := H1.ows.at_ hj
  have hjl := (List.getElem?_eq_some_iff.1 hj).1
  have hO := H1.ows
  rw [hv] at hO
  obtain ⟨u0, hu0⟩ : ∃ u0, (f e)[i]? = some u0 := ⟨_, List.getElem?_eq_getElem (by rw [hf]; exact hi)⟩
  obtain ⟨q1, q2⟩ := hO.el hj i hu0 hi
  have H2 := H1.spell hj
  rw [hv] at H2
  have H3 := H2.put hf hjl i u e' hi he
  rw [← hv] at H3
  refine ⟨w.setCell ⟨sB v, sO v + j * sz + i, none⟩ u, ?_, l', rfl, Sat.back hk hl H3⟩
  have hst := run_store P w ⟨sB v, sO v + j * sz + i, none⟩ u .plain h1
  rw [q1, q2] at hst
  simp only [Bool.false_eq_true, if_false] at hst
  simp [execOp, ho, s.ev hx, s.ev hy, Instr.storeAt, Instr.sureAddr, storeVar, hT.size, hu, storeCells, addr_add0, hst, Result.andThen]

/-- a whole element of one's own slice -/
theorem eff_storeElA {α : Type} {f : α → List Value} {d : TypeDesc} {bytes : Nat} {z' : Value} {sz j k : Nat} {xs : List α} {e : α} (r : α) (ho : o.op = .store T x y) (hT : Ty P T d sz bytes z') (hx : evo m x = some (ptr (sB v) (sO v + j * sz))) (hy : evo m y = some u) (hu : u.cells.toList = f r) (h1 : ∀ x u, u ∈ f x → u.oneCell' = true)
    (hk : l[k]? = some (Hp.own f sz v xs)) (hf : ∀ x, (f x).length = sz) (hj : xs[j]? = some e) (hl : l.set k (Hp.own f sz v (xs.set j r)) = l') : Eff P c m l o (fun _ l'' => l'' = l') := Eff.ofSkip fun a w s H => by
  have H1 := H.at_ hk
  obtain ⟨cap, hv, _⟩ := H1.ows.at_ hj
  have hjl := (List.getElem?_eq_some_iff.1 hj).1
  have hO := H1.ows
  rw [hv] at hO
  have hO2 := hO.storedA hf r hj
  rw [← hv] at hO2
  have hM := setCells_meta (sB v) (f r) (sO v + j * sz) w
  have H3 : Sat c.W (w.setCells (sB v) (sO v + j * sz) (f r)) (Hp.own f sz v (xs.set j r) * sep (l.eraseIdx k)) := H1.reown hO2 ⟨hM.1, hM.2.1, hM.2.2.1, by rw [hM.2.2.2.1]; exact Nat.le_refl _, fun q _ hq => hM.2.2.2.2 q (fun e => hq (by rw [hv, e]; rfl))⟩ (.inl rfl)
  refine ⟨_, ?_, l', rfl, Sat.back hk hl H3⟩
  have hc : xs.length ≤ cap := by
    obtain ⟨a', c', e', hc⟩ := hO.form; cases e'; exact hc
  have hm : j * sz + sz ≤ cap * sz := by
    have := Nat.mul_le_mul_right sz (show j + 1 ≤ cap by omega)
    rwa [Nat.add_mul, Nat.one_mul] at this
  have hsp : ∀ q, q < cap * sz → (w.cell? ⟨sB v, sO v + q, none⟩).isSome = true := by
    rcases hO with ⟨h, _⟩ | ⟨g', o', cap', h, _, _, _, hsp, _⟩
    · cases h
    · cases h; exact fun q hq => (hsp q hq).1
  have hsz : u.cells.size = sz := by rw [← Array.length_toList, hu, hf]
  have h2 := run_storeCells_cells (P := P) (sB v) (sO v + j * sz) (f r) 0 w (fun q hq => by rw [Nat.add_zero, Nat.add_assoc]; rw [hf] at hq; exact hsp _ (by omega)) (fun q hq => by rw [Nat.add_zero, Nat.add_assoc]; rw [hf] at hq; exact hO.free (by omega)) (fun q hq => h1 r q hq)
  simp [execOp, ho, s.ev hx, s.ev hy, Instr.storeAt, Instr.sureAddr, storeVar, hT.size, hsz, hu, h2, Result.andThen]

/-! new records and rows -/
theorem run_newVar (P : Program) (w : World) (T : TypeId) (u : Value) : (newVar T u).run P w = .ok ⟨w.heap.size, 0, none⟩ (w.alloc (.cells u.cells T)) := rfl
theorem eff_alloc {d : TypeDesc} {sz bytes : Nat} {z' : Value} {vs : List Value} (ho : o.op = .alloc T) (hT : Ty P T d sz bytes z') (hz : z'.cells.toList = vs) : Eff P c m l o (fun v l'' => ∃ b, v = ptr b 0 ∧ l'' = Hp.rec_ b vs :: l) := Eff.of fun a w s H => by
  refine ⟨ptr w.heap.size 0, w.alloc (.cells z'.cells T), ?_, _, ⟨w.heap.size, rfl, rfl⟩, H.alloc _ _ _ hz⟩
  simp [execOp, ho, Instr.alloc, hT.zero, run_newVar, Result.andThen]
theorem eff_box {vs : List Value} (ho : o.op = .box T x) (hx : evo m x = some u) (hu : u.cells.toList = vs) : Eff P c m l o (fun v l'' => ∃ b, v = ptr b 0 ∧ l'' = Hp.rec_ b vs :: l) := Eff.of fun a w s H => by
  refine ⟨ptr w.heap.size 0, w.alloc (.cells u.cells T), ?_, _, ⟨w.heap.size, rfl, rfl⟩, H.alloc _ _ _ hu⟩
  simp [execOp, ho, s.ev hx, Instr.box, run_newVar, Result.andThen]
theorem eff_buildSlice {n : Nat} {ps : List (Nat × Operand)} {cs : Array Value} {vs : List Value} {E : TypeId} {qs : List (Nat × Value)} (ho : o.op = .buildSlice T n ps.toArray) (hq : evoL m (ps.map (·.2)) = some (qs.map (·.2))) (hi : ps.map (·.1) = qs.map (·.1)) (hcs : cs.toList = vs)
    (hr : ∀ w : World, (Instr.buildSlice T n qs.toArray).run P w = .ok (.slice (some ⟨w.heap.size, 0, none⟩) n n) (w.alloc (.cells cs E))) : Eff P c m l o (fun v l'' => ∃ b, v = .slice (some ⟨b, 0, none⟩) n n ∧ l'' = Hp.rec_ b vs :: l) := Eff.of fun a w s H => by
  refine ⟨.slice (some ⟨w.heap.size, 0, none⟩) n n, w.alloc (.cells cs E), ?_, _, ⟨w.heap.size, rfl, rfl⟩, H.alloc _ _ _ hcs⟩
  have hp := evoL_pairs s hq hi
  simp [execOp, ho, hp, hr, Result.andThen]
theorem eff_makeSlice {α : Type} {f : α → List Value} {e : TypeId} {d : TypeDesc} {sz bytes : Nat} {z' : Value} {k k' : IntKind} {i i' : Int} {n : Nat} (ho : o.op = .makeSlice T x y) (hT : P.underlying T = some (.slice e)) (hE : Ty P e d sz bytes z') (hx : evo m x = some (.int k i)) (hy : evo m y = some (.int k' i')) (hi : i = (n : Int)) (hi' : i' = (n : Int))
    (hf : ∀ x, (f x).length = sz) (r : α) (hz : z'.cells.toList = f r) (hb : bytes * n ≤ 281474976710656) (hn : n ≤ 9223372036854775807) : Eff P c m l o (fun v l'' => IsS v ∧ l'' = Hp.own f sz v (List.replicate n r) :: l) := Eff.of fun a w s H => by
  subst hi hi'
  have h := hE.info
  cases e' : P.info? e with
  | none => simp [e'] at h
  | some inf =>
    simp [e'] at h
    obtain ⟨h1, h2, h3⟩ := h
    have hrun := run_make (P := P) (w := w) T e inf z' hT e' h1 k k' (n : Int) (n : Int) (by omega) (Int.le_refl _) (by rw [h3, ← Int.natCast_mul]; omega) (by omega)
    refine ⟨_, _, ?_, _, ⟨isS_lit, rfl⟩, H.newOwn (OwS.made (f := f) (sz := sz) (e := e) (z := z') w _ n r hf hz (Nat.le_refl _))⟩
    simp [execOp, ho, s.ev hx, s.ev hy, hrun, Result.andThen, h2, madeRow]
theorem eff_makeMap {α β : Type} (k : TypeId) (kl : α → Lit) (vf : β → Value) (ho : o.op = .makeMap T none) : Eff P c m l o (fun v l'' => ∃ b, v = .map (some b) ∧ l'' = Hp.map P k kl vf b [] :: l) := Eff.of fun a w s H => by
  refine ⟨.map (some w.heap.size), w.alloc (.map #[] 0), ?_, _, ⟨w.heap.size, rfl, rfl⟩, H.mapAlloc P k kl vf⟩
  simp [execOp, ho, run_makeMap, Result.andThen]

/-! appends -/
theorem eff_push {α : Type} {f : α → List Value} {e : TypeId} {zv : Value} {sz bytes k k' b : Nat} {xs : List α} {r : α} {vs : List Value} (ho : o.op = .call { callee := .builtin .append, args := #[x, y], argTypes := #[T, T] }) (E : Elem P T e zv sz bytes) (hf : ∀ x, (f x).length = sz) (h1 : ∀ x u, u ∈ f x → u.oneCell' = true)
    (hx : evo m x = some v) (hy : evo m y = some (.slice (some ⟨b, 0, none⟩) 1 1)) (hk : l[k]? = some (Hp.rec_ b vs)) (hr : f r = vs) (hk' : (l.eraseIdx k)[k']? = some (Hp.own f sz v xs)) (hb : (xs.length + 1) * bytes ≤ 140737488355328) (hm : xs.length + 1 ≤ 140737488355328) :
    Eff P c m l o (fun v' l'' => IsS v' ∧ l'' = (l.eraseIdx k).set k' (Hp.own f sz v' (xs ++ [r]))) := Eff.of fun a w s H => by
  subst hr
  have H1 := H.at_ hk
  have H2 : Sat c.W w (Hp.rec_ b (f r) * (Hp.own f sz v xs * sep ((l.eraseIdx k).eraseIdx k'))) := H1.cast (by rw [(sep_focus _ _ _ hk').1])
  obtain ⟨v', w', hrun, q1, q2⟩ := H2.pushRun T o.type E f hf h1 r b hb hm
  refine ⟨v', w', ?_, _, ⟨isS_own q1, rfl⟩, Sat.back hk' rfl q1⟩
  simp [execOp, ho, resolve, invoke, builtin, s.ev hx, s.ev hy, hrun, Result.andThen]

/-! maps -/
theorem eff_mapUpdate {α β : Type} [DecidableEq α] {k' e : TypeId} {kl : α → Lit} {kf : α → Value} {ok : α → Prop} {vf : β → Value} {b k : Nat} {ms : List (α × β)} {i : α} {r : β} (ho : o.op = .mapUpdate T x y z) (hT : P.underlying T = some (.map k' e)) (K : KeyT P k' kf kl ok) (hkey : ∀ a : α, WideAt.IsKeyLit (kl a))
    (hx : evo m x = some (.map (some b))) (hy : evo m y = some (kf i)) (hz : evo m z = some (vf r)) (hi : ok i) (hk : l[k]? = some (Hp.map P k' kl vf b ms)) (hroom : ms.length < maxLen) (hl : l.set k (Hp.map P k' kl vf b (putM ms i r)) = l') : Eff P c m l o (fun _ l'' => l'' = l') := Eff.ofSkip fun a w s H => by
  obtain ⟨w', h1, h2, _⟩ := (H.at_ hk).storeM K hkey hT hroom hi r
  refine ⟨w', ?_, l', rfl, Sat.back hk hl h2⟩
  simp [execOp, ho, s.ev hx, s.ev hy, s.ev hz, h1, Result.andThen]
theorem eff_delete {α β : Type} [DecidableEq α] {k' e : TypeId} {kl : α → Lit} {kf : α → Value} {ok : α → Prop} {vf : β → Value} {b k : Nat} {ms : List (α × β)} {i : α} (ho : o.op = .call { callee := .builtin .delete, args := #[x, y], argTypes := #[T, k'] }) (hT : P.underlying T = some (.map k' e)) (K : KeyT P k' kf kl ok) (hkey : ∀ a : α, WideAt.IsKeyLit (kl a))
    (hx : evo m x = some (.map (some b))) (hy : evo m y = some (kf i)) (hi : ok i) (hk : l[k]? = some (Hp.map P k' kl vf b ms)) (hl : l.set k (Hp.map P k' kl vf b (delM ms i)) = l') : Eff P c m l o (fun _ l'' => l'' = l') := Eff.of fun a w s H => by
  obtain ⟨w', h1, h2, _⟩ := (H.at_ hk).dropM (ty := o.type) K hkey hT hi
  refine ⟨.tuple #[], w', ?_, l', rfl, Sat.back hk hl h2⟩
  simp [execOp, ho, resolve, invoke, builtin, s.ev hx, s.ev hy, h1, Result.andThen]

/-! calls -/
/-- a call that works on parts of what is owned -/
theorem eff_call {f : FuncId} {xs : List Operand} {ts : Array TypeId} {vs : List Value} {R : Value → List Hp → Prop} (ho : o.op = .call { callee := .value (.func f), args := xs.toArray, argTypes := ts }) (F : Fnc P f) (hx : evoL m xs = some vs)
    (h : ∀ w, Sat c.W w (sep l) → Calls P f vs.toArray w (Ret c.W R)) : Eff P c m l o R := fun a w s H => by
  have h1 := s.evL hx
  have : (execOp a.eval o).run P w = .ok (.enter f vs.toArray) w := by
    have hF := F vs.toArray w
    simp [execOp, ho, resolve, Act.eval, Deferred.ofValue, invoke, h1, Result.andThen, hF]
  refine EffAt.call this ((h w H).mono ?_)
  rintro e w' ⟨v, l', rfl, h2, h3⟩
  exact ⟨v, rfl, l', h2, h3⟩
/-- a call that begins with nothing of its own, beside what is owned -/
theorem eff_callN {f : FuncId} {xs : List Operand} {ts : Array TypeId} {vs : List Value} {R : Value → List Hp → Prop} (ho : o.op = .call { callee := .value (.func f), args := xs.toArray, argTypes := ts }) (F : Fnc P f) (hx : evoL m xs = some vs)
    (h : ∀ w, Sat c.W w (sep l) → Calls P f vs.toArray w (Ret w R)) : Eff P c m l o (fun v l'' => ∃ l', R v l' ∧ l'' = l' ++ l) := fun a w s H => by
  have h1 := s.evL hx
  have : (execOp a.eval o).run P w = .ok (.enter f vs.toArray) w := by
    have hF := F vs.toArray w
    simp [execOp, ho, resolve, Act.eval, Deferred.ofValue, invoke, h1, Result.andThen, hF]
  refine EffAt.call this ((h w H).mono ?_)
  rintro e w' ⟨v, l', rfl, h2, h3⟩
  exact ⟨v, rfl, l' ++ l, ⟨l', h2, rfl⟩, by rw [sep_append]; exact H.nest h3⟩
/-- a call that makes nothing that is kept; of what it hands back R is known -/
theorem eff_callE {f : FuncId} {xs : List Operand} {ts : Array TypeId} {vs : List Value} {R : Value → Prop} (ho : o.op = .call { callee := .value (.func f), args := xs.toArray, argTypes := ts }) (F : Fnc P f) (hx : evoL m xs = some vs)
    (h : ∀ w, Sat c.W w (sep l) → Calls P f vs.toArray w fun e w' => ∃ v, e = .returned v ∧ R v ∧ Below w.heap.size w w') : Eff P c m l o (fun v l'' => R v ∧ l'' = l) := fun a w s H => by
  have h1 := s.evL hx
  have : (execOp a.eval o).run P w = .ok (.enter f vs.toArray) w := by
    have hF := F vs.toArray w
    simp [execOp, ho, resolve, Act.eval, Deferred.ofValue, invoke, h1, Result.andThen, hF]
  refine EffAt.call this ((h w H).mono ?_)
  rintro e w' ⟨v, rfl, h2, h3⟩
  exact ⟨v, rfl, l, ⟨h2, rfl⟩, H.of_below h3⟩
end

/-! a call whose results are read from there on, over a new start -/
section
variable {P : Program} {c : Cx} {m : List (Nat × Value)} {l : List Hp} {ops : Array Oper} {Q : Exit → Act → World → Prop}
/-- 'below' words: what a call leaves as it was -/
theorem Gx.callB {o : Oper} {rest : List Oper} {d : Nat} {f : FuncId} {xs : List Operand} {ts : Array TypeId} {vs : List Value} {R : Value → World → Prop} (hg : o.guard = none) (hd : o.dst = some d) (hn : Nat.ble (d + 1) c.n = true) (ho : o.op = .call { callee := .value (.func f), args := xs.toArray, argTypes := ts }) (F : Fnc P f) (hx : evoL m xs = some vs)
    (h : ∀ w, Sat c.W w (sep l) → Calls P f vs.toArray w fun e w' => ∃ v, e = .returned v ∧ R v w' ∧ Below w.heap.size w w')
    (k : ∀ v w, R v w → Sat c.W w (sep l) → Gx ⟨w, c.n, c.ds⟩ ((d, v) :: m) [] (wpList P ops Q rest)) : Gx c m l (wpList P ops Q (o :: rest)) := fun a w s H =>
  wpList_plain hg fun K hK => by
    have h1 := s.evL hx
    have : (execOp a.eval o).run P w = .ok (.enter f vs.toArray) w := by
      have hF := F vs.toArray w
      simp [execOp, ho, resolve, Act.eval, Deferred.ofValue, invoke, h1, Result.andThen, hF]
    refine (EffAt.call (R := fun v w' => R v w' ∧ Below w.heap.size w w') this ((h w H).mono fun e w' ⟨v, he, hR, hb⟩ => ⟨v, he, hR, hb⟩)).wp fun v w' ⟨hR, hb⟩ => hK _ _ ?_
    have s' : Slots c (a.put o.dst v) ((d, v) :: m) := by rw [hd]; exact s.put hn v
    exact k v w' hR (H.of_below hb) _ _ ⟨s'.size, s'.defers, s'.get⟩ (Sat.start w')
end
theorem calls_pure {P : Program} {f : FuncId} {args : Array Value} {W : World} {v : Value} (h : Calls P f args W (Ret W fun u l => u = v)) : Calls P f args W fun e w' => e = .returned v ∧ Below W.heap.size W w' :=
  h.mono fun e w' ⟨u, l, he, hu, H⟩ => ⟨by rw [he, hu], H.below⟩
theorem calls_rel {P : Program} {f : FuncId} {args : Array Value} {W : World} {R : Value → Prop} (h : Calls P f args W (Ret W fun u l => R u)) : Calls P f args W fun e w' => ∃ v, e = .returned v ∧ R v ∧ Below W.heap.size W w' :=
  h.mono fun e w' ⟨u, l, he, hu, H⟩ => ⟨u, he, hu, H.below⟩
theorem calls_some {P : Program} {f : FuncId} {args : Array Value} {W : World} {R : Value → World → Prop} {S : Value → List Hp → Prop} (h : Calls P f args W (Ret W S)) (hR : ∀ v l w, S v l → Sat W w (sep l) → R v w) : Calls P f args W fun e w' => ∃ v, e = .returned v ∧ R v w' ∧ Below W.heap.size W w' :=
  h.mono fun e w' ⟨u, l, he, hu, H⟩ => ⟨u, he, hR u l w' hu H, H.below⟩
section
variable {P : Program} {m : List (Nat × Value)} {l : List Hp}
theorem Gx.ret1B {W W' : World} {n : Nat} {fn : Func} {t : Nat} {v : Value} {R : Value → List Hp → Prop} (hW : Below W.heap.size W W') (hr : fn.results = #[.tmp t]) (ht : look m t = some v) (h : R v []) : Gx ⟨W', n, []⟩ m l (bodyPost P fn (Ret W R) .ret) := fun a w s H => by
  obtain ⟨h1, v', h2, v'', l'', h3, h4, h5⟩ := Gx.ret1 (P := P) (W := W') (n := n) (fn := fn) (R := fun v' l' => v' = v) (l := l) hr ht rfl a w s H
  exact ⟨h1, v', h2, v, [], by rw [h3, h4], h, Sat.ofBelow (hW.trans (H.below.mono hW.size))⟩
theorem Gx.ret2B {W W' : World} {n : Nat} {fn : Func} {t t' : Nat} {v v' : Value} {R : Value → List Hp → Prop} (hW : Below W.heap.size W W') (hr : fn.results = #[.tmp t, .tmp t']) (ht : look m t = some v) (ht' : look m t' = some v') (h : R (.tuple #[v, v']) []) : Gx ⟨W', n, []⟩ m l (bodyPost P fn (Ret W R) .ret) := fun a w s H => by
  obtain ⟨h1, u', h2, v'', l'', h3, h4, h5⟩ := Gx.ret2 (P := P) (W := W') (n := n) (fn := fn) (R := fun u l' => u = .tuple #[v, v']) (l := l) hr ht ht' rfl a w s H
  exact ⟨h1, u', h2, _, [], by rw [h3, h4], h, Sat.ofBelow (hW.trans (H.below.mono hW.size))⟩
end
/-- what a contract says of memory that stays -/
theorem Sat.old {W w : World} {l : List Hp} (H : Sat W w (sep l)) : Below W.heap.size W w := H.below
end Go.Proofs.YtcblkjjkpffjhaaDoor
