/- Calls of a function value that work on parts; a slice compared with nil; many own slices. Over any program. No condition. -/
import Derived.Test.YtcblkjjkpffjhaaDoorX12
namespace Go.Proofs.YtcblkjjkpffjhaaDoor
open Go.RowKit
set_option linter.unusedVariables false
set_option linter.unusedSimpArgs false
section
variable {P : Program} {c : Cx} {m m' : List (Nat × Value)} {l l' : List Hp} {o : Oper} {x y z : Operand} {v u u' : Value} {T T' S : TypeId} {K : Act → World → Prop}
theorem eff_callV {f : FuncId} {x : Operand} {xs : List Operand} {ts : Array TypeId} {vs fs cs : List Value} {R : Value → List Hp → Prop} (ho : o.op = .call { callee := .value x, args := xs.toArray, argTypes := ts }) (F : Fnc P f) (hf : evo m x = some (.func (.func f) fs.toArray cs.toArray)) (hx : evoL m xs = some vs)
    (h : ∀ w, Sat c.W w (sep l) → Calls P f (fs ++ vs ++ cs).toArray w (Ret c.W R)) : Eff P c m l o R := fun a w s H => by
  have h1 := s.evL hx
  have : (execOp a.eval o).run P w = .ok (.enter f (fs ++ vs ++ cs).toArray) w := by
    have hF := F (fs ++ vs ++ cs).toArray w
    simp [execOp, ho, resolve, s.ev hf, Deferred.ofValue, invoke, h1, Result.andThen, hF] at hF ⊢
    exact hF
  refine EffAt.call this ((h w H).mono ?_)
  rintro e w' ⟨v, l', rfl, h2, h3⟩
  exact ⟨v, rfl, l', h2, h3⟩
theorem val_eqlSl {α : Type} {f : α → List Value} {sz : Nat} {xs : List α} {e : TypeId} (ho : o.op = .binOp .eql T x y T') (hT : P.underlying T = some (.slice e)) (hx : evo m x = some v) (hy : evo m y = some (.slice none 0 0)) (hs : SlS f sz c.W v xs) (h0 : 0 < xs.length) : Val P c m l o (.bool false) := Val.of fun a w s H => by
  obtain ⟨ad, cap, rfl, hm, hn, hc⟩ := hs
  obtain ⟨y0, hy0⟩ := get_of_lt h0
  obtain ⟨b, off, rfl, _, _⟩ := hc 0 y0 hy0
  simp [execOp, ho, s.ev hx, s.ev hy, eqGuard, binOp, run_equal_slice_nil _ _ _ _ _ _ hT, Result.andThen]
end
theorem big_nil {α : Type} {f : α → List Value} {sz : Nat} : ∀ (n : Nat) (h : Part), (1 : Hp) h → Hp.big (fun r : Value × List α => Hp.own f sz r.1 r.2) (List.replicate n (.slice none 0 0, [])) h
  | 0, h, H => H
  | n + 1, h, H => by
    show (Hp.own f sz (.slice none 0 0) [] * Hp.big _ (List.replicate n _)) h
    exact ⟨fun _ => none, h, fun k => .inl rfl, by funext k; rfl, .inl ⟨rfl, rfl, rfl⟩, big_nil n h H⟩
theorem Sat.bigAt {α : Type} {W w : World} {p : α → Hp} {L : List α} {R : Hp} (H : Sat W w (Hp.big p L * R)) {k : Nat} {x : α} (hx : L[k]? = some x) : ∃ R', Sat W w (p x * R') := by
  obtain ⟨R0, h1, _⟩ := Hp.big_focus p L k x hx
  rw [h1] at H
  exact ⟨R0 * R, H.cast (Hp.mul_assoc ..)⟩
theorem Sat.wider {W W' w : World} {A : Hp} (hW : Below W.heap.size W W') (H : Sat W' w A) : Sat W w A := ((Sat.ofBelow hW).nest H).cast (Hp.mul_one _)
section
variable {P : Program} {m : List (Nat × Value)} {l : List Hp}
theorem Gx.ret1N {W W' : World} {n : Nat} {fn : Func} {t : Nat} {v : Value} {R : Value → List Hp → Prop} (hW : Below W.heap.size W W') (hr : fn.results = #[.tmp t]) (ht : look m t = some v) (h : R v l) : Gx ⟨W', n, []⟩ m l (bodyPost P fn (Ret W R) .ret) := fun a w s H => by
  obtain ⟨h1, v', h2, v'', l'', h3, ⟨h4, rfl⟩, h5⟩ := Gx.ret1 (P := P) (W := W') (n := n) (fn := fn) (R := fun v' l' => v' = v ∧ l' = l) (l := l) hr ht ⟨rfl, rfl⟩ a w s H
  exact ⟨h1, v', h2, v, _, by rw [h3, h4], h, h5.wider hW⟩
theorem Gx.ret2N {W W' : World} {n : Nat} {fn : Func} {t t' : Nat} {v v' : Value} {R : Value → List Hp → Prop} (hW : Below W.heap.size W W') (hr : fn.results = #[.tmp t, .tmp t']) (ht : look m t = some v) (ht' : look m t' = some v') (h : R (.tuple #[v, v']) l) : Gx ⟨W', n, []⟩ m l (bodyPost P fn (Ret W R) .ret) := fun a w s H => by
  obtain ⟨h1, u', h2, v'', l'', h3, ⟨h4, rfl⟩, h5⟩ := Gx.ret2 (P := P) (W := W') (n := n) (fn := fn) (R := fun u l' => u = .tuple #[v, v'] ∧ l' = l) (l := l) hr ht ht' ⟨rfl, rfl⟩ a w s H
  exact ⟨h1, u', h2, _, _, by rw [h3, h4], h, h5.wider hW⟩
end
end Go.Proofs.YtcblkjjkpffjhaaDoor
