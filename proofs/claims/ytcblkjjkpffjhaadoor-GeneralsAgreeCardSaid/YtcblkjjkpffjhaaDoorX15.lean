/- Lookups in a map while a range runs over it. Over any program. No condition. -/
import Derived.Test.YtcblkjjkpffjhaaDoorX14
namespace Go.Proofs.YtcblkjjkpffjhaaDoor
open Go.RowKit Go.ChangeMaps Go.WideShapes Go.MapKept
open Go.Maps (Keyed)
set_option linter.unusedVariables false

section
variable {P : Program} {c : Cx} {m : List (Nat × Value)} {l l' : List Hp} {o : Oper} {x y z : Operand} {T : TypeId}
theorem val_lookupI {α β : Type} [DecidableEq α] {k' e : TypeId} {kl : α → Lit} {kf : α → Value} {ok : α → Prop} {vf : β → Value} {b r0 k : Nat} {ms left : List (α × β)} {q : Bool} {d : TypeDesc} {sz bytes : Nat} {zv : Value} {i : α} (ho : o.op = .lookup T x y q) (hT : P.underlying T = some (.map k' e)) (K : KeyT P k' kf kl ok) (hE : Ty P e d sz bytes zv)
    (hx : evo m x = some (.map (some b))) (hy : evo m y = some (kf i)) (hi : ok i) (hk : l[k]? = some (Hp.iter P k' kl vf b r0 ms left)) : Val P c m l o (match getM ms i with | some x => if q then .tuple #[vf x, .bool true] else vf x | none => if q then .tuple #[zv, .bool false] else zv) := Val.of fun a w s H => by
  obtain ⟨es, clock, since, c0, seen, H2, F⟩ := (H.at_ hk).iter
  have H3 : Sat c.W w (Hp.map P k' kl vf b ms * _) := H2.blk_change (grown_self w _) fun o ho hm => ⟨o, ho, es, clock, hm, F.fit, F.perm⟩
  have h1 := H3.look K hT hE.zero hi q
  simp [execOp, ho, s.ev hx, s.ev hy, h1, Result.andThen]
  cases getM ms i <;> rfl
theorem val_lookup1I {α β : Type} [DecidableEq α] {k' e : TypeId} {kl : α → Lit} {kf : α → Value} {ok : α → Prop} {vf : β → Value} {b r0 k : Nat} {ms left : List (α × β)} {d : TypeDesc} {sz bytes : Nat} {zv : Value} {i : α} {r : Value} (ho : o.op = .lookup T x y false) (hT : P.underlying T = some (.map k' e)) (K : KeyT P k' kf kl ok) (hE : Ty P e d sz bytes zv)
    (hx : evo m x = some (.map (some b))) (hy : evo m y = some (kf i)) (hi : ok i) (hk : l[k]? = some (Hp.iter P k' kl vf b r0 ms left)) (hr : ((getM ms i).map vf).getD zv = r) : Val P c m l o r := by
  have := val_lookupI (c := c) (m := m) (o := o) ho hT K hE hx hy hi hk
  subst hr
  cases e : getM ms i <;> rw [e] at this <;> exact this
/-! a literal slice is a slice of one's own -/
theorem flat_at {α : Type} {f : α → List Value} {sz : Nat} (hf : ∀ x, (f x).length = sz) : ∀ {xs : List α} {j : Nat} {x : α} {i : Nat} {u : Value}, xs[j]? = some x → (f x)[i]? = some u → (xs.flatMap f)[j * sz + i]? = some u
  | [], j, x, i, u, h, _ => by simp at h
  | y :: l, 0, x, i, u, h, hu => by
    simp at h; subst h
    rw [List.flatMap_cons, Nat.zero_mul, Nat.zero_add, List.getElem?_append_left (List.getElem?_eq_some_iff.1 hu).1]; exact hu
  | y :: l, j + 1, x, i, u, h, hu => by
    have := flat_at hf (xs := l) (j := j) (x := x) (i := i) (u := u) (by simpa using h) hu
    rw [List.flatMap_cons, List.getElem?_append_right (by rw [hf, Nat.succ_mul]; omega), hf, show (j + 1) * sz + i - sz = j * sz + i from by rw [Nat.succ_mul]; omega]; exact this
theorem flat_sz {α : Type} {f : α → List Value} {sz : Nat} (hf : ∀ x, (f x).length = sz) : ∀ (xs : List α), (xs.flatMap f).length = xs.length * sz
  | [] => by simp
  | y :: l => by rw [List.flatMap_cons, List.length_append, hf, flat_sz hf l, List.length_cons, Nat.succ_mul]; omega
theorem own_of_rec {α : Type} {f : α → List Value} {sz b : Nat} {xs : List α} {vs : List Value} (hf : ∀ x, (f x).length = sz) (hv : vs = xs.flatMap f) : ∀ h, Hp.rec_ b vs h → Hp.own f sz (.slice (some ⟨b, 0, none⟩) xs.length xs.length) xs h := by
  rintro h ⟨o, ho, rfl⟩
  subst hv
  refine .inr ⟨b, 0, xs.length, rfl, Nat.le_refl _, o, ⟨fun j hj => ?_, fun j x hx i u hu => ?_⟩, rfl⟩
  · rw [← flat_sz hf] at hj
    obtain ⟨h1, h2⟩ := ho j _ (List.getElem?_eq_getElem hj)
    rw [Nat.zero_add]; exact ⟨by rw [h1]; rfl, h2⟩
  · rw [Nat.zero_add]; exact (ho _ u (flat_at hf hx hu)).1
/-- the results' cell is forgotten -/
theorem Gx.retC2d {W : World} {n : Nat} {fn : Func} {t t' T b k sz bytes : Nat} {d : TypeDesc} {z' v' : Value} {us : List Value} {R : Value → List Hp → Prop} (hr : fn.results = #[.cell t T, .tmp t']) (hT : Ty P T d sz bytes z') (hd : aggD d = true) (ht : look m t = some (ptr b 0)) (hl : us.length = sz) (hk : l[k]? = some (Hp.rec_ b us)) (ht' : look m t' = some v') (h : R (.tuple #[.agg us.toArray, v']) (l.eraseIdx k)) : Gx ⟨W, n, []⟩ m l (bodyPost P fn (Ret W R) .ret) := fun a w s H => by
  obtain ⟨q1, q2, q3, v, l2, q5, q6, q7⟩ := Gx.retC2 (R := fun v l' => v = (.tuple #[.agg us.toArray, v']) ∧ l' = l) hr hT hd ht hl hk ht' ⟨rfl, rfl⟩ a w s H
  obtain ⟨rfl, rfl⟩ := q6
  exact ⟨q1, q2, q3, _, _, q5, h, (q7.at_ hk).drop⟩
end
end Go.Proofs.YtcblkjjkpffjhaaDoor
