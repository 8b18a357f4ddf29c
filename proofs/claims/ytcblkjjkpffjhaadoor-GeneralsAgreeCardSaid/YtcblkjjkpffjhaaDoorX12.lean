/- Parts of many parts; maps that are nil; keys that are numbers. Over any program. No condition. -/
import Derived.Test.YtcblkjjkpffjhaaDoorX11
import Derived.Test.YtcblkjjkpffjhaaDoorX7
import Derived.Laws.Cover3
namespace Go.Proofs.YtcblkjjkpffjhaaDoor
open Go.RowKit
set_option linter.unusedVariables false
set_option linter.unusedSimpArgs false

section
variable {P : Program} {c : Cx} {m m' : List (Nat × Value)} {l l' : List Hp} {o : Oper} {x y z : Operand} {v u u' : Value} {T T' S : TypeId} {K : Act → World → Prop}
theorem sep_snoc (l : List Hp) (R : Hp) : sep (l ++ [R]) = sep l * R := by rw [sep_append]; show sep l * (R * 1) = _; rw [Hp.mul_one]
/-- one of many, at its place, the rest behind all -/
theorem Gx.focus {α : Type} {p : α → Hp} {L : List α} {n k : Nat} {e : α} (hl : l[n]? = some (Hp.big p L)) (hx : L[k]? = some e) (h : ∀ R, Hp.big p L = p e * R → (∀ y, Hp.big p (L.set k y) = p y * R) → Gx c m (l.set n (p e) ++ [R]) K) : Gx c m l K := fun a w s H => by
  obtain ⟨R, h1, h2⟩ := Hp.big_focus p L k e hx
  refine h R h1 h2 a w s (H.cast ?_)
  rw [sep_snoc, (sep_focus l n _ hl).2, (sep_focus l n _ hl).1, h1]
  ac_rfl
/-- two parts as one -/
theorem Gx.merge (n r : Nat) {p q s : Hp} (hn : l[n]? = some p) (hr : (l.eraseIdx n)[r]? = some q) (e : s = p * q) (hl : s :: (l.eraseIdx n).eraseIdx r = l') (h : Gx c m l' K) : Gx c m l K := fun a w st H => by
  refine h a w st (H.cast ?_)
  rw [← hl, (sep_focus l n _ hn).1, (sep_focus _ r _ hr).1, ← Hp.mul_assoc, ← e]; rfl
/-- one part as two -/
theorem Gx.cleave (n : Nat) {p q s : Hp} (hn : l[n]? = some s) (e : s = p * q) (hl : p :: q :: l.eraseIdx n = l') (h : Gx c m l' K) : Gx c m l K := fun a w st H => by
  refine h a w st (H.cast ?_)
  rw [← hl, (sep_focus l n _ hn).1, e, Hp.mul_assoc]; rfl
theorem val_eqlMapN {k' e : TypeId} (ho : o.op = .binOp .eql T x y T') (hT : P.underlying T = some (.map k' e)) (hx : evo m x = some (.map none)) (hy : evo m y = some (.map none)) : Val P c m l o (.bool true) := Val.of fun a w s H => by
  simp [execOp, ho, s.ev hx, s.ev hy, eqGuard, binOp, run_equal_map_nil _ _ _ _ _ hT, Result.andThen]
theorem val_eqlMapS {k' e : TypeId} {b : Nat} (ho : o.op = .binOp .eql T x y T') (hT : P.underlying T = some (.map k' e)) (hx : evo m x = some (.map (some b))) (hy : evo m y = some (.map none)) : Val P c m l o (.bool false) := Val.of fun a w s H => by
  simp [execOp, ho, s.ev hx, s.ev hy, eqGuard, binOp, run_equal_map_nil _ _ _ _ _ hT, Result.andThen]
end
/-! keys that are small numbers -/
abbrev natV (n : Nat) : Value := .int .i64 ((n : Nat) : Int)
def natL (n : Nat) : Lit := .int .i64 ((n : Nat) : Int)
theorem natT {P : Program} {k : TypeId} (hk : P.underlying k = some (.int .i64)) : KeyT P k natV natL (fun n => n < 4611686018427387904) := by
  have T := intKeyT hk
  refine ⟨T.keyed, fun n hn => T.key _ ?_, fun a b h => ?_⟩
  · simp [Lit.wf]; exact ⟨(by omega : (-9223372036854775808 : Int) ≤ _), (by omega : _ ≤ (9223372036854775807 : Int))⟩
  · unfold natL at h; injection h with _ h; omega
theorem natK (n : Nat) : WideAt.IsKeyLit (natL n) := trivial
abbrev mapV (b : Nat) : Value := .map (some b)
theorem getM_no {α β : Type} [DecidableEq α] {ms : List (α × β)} {a : α} (h : ∀ p ∈ ms, p.1 ≠ a) : getM ms a = none := by
  induction ms with
  | nil => rfl
  | cons p l ih =>
    obtain ⟨b, y⟩ := p
    have := h (b, y) (by simp)
    simp only [getM]
    rw [if_neg this]
    exact ih fun q hq => h q (by simp [hq])
theorem getM_at {α β : Type} [DecidableEq α] {ms : List (α × β)} {k : Nat} {a : α} {x : β} (hn : ms.Pairwise (fun p q => p.1 ≠ q.1)) (h : ms[k]? = some (a, x)) : getM ms a = some x := getM_of hn (List.mem_of_getElem? h)
theorem putM_new {α β : Type} [DecidableEq α] {ms : List (α × β)} {a : α} (x : β) (h : ∀ p ∈ ms, p.1 ≠ a) : putM ms a x = ms ++ [(a, x)] := by
  induction ms with
  | nil => rfl
  | cons p l ih =>
    obtain ⟨b, y⟩ := p
    have := h (b, y) (by simp)
    simp only [putM]
    rw [if_neg this, ih fun q hq => h q (by simp [hq])]; rfl
theorem putM_keyI {α β : Type} [DecidableEq α] {ms : List (α × β)} {a : α} {x : β} {b : α} : b ∈ (putM ms a x).map (·.1) ↔ b = a ∨ b ∈ ms.map (·.1) := by
  induction ms with
  | nil => simp [putM]
  | cons p l ih =>
    obtain ⟨d, y⟩ := p
    by_cases e : d = a
    · subst e; simp [putM]
    · simp only [putM, if_neg e, List.map_cons, List.mem_cons, ih]
      constructor
      · rintro (h | h | h)
        · exact .inr (.inl h)
        · exact .inl h
        · exact .inr (.inr h)
      · rintro (h | h | h)
        · exact .inr (.inl h)
        · exact .inl h
        · exact .inr (.inr h)
theorem delM_keys {α β : Type} [DecidableEq α] {ms : List (α × β)} {a b : α} (hn : ms.Pairwise (fun p q => p.1 ≠ q.1)) : b ∈ (delM ms a).map (·.1) ↔ b ≠ a ∧ b ∈ ms.map (·.1) := by
  rw [delM_eq a hn]
  constructor
  · intro h
    obtain ⟨p, hp, rfl⟩ := List.mem_map.1 h
    obtain ⟨h1, h2⟩ := List.mem_filter.1 hp
    exact ⟨by simpa using h2, List.mem_map.2 ⟨p, h1, rfl⟩⟩
  · rintro ⟨h1, h⟩
    obtain ⟨p, hp, rfl⟩ := List.mem_map.1 h
    exact List.mem_map.2 ⟨p, List.mem_filter.2 ⟨hp, by simpa using h1⟩, rfl⟩
theorem delM_at {α β : Type} [DecidableEq α] : ∀ {ms : List (α × β)} {k : Nat} {a : α} {x : β}, ms.Pairwise (fun p q => p.1 ≠ q.1) → ms[k]? = some (a, x) → delM ms a = ms.eraseIdx k
  | [], k, a, x, _, h => by simp at h
  | (b, y) :: l, 0, a, x, hn, h => by simp at h; obtain ⟨rfl, rfl⟩ := h; simp [delM]
  | (b, y) :: l, k + 1, a, x, hn, h => by
    have h' : l[k]? = some (a, x) := by simpa using h
    have hne : b ≠ a := (List.pairwise_cons.1 hn).1 (a, x) (List.mem_of_getElem? h')
    simp only [delM, if_neg hne]
    rw [delM_at (List.pairwise_cons.1 hn).2 h']; rfl
end Go.Proofs.YtcblkjjkpffjhaaDoor
