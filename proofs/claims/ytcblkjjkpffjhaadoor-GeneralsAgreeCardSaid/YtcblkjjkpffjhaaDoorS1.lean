/- Memory in parts that share nothing: what each call owns, and what it leaves to others. Over any program. No condition. -/
import Derived.Test.YtcblkjjkpffjhaaDoorL7
import Derived.Maps.Own
namespace Go.Proofs.YtcblkjjkpffjhaaDoor
open Go.RowKit
set_option linter.unusedVariables false

/-- a part of memory -/
abbrev Part := Nat → Option Obj
/-- what a part of memory is -/
def Hp := Part → Prop

def Hp.star (P Q : Hp) : Hp := fun h => ∃ h1 h2 : Part, (∀ k, h1 k = none ∨ h2 k = none) ∧ (h = fun k => (h1 k).or (h2 k)) ∧ P h1 ∧ Q h2
instance : Mul Hp := ⟨Hp.star⟩
def Hp.emp : Hp := fun h => h = fun _ => none
instance : OfNat Hp 1 := ⟨Hp.emp⟩
def Hp.ex {α : Type} (p : α → Hp) : Hp := fun h => ∃ x, p x h
def Hp.pure (p : Prop) : Hp := fun h => p ∧ h = fun _ => none

theorem Hp.mul_def (P Q : Hp) (h : Part) : (P * Q) h = ∃ h1 h2 : Part, (∀ k, h1 k = none ∨ h2 k = none) ∧ (h = fun k => (h1 k).or (h2 k)) ∧ P h1 ∧ Q h2 := rfl

theorem Hp.mul_comm (P Q : Hp) : P * Q = Q * P := by
  have key : ∀ (P Q : Hp) h, (P * Q) h → (Q * P) h := by
    rintro P Q h ⟨h1, h2, hd, rfl, p, q⟩
    refine ⟨h2, h1, fun k => (hd k).symm, ?_, q, p⟩
    funext k
    rcases hd k with e | e <;> simp [e]
  funext h
  exact propext ⟨key P Q h, key Q P h⟩

theorem Hp.mul_assoc (P Q R : Hp) : P * Q * R = P * (Q * R) := by
  funext h
  refine propext ⟨?_, ?_⟩
  · rintro ⟨h12, h3, hd, rfl, ⟨h1, h2, hd', rfl, p, q⟩, r⟩
    refine ⟨h1, fun k => (h2 k).or (h3 k), fun k => ?_, ?_, p, h2, h3, fun k => ?_, rfl, q, r⟩
    · rcases hd' k with e | e
      · exact .inl e
      · rcases hd k with e' | e'
        · left; simp at e'; exact e'.1
        · right; simp [e, e']
    · funext k; simp [Option.or_assoc]
    · rcases hd k with e | e
      · left; simp at e; exact e.2
      · exact .inr e
  · rintro ⟨h1, h23, hd, rfl, p, h2, h3, hd', rfl, q, r⟩
    refine ⟨fun k => (h1 k).or (h2 k), h3, fun k => ?_, ?_, ⟨h1, h2, fun k => ?_, rfl, p, q⟩, r⟩
    · rcases hd' k with e | e
      · rcases hd k with e' | e'
        · left; simp [e, e']
        · right; simp at e'; exact e'.2
      · exact .inr e
    · funext k; simp [Option.or_assoc]
    · rcases hd k with e | e
      · exact .inl e
      · right; simp at e; exact e.1

theorem Hp.mul_one (P : Hp) : P * 1 = P := by
  funext h
  refine propext ⟨?_, fun p => ⟨h, fun _ => none, fun k => .inr rfl, ?_, p, rfl⟩⟩
  · rintro ⟨h1, h2, hd, rfl, p, rfl⟩
    have : (fun k => (h1 k).or none) = h1 := by funext k; simp
    rw [this]; exact p
  · funext k; simp
theorem Hp.one_mul (P : Hp) : 1 * P = P := by rw [Hp.mul_comm, Hp.mul_one]
theorem Hp.mul_left_comm (P Q R : Hp) : P * (Q * R) = Q * (P * R) := by rw [← Hp.mul_assoc, Hp.mul_comm P Q, Hp.mul_assoc]
instance : Std.Associative (α := Hp) (· * ·) := ⟨Hp.mul_assoc⟩
instance : Std.Commutative (α := Hp) (· * ·) := ⟨Hp.mul_comm⟩
instance : Std.LawfulIdentity (α := Hp) (· * ·) 1 := { left_id := Hp.one_mul, right_id := Hp.mul_one }

/-- behind world W, world w: what W had is there; the rest, as far as it is owned, is P -/
def Sat (W w : World) (P : Hp) : Prop := Below W.heap.size W w ∧ ∃ h : Part, (∀ k o, h k = some o → W.heap.size ≤ k ∧ w.heap[k]? = some o) ∧ P h

section
variable {W w w' : World} {P P' Q R : Hp}

theorem Sat.below (H : Sat W w P) : Below W.heap.size W w := H.1
theorem Sat.size (H : Sat W w P) : W.heap.size ≤ w.heap.size := H.1.size
theorem Sat.start (W : World) : Sat W W 1 := ⟨Below.refl _ _, fun _ => none, fun k o h => (by cases h), rfl⟩
theorem Sat.cast (H : Sat W w P) (e : P = Q) : Sat W w Q := e ▸ H
theorem Sat.mono (H : Sat W w (P * R)) (h : ∀ m, P m → P' m) : Sat W w (P' * R) := by
  obtain ⟨hb, m, hm, h1, h2, hd, e, p, r⟩ := H
  exact ⟨hb, m, hm, h1, h2, hd, e, h _ p, r⟩
theorem Sat.imp (H : Sat W w P) (h : ∀ m, P m → P' m) : Sat W w P' := by
  obtain ⟨hb, m, hm, p⟩ := H
  exact ⟨hb, m, hm, h _ p⟩
theorem Sat.drop (H : Sat W w (P * R)) : Sat W w R := by
  obtain ⟨hb, m, hm, h1, h2, hd, rfl, p, r⟩ := H
  refine ⟨hb, h2, fun k o hk => hm k o ?_, r⟩
  rcases hd k with e | e
  · simp [e, hk]
  · rw [e] at hk; cases hk
theorem Sat.ex {α : Type} {p : α → Hp} (H : Sat W w (Hp.ex p * R)) : ∃ x, Sat W w (p x * R) := by
  obtain ⟨hb, m, hm, h1, h2, hd, rfl, ⟨x, p⟩, r⟩ := H
  exact ⟨x, hb, _, hm, h1, h2, hd, rfl, p, r⟩
theorem Sat.exI {α : Type} {p : α → Hp} (x : α) (H : Sat W w (p x * R)) : Sat W w (Hp.ex p * R) := H.mono fun m h => ⟨x, h⟩
theorem Sat.pure {p : Prop} (H : Sat W w (Hp.pure p * R)) : p ∧ Sat W w R := by
  obtain ⟨hb, m, hm, h1, h2, hd, rfl, ⟨x, p⟩, r⟩ := H
  exact ⟨x, Sat.drop (P := Hp.pure _) ⟨hb, _, hm, h1, h2, hd, rfl, ⟨x, p⟩, r⟩⟩
theorem Sat.pureI {p : Prop} (hp : p) (H : Sat W w R) : Sat W w (Hp.pure p * R) := by
  have : Sat W w (1 * R) := by rw [Hp.one_mul]; exact H
  exact this.mono fun m h => ⟨hp, h⟩

/-- the same memory, whatever was drawn -/
theorem Sat.of_below (H : Sat W w P) (hb : Below w.heap.size w w') : Sat W w' P := by
  obtain ⟨hb0, m, hm, p⟩ := H
  refine ⟨hb0.trans (hb.mono hb0.size), m, fun k o hk => ?_, p⟩
  obtain ⟨h1, h2⟩ := hm k o hk
  exact ⟨h1, by rw [hb.block k (Array.getElem?_eq_some_iff.1 h2).1]; exact h2⟩
theorem Sat.drew (H : Sat W w P) : Sat W w.drew P := H.of_below (Below.refl _ _).drew
theorem Sat.drewN (H : Sat W w P) (n : Nat) : Sat W (w.drewN n) P := H.of_below (below_drewN (Below.refl _ _) n)
theorem Sat.drawn (H : Sat W w P) (n : Nat) : Sat W { w with drawn := n } P := H.of_below ⟨rfl, rfl, rfl, Nat.le_refl _, fun _ _ => rfl⟩

/-- one part changes, the rest stays -/
theorem Sat.change (H : Sat W w (P * R)) (os : w'.os = w.os) (tape : w'.tape = w.tape) (output : w'.output = w.output) (size : w.heap.size ≤ w'.heap.size)
    (step : ∀ m, P m → (∀ k o, m k = some o → W.heap.size ≤ k ∧ w.heap[k]? = some o) → ∃ m', P' m' ∧ (∀ k o, m' k = some o → w'.heap[k]? = some o ∧ (m k ≠ none ∨ w.heap.size ≤ k)) ∧ (∀ k, k < w.heap.size → m k = none → w'.heap[k]? = w.heap[k]?)) : Sat W w' (P' * R) := by
  obtain ⟨hb, m, hm, h1, h2, hd, rfl, p, r⟩ := H
  have hm1 : ∀ k o, h1 k = some o → W.heap.size ≤ k ∧ w.heap[k]? = some o := fun k o hk => hm k o (by simp [hk])
  have hm2 : ∀ k o, h2 k = some o → W.heap.size ≤ k ∧ w.heap[k]? = some o := fun k o hk => hm k o (by
    rcases hd k with e | e
    · simp [e, hk]
    · rw [e] at hk; cases hk)
  obtain ⟨m', p', q1, q2⟩ := step h1 p hm1
  have hdis : ∀ k, m' k = none ∨ h2 k = none := fun k => by
    cases e : m' k with
    | none => exact .inl rfl
    | some o =>
      right
      rcases (q1 k o e).2 with h | h
      · exact (hd k).resolve_left h
      · cases e2 : h2 k with
        | none => rfl
        | some o2 =>
          have := (Array.getElem?_eq_some_iff.1 (hm2 k o2 e2).2).1
          omega
  refine ⟨⟨os.trans hb.os, tape.trans hb.tape, output.trans hb.output, Nat.le_trans hb.size size, fun k hk => ?_⟩, fun k => (m' k).or (h2 k), fun k o hk => ?_, m', h2, hdis, rfl, p', r⟩
  · rw [q2 k (Nat.lt_of_lt_of_le hk hb.size) ?_, hb.block k hk]
    cases e : h1 k with
    | none => rfl
    | some o => have := (hm1 k o e).1; omega
  · dsimp only at hk
    rcases hdis k with e | e
    · rw [e] at hk
      simp at hk
      obtain ⟨g1, g2⟩ := hm2 k o hk
      refine ⟨g1, ?_⟩
      rw [q2 k (Array.getElem?_eq_some_iff.1 g2).1 ?_]; exact g2
      rcases hd k with e' | e'
      · exact e'
      · rw [e'] at hk; cases hk
    · rw [e] at hk
      simp at hk
      obtain ⟨g1, g2⟩ := q1 k o hk
      refine ⟨?_, g1⟩
      rcases g2 with g2 | g2
      · cases e3 : h1 k with
        | none => exact absurd e3 g2
        | some o3 => exact (hm1 k o3 e3).1
      · exact Nat.le_trans hb.size g2
end

theorem Sat.sw {W w : World} {P Q R : Hp} (H : Sat W w (P * (Q * R))) : Sat W w (Q * (P * R)) := H.cast (Hp.mul_left_comm _ _ _)
theorem Sat.assoc {W w : World} {P Q R : Hp} (H : Sat W w (P * Q * R)) : Sat W w (P * (Q * R)) := H.cast (Hp.mul_assoc _ _ _)
theorem Sat.up2 {W w : World} {A B C R : Hp} (H : Sat W w (A * (B * (C * R)))) : Sat W w (C * (A * (B * R))) := H.cast (by ac_rfl)
theorem Sat.up3 {W w : World} {A B C D R : Hp} (H : Sat W w (A * (B * (C * (D * R))))) : Sat W w (D * (A * (B * (C * R)))) := H.cast (by ac_rfl)
theorem Sat.up4 {W w : World} {A B C D E R : Hp} (H : Sat W w (A * (B * (C * (D * (E * R)))))) : Sat W w (E * (A * (B * (C * (D * R))))) := H.cast (by ac_rfl)
theorem Sat.dn2 {W w : World} {A B C R : Hp} (H : Sat W w (A * (B * (C * R)))) : Sat W w (B * (C * (A * R))) := H.cast (by ac_rfl)
theorem Sat.dn3 {W w : World} {A B C D R : Hp} (H : Sat W w (A * (B * (C * (D * R))))) : Sat W w (B * (C * (D * (A * R)))) := H.cast (by ac_rfl)
/-- the world under a name -/
theorem region_in {P : Program} {id : Nat} {l : List Oper} {b : Bool} {Q : Exit → Act → World → Prop} {a : Act} {W w : World} {A : Hp} (H : Sat W w A) (h : ∀ w1, Sat W w1 A → (Code.region id l.toArray b).wp P Q a w1) : (Code.region id l.toArray b).wp P Q a w := h w H

/-! ### one block -/
def single (b : Nat) (o : Obj) : Part := fun k => if k = b then some o else none
def Hp.blk (b : Nat) (p : Obj → Prop) : Hp := fun h => ∃ o, p o ∧ h = single b o

def Obj.cellAt (o : Obj) (i : Nat) : Option Value := match o with
  | .cells c _ _ => c[i]?
  | _ => none
def Obj.freeAt (o : Obj) (i : Nat) : Bool := match o with
  | .cells _ _ (lo, hi) => !(decide (lo ≤ i) && decide (i < hi))
  | _ => true
def Obj.set (o : Obj) (i : Nat) (u : Value) : Obj := match o with
  | .cells c e f => .cells (c.setIfInBounds i u) e f
  | o => o

theorem cell_of_block {w : World} {b i : Nat} {o : Obj} (h : w.heap[b]? = some o) : w.cell? ⟨b, i, none⟩ = Obj.cellAt o i := by
  unfold World.cell? Obj.cellAt
  simp only [h]
  cases o <;> rfl
theorem free_of_block {w : World} {b i : Nat} {o : Obj} (h : w.heap[b]? = some o) : w.frozen? ⟨b, i, none⟩ = !Obj.freeAt o i := by
  unfold World.frozen? Obj.freeAt
  simp only [h]
  cases o <;> simp
theorem block_setCell_same {w : World} {b i : Nat} {u : Value} {o : Obj} (h : w.heap[b]? = some o) : (w.setCell ⟨b, i, none⟩ u).heap[b]? = some (Obj.set o i u) := by
  simp only [World.setCell, Array.getElem?_modify, if_true, h, Option.map_some]
  cases o <;> rfl

section
variable {W w w' : World} {P P' Q R : Hp} {b : Nat}

theorem Sat.blk {p : Obj → Prop} (H : Sat W w (Hp.blk b p * R)) : W.heap.size ≤ b ∧ ∃ o, w.heap[b]? = some o ∧ p o := by
  obtain ⟨hb, m, hm, h1, h2, hd, rfl, ⟨o, ho, rfl⟩, r⟩ := H
  have := hm b o (by simp [single])
  exact ⟨this.1, o, this.2, ho⟩

theorem Sat.blk_change {p p' : Obj → Prop} (H : Sat W w (Hp.blk b p * R)) (hg : w.grownBy w' (some b)) (h : ∀ o, w.heap[b]? = some o → p o → ∃ o', w'.heap[b]? = some o' ∧ p' o') : Sat W w' (Hp.blk b p' * R) := by
  refine H.change hg.os hg.tape hg.output hg.size fun m ⟨o, ho, hm⟩ hin => ?_
  subst hm
  have hbo := (hin b o (by simp [single])).2
  obtain ⟨o', h1, h2⟩ := h o hbo ho
  refine ⟨single b o', ⟨o', h2, rfl⟩, fun k q hk => ?_, fun k hk hn => ?_⟩
  · unfold single at hk
    split at hk
    · rename_i e; subst e; cases hk; exact ⟨h1, .inl (by simp [single])⟩
    · cases hk
  · refine hg.block k hk (fun e => ?_)
    cases e
    simp [single] at hn

/-- a new block -/
theorem Sat.alloc_blk {p : Obj → Prop} (H : Sat W w R) (o : Obj) (hp : p o) : Sat W (w.alloc o) (Hp.blk w.heap.size p * R) := by
  have : Sat W w (1 * R) := by rw [Hp.one_mul]; exact H
  refine this.change rfl rfl rfl (by simp) fun m hm _ => ?_
  refine ⟨single w.heap.size o, ⟨o, hp, rfl⟩, fun k q hk => ?_, fun k hk _ => Below.heap_alloc _ _ _ hk⟩
  unfold single at hk
  split at hk
  · rename_i e; subst e; cases hk; exact ⟨heap_alloc_new w _, .inr (Nat.le_refl _)⟩
  · cases hk

/-- two parts have no block in common -/
theorem Sat.ne {b' : Nat} {p p' : Obj → Prop} (H : Sat W w (Hp.blk b p * (Hp.blk b' p' * R))) : b ≠ b' := by
  rintro rfl
  obtain ⟨hb, m, hm, h1, h2, hd, rfl, ⟨o, ho, rfl⟩, h3, h4, hd2, rfl, ⟨o2, _, rfl⟩, _⟩ := H
  rcases hd b with e | e
  · simp [single] at e
  · simp [single] at e
end

/-! ### records -/
def isRec (vs : List Value) (o : Obj) : Prop := ∀ i u, vs[i]? = some u → Obj.cellAt o i = some u ∧ Obj.freeAt o i = true
def Hp.rec_ (b : Nat) (vs : List Value) : Hp := Hp.blk b (isRec vs)

section
variable {W w w' : World} {P P' Q R : Hp} {b : Nat} {vs : List Value}
theorem Sat.rec_ (H : Sat W w (Hp.rec_ b vs * R)) : Rec w b vs := by
  obtain ⟨_, o, ho, hr⟩ := H.blk
  refine ⟨(Array.getElem?_eq_some_iff.1 ho).1, fun i u hu => ?_⟩
  obtain ⟨h1, h2⟩ := hr i u hu
  exact ⟨(cell_of_block ho).trans h1, by rw [free_of_block ho, h2]; rfl⟩
theorem Sat.cell (H : Sat W w (Hp.rec_ b vs * R)) (i : Nat) {u : Value} (hu : vs[i]? = some u) : w.cell? ⟨b, i, none⟩ = some u := (H.rec_.2 i u hu).1
theorem Sat.free (H : Sat W w (Hp.rec_ b vs * R)) (i : Nat) {u : Value} (hu : vs[i]? = some u) : w.frozen? ⟨b, i, none⟩ = false := (H.rec_.2 i u hu).2
theorem Sat.lo (H : Sat W w (Hp.rec_ b vs * R)) : W.heap.size ≤ b := H.blk.1
theorem isRec.set {o : Obj} (h : isRec vs o) (i : Nat) (u : Value) : isRec (vs.set i u) (Obj.set o i u) := by
  intro j x hx
  rw [List.getElem?_set] at hx
  by_cases e : i = j
  · subst e
    rw [if_pos rfl] at hx
    split at hx
    · rename_i hlt
      cases hx
      obtain ⟨y, hy⟩ := get_of_lt hlt
      obtain ⟨h1, h2⟩ := h i y hy
      cases o <;> simp only [Obj.cellAt, Obj.freeAt, Obj.set] at * <;> first | (cases h1; done) | skip
      exact ⟨by rw [Array.getElem?_setIfInBounds, if_pos rfl, if_pos (Array.getElem?_eq_some_iff.1 h1).1], h2⟩
    · cases hx
  · rw [if_neg e] at hx
    obtain ⟨h1, h2⟩ := h j x hx
    cases o <;> simp only [Obj.cellAt, Obj.freeAt, Obj.set] at * <;> first | (cases h1; done) | skip
    exact ⟨by rw [Array.getElem?_setIfInBounds, if_neg e]; exact h1, h2⟩
theorem Sat.set (H : Sat W w (Hp.rec_ b vs * R)) (i : Nat) (u : Value) : Sat W (w.setCell ⟨b, i, none⟩ u) (Hp.rec_ b (vs.set i u) * R) :=
  H.blk_change (grownBy_setCell w ⟨b, i, none⟩ u) fun o ho hr => ⟨_, block_setCell_same ho, hr.set i u⟩
theorem Sat.alloc (H : Sat W w R) (cs : Array Value) (T : TypeId) (vs : List Value) (e : cs.toList = vs) : Sat W (w.alloc (.cells cs T)) (Hp.rec_ w.heap.size vs * R) := by
  subst e
  refine H.alloc_blk _ fun i u hu => ?_
  rw [Array.getElem?_toList] at hu
  exact ⟨hu, by simp [Obj.freeAt]⟩
end

theorem Sat.allocAt {W w : World} {R : Hp} (H : Sat W w R) (cs : Array Value) (T : TypeId) (vs : List Value) (e : cs.toList = vs) {b : Nat} (hb : w.heap.size = b) : Sat W (w.alloc (.cells cs T)) (Hp.rec_ b vs * R) := by subst hb; exact H.alloc cs T vs e

/-! ### slices of the call's own -/
section
variable {α : Type}
def isRow (f : α → List Value) (sz off cap : Nat) (xs : List α) (o : Obj) : Prop :=
  (∀ j, j < cap * sz → (Obj.cellAt o (off + j)).isSome = true ∧ Obj.freeAt o (off + j) = true) ∧ ∀ j x, xs[j]? = some x → ∀ i u, (f x)[i]? = some u → Obj.cellAt o (off + (j * sz + i)) = some u
def Hp.own (f : α → List Value) (sz : Nat) (v : Value) (xs : List α) : Hp := fun h =>
  (v = .slice none 0 0 ∧ xs = [] ∧ h = fun _ => none) ∨ ∃ g off cap, v = .slice (some ⟨g, off, none⟩) xs.length cap ∧ xs.length ≤ cap ∧ Hp.blk g (isRow f sz off cap xs) h

variable {f : α → List Value} {sz : Nat} {W w w' : World} {P P' Q R : Hp} {v : Value} {xs : List α}

theorem Sat.ows (H : Sat W w (Hp.own f sz v xs * R)) : OwS f sz w W.heap.size v xs := by
  obtain ⟨hb, m, hm, h1, h2, hd, rfl, (⟨e1, e2, _⟩ | ⟨g, off, cap, e1, hc, o, ⟨hs, he⟩, rfl⟩), r⟩ := H
  · exact .inl ⟨e1, e2⟩
  · obtain ⟨hlo, ho⟩ := hm g o (by simp [single])
    refine .inr ⟨g, off, cap, e1, hlo, (Array.getElem?_eq_some_iff.1 ho).1, hc, fun j hj => ?_, fun j x hx i u hu => ?_⟩
    · obtain ⟨q1, q2⟩ := hs j hj
      exact ⟨by rw [cell_of_block ho]; exact q1, by rw [free_of_block ho, q2]; rfl⟩
    · rw [cell_of_block ho]; exact he j x hx i u hu

theorem isRow_of {g off n cap : Nat} {base : Nat} (h : OwS f sz w base (.slice (some ⟨g, off, none⟩) n cap) xs) {o : Obj} (ho : w.heap[g]? = some o) : isRow f sz off cap xs o ∧ n = xs.length ∧ xs.length ≤ cap := by
  rcases h with ⟨e, _⟩ | ⟨g', off', cap', e, hb, hlt, hc, hs, he⟩
  · cases e
  · cases e
    refine ⟨⟨fun j hj => ?_, fun j x hx i u hu => ?_⟩, rfl, hc⟩
    · obtain ⟨q1, q2⟩ := hs j hj
      rw [cell_of_block ho] at q1
      rw [free_of_block ho] at q2
      exact ⟨q1, by simpa using q2⟩
    · have := he j x hx i u hu
      rwa [cell_of_block ho] at this

/-- an own slice that turned into another one -/
theorem Sat.reown {β : Type} {f' : β → List Value} {sz' : Nat} {v' : Value} {ys : List β} {base : Nat} (H : Sat W w (Hp.own f sz v xs * R)) (h : OwS f' sz' w' base v' ys) (hg : w.grownBy w' v.ownBlock)
    (hf : v'.ownBlock = v.ownBlock ∨ ∃ g, v'.ownBlock = some g ∧ w.heap.size ≤ g) : Sat W w' (Hp.own f' sz' v' ys * R) := by
  have hlow := H.size
  have hv := H.ows
  refine H.change hg.os hg.tape hg.output hg.size fun m hm hin => ?_
  have hown : ∀ k, m k = none ↔ v.ownBlock ≠ some k := fun k => by
    rcases hm with ⟨rfl, _, rfl⟩ | ⟨g, off, cap, rfl, _, o, _, rfl⟩
    · simp [Value.ownBlock]
    · simp only [single, Value.ownBlock]
      by_cases e : k = g
      · subst e; simp
      · simp [e]; exact fun h => e h.symm
  rcases h with ⟨rfl, rfl⟩ | ⟨g', off', cap', rfl, hb', hlt', hc', hs', he'⟩
  · refine ⟨fun _ => none, .inl ⟨rfl, rfl, rfl⟩, fun k o hk => (by cases hk), fun k hk hn => hg.block k hk (fun e => (hown k).1 hn e.symm)⟩
  · obtain ⟨o', ho'⟩ : ∃ o', w'.heap[g']? = some o' := ⟨_, Array.getElem?_eq_getElem hlt'⟩
    have hrow := isRow_of (w := w') (base := base) (.inr ⟨g', off', cap', rfl, hb', hlt', hc', hs', he'⟩) ho'
    refine ⟨single g' o', .inr ⟨g', off', cap', rfl, hc', o', hrow.1, rfl⟩, fun k q hk => ?_, fun k hk hn => hg.block k hk (fun e => (hown k).1 hn e.symm)⟩
    unfold single at hk
    split at hk
    · rename_i e; subst e; cases hk
      refine ⟨ho', ?_⟩
      rcases hf with hf | ⟨g, hg1, hg2⟩
      · left; intro hn; exact (hown k).1 hn (by rw [← hf]; rfl)
      · cases hg1; exact .inr hg2
    · cases hk

theorem Sat.nil (H : Sat W w R) (f : α → List Value) (sz : Nat) : Sat W w (Hp.own f sz (.slice none 0 0) ([] : List α) * R) := by
  have : Sat W w (1 * R) := by rw [Hp.one_mul]; exact H
  exact this.mono fun m hm => .inl ⟨rfl, rfl, hm⟩

/-- a slice that was just made -/
theorem Sat.newOwn {e : TypeId} {cs : Array Value} {n cap : Nat} (H : Sat W w R) (h : OwS f sz (w.alloc (.cells cs e)) w.heap.size (.slice (some ⟨w.heap.size, 0, none⟩) n cap) xs) :
    Sat W (w.alloc (.cells cs e)) (Hp.own f sz (.slice (some ⟨w.heap.size, 0, none⟩) n cap) xs * R) := by
  have h0 := H.nil f sz
  exact h0.reown h ⟨rfl, rfl, rfl, by simp, fun k hk _ => Below.heap_alloc _ _ _ hk⟩ (.inr ⟨_, rfl, Nat.le_refl _⟩)

theorem Sat.newOwnAt {e : TypeId} {cs : Array Value} {n cap b : Nat} (H : Sat W w R) (hb : w.heap.size = b) (h : OwS f sz (w.alloc (.cells cs e)) w.heap.size (.slice (some ⟨w.heap.size, 0, none⟩) n cap) xs) :
    Sat W (w.alloc (.cells cs e)) (Hp.own f sz (.slice (some ⟨b, 0, none⟩) n cap) xs * R) := by subst hb; exact H.newOwn h
theorem SlS.el {sz' : Nat} {xs : List α} {a : Option Addr} {n cap : Nat} (h : SlS f sz' w (.slice a n cap) xs) {j : Nat} {x : α} (hx : xs[j]? = some x) : ∃ b off, a = some ⟨b, off, none⟩ ∧ b < w.heap.size ∧ ∀ i u, (f x)[i]? = some u → w.cell? ⟨b, off + j * sz' + i, none⟩ = some u := by
  obtain ⟨a', cap', hv, _, _, hc⟩ := h
  cases hv
  obtain ⟨b, off, e, h1, h2⟩ := hc j x hx
  exact ⟨b, off, e, h1, fun i u hu => by rw [Nat.add_assoc]; exact h2 i u hu⟩
/-- what is owned reads as a list -/
theorem Sat.sls (H : Sat W w (Hp.own f sz v xs * R)) (hm : xs.length ≤ 140737488355328) : SlS f sz w v xs := OwS.sl H.ows hm
theorem Sat.spell {j : Nat} {x : α} (H : Sat W w (Hp.own f sz v xs * R)) (hx : xs[j]? = some x) : Sat W w (Hp.own f sz v (xs.set j x) * R) := by rw [set_same hx]; exact H
/-- a store into an element -/
theorem Sat.put {g off n cap : Nat} {j : Nat} {x : α} (H : Sat W w (Hp.own f sz (.slice (some ⟨g, off, none⟩) n cap) (xs.set j x) * R)) (hf : ∀ x, (f x).length = sz) (hj : j < xs.length) (i : Nat) (u : Value) (y : α) (hi : i < sz) (hy : f y = (f x).set i u) :
    Sat W (w.setCell ⟨g, off + j * sz + i, none⟩ u) (Hp.own f sz (.slice (some ⟨g, off, none⟩) n cap) (xs.set j y) * R) :=
  H.reown (H.ows.put hf hj i u y hi hy) (grownBy_setCell w _ u) (.inl rfl)
theorem Sat.put0 {g off n cap : Nat} {j : Nat} {x : α} (H : Sat W w (Hp.own f sz (.slice (some ⟨g, off, none⟩) n cap) (xs.set j x) * R)) (hf : ∀ x, (f x).length = sz) (hj : j < xs.length) (u : Value) (y : α) (hi : 0 < sz) (hy : f y = (f x).set 0 u) :
    Sat W (w.setCell ⟨g, off + j * sz, none⟩ u) (Hp.own f sz (.slice (some ⟨g, off, none⟩) n cap) (xs.set j y) * R) := H.put hf hj 0 u y hi hy
end

/-- an own slice and a block have nothing in common -/
theorem Sat.ne_own {α : Type} {f : α → List Value} {sz g off n cap b : Nat} {xs : List α} {p : Obj → Prop} {W w : World} {R : Hp} (H : Sat W w (Hp.own f sz (.slice (some ⟨g, off, none⟩) n cap) xs * (Hp.blk b p * R))) : g ≠ b := by
  rintro rfl
  obtain ⟨hb, m, hm, h1, h2, hd, rfl, hown, h3, h4, hd2, rfl, ⟨o2, _, rfl⟩, _⟩ := H
  rcases hown with ⟨e, _⟩ | ⟨g', off', cap', e, _, o, _, rfl⟩
  · cases e
  · cases e
    rcases hd g with e | e
    · simp [single] at e
    · simp [single] at e

/-! ### many parts -/
def Hp.big {α : Type} (p : α → Hp) : List α → Hp
  | [] => 1
  | x :: l => p x * Hp.big p l

theorem Hp.big_append {α : Type} (p : α → Hp) : ∀ l l' : List α, Hp.big p (l ++ l') = Hp.big p l * Hp.big p l'
  | [], l' => (Hp.one_mul _).symm
  | x :: l, l' => by rw [List.cons_append, Hp.big, Hp.big, Hp.big_append p l l', Hp.mul_assoc]

/-- one of many, and the rest, with room for another one in its place -/
theorem Hp.big_focus {α : Type} (p : α → Hp) : ∀ (l : List α) (i : Nat) (x : α), l[i]? = some x → ∃ R, Hp.big p l = p x * R ∧ ∀ y, Hp.big p (l.set i y) = p y * R
  | [], _, _, h => by simp at h
  | z :: l, 0, x, h => by
    simp at h; subst h
    exact ⟨Hp.big p l, rfl, fun y => rfl⟩
  | z :: l, i + 1, x, h => by
    obtain ⟨R, h1, h2⟩ := Hp.big_focus p l i x (by simpa using h)
    refine ⟨p z * R, ?_, fun y => ?_⟩
    · rw [Hp.big, h1, Hp.mul_left_comm]
    · rw [List.set_cons_succ, Hp.big, h2, Hp.mul_left_comm]

theorem Hp.big_perm {α : Type} (p : α → Hp) {l l' : List α} (h : l.Perm l') : Hp.big p l = Hp.big p l' := by
  induction h with
  | nil => rfl
  | cons x _ ih => rw [Hp.big, Hp.big, ih]
  | swap x y l => rw [Hp.big, Hp.big, Hp.big, Hp.big, Hp.mul_left_comm]
  | trans _ _ h1 h2 => exact h1.trans h2

end Go.Proofs.YtcblkjjkpffjhaaDoor
