/- The register's copies and ops, in plain words. No condition. -/
import Derived.Test.YtjiefamdpbnngaaT
import Derived.Test.YtjiefamdpbnngaaX14
namespace Go.Proofs.Ytjiefamdpbnngaa
open Go.RowKit
set_option linter.unusedVariables false
set_option linter.unusedSimpArgs false
set_option maxRecDepth 100000

structure Sd where
  n : Nat
  who : Nat
  val : Int
structure Oq where
  who : Nat
  wr : Bool
  val : Int
  frm : Nat
  to : Int
  best : Sd
  sec : Bool
  seen : List Nat
  many : Nat
structure Cl where
  kind : Int
  who : Int
  loc : Int
  src : Int
  wr : Bool
  val : Int
structure RS where
  cs : List Sd
  ops : List Oq
  now : List (Option Nat)
def sd0 : Sd := ⟨0, 0, 0⟩
def later (s t : Sd) : Bool := decide (t.n < s.n ∨ (t.n = s.n ∧ t.who < s.who))
def storeR (cs : List Sd) (i : Nat) (s : Sd) : List Sd := match cs[i]? with | some c => if later s c then cs.set i s else cs | none => cs
/-- what an op has behind one copy more -/
def seeR (cs : List Sd) (i : Nat) (o : Oq) : Oq :=
  { o with seen := o.seen ++ [i], many := o.many + 1, best := if o.sec then o.best else match cs[i]? with | some c => if later c o.best then c else o.best | none => o.best }
def turnO (o : Oq) (m : Nat) : Oq :=
  if o.sec then { o with to := (m : Int), val := if o.wr then o.val else o.best.val }
  else { o with sec := true, seen := [], many := 0, best := if o.wr then ⟨o.best.n + 1, o.who, o.val⟩ else o.best }
def reachR (s : RS) (c i m : Nat) : Int × RS :=
  match s.now.getD c none with
  | none => (6, s)
  | some k => match s.ops[k]? with
    | none => (6, s)
    | some o =>
      if i ∈ o.seen then (6, s)
      else if 2 * (o.many + 1) ≤ s.cs.length then (0, ⟨if o.sec then storeR s.cs i o.best else s.cs, s.ops.set k (seeR s.cs i o), s.now⟩)
      else (0, ⟨if o.sec then storeR s.cs i o.best else s.cs, s.ops.set k (turnO (seeR s.cs i o) m), if o.sec then s.now.set o.who none else s.now⟩)
def newO (c : Nat) (wr : Bool) (val : Int) (m : Nat) : Oq := ⟨c, wr, if wr then val else 0, m, -1, sd0, false, [], 0⟩
def beginR (s : RS) (c : Nat) (wr : Bool) (val : Int) (m : Nat) : Int × RS :=
  match s.now.getD c none with
  | some _ => (6, s)
  | none => (0, ⟨s.cs, s.ops ++ [newO c wr val m], s.now.set c (some s.ops.length)⟩)
def lateR (s : RS) (i : Nat) (k : Int) : Int × RS :=
  if k < 0 then (2, s) else match s.ops[k.toNat]? with
  | none => (2, s)
  | some o => if o.sec then (0, ⟨storeR s.cs i o.best, s.ops, s.now⟩) else (2, s)
def stepR (s : RS) (c : Cl) (m : Nat) : Int × RS :=
  if c.kind < 1 ∨ 3 < c.kind then (4, s)
  else if (c.kind ≠ 3 ∧ (c.who < 0 ∨ 4 ≤ c.who)) ∨ (c.kind ≠ 1 ∧ (c.loc < 0 ∨ (s.cs.length : Int) ≤ c.loc)) then (2, s)
  else if c.kind = 1 then beginR s c.who.toNat c.wr c.val m
  else if c.kind = 2 then reachR s c.who.toNat c.loc.toNat m
  else lateR s c.loc.toNat c.src
def stR : RS → Nat → List Cl → RS
  | s, _, [] => s
  | s, m, c :: cs => stR (stepR s c m).2 (m + 1) cs
def codesR : RS → Nat → List Cl → List Int
  | s, _, [] => []
  | s, m, c :: cs => (stepR s c m).1 :: codesR (stepR s c m).2 (m + 1) cs
def rs0 (n : Nat) : RS := ⟨List.replicate n sd0, [], List.replicate 4 none⟩
theorem stR_app : ∀ (l l' : List Cl) (s : RS) (m : Nat), stR s m (l ++ l') = stR (stR s m l) (m + l.length) l'
  | [], _, _, _ => rfl
  | c :: l, l', s, m => by simp only [List.cons_append, stR, List.length_cons]; rw [stR_app l l', Nat.add_assoc, Nat.add_comm 1]
theorem codesR_app : ∀ (l l' : List Cl) (s : RS) (m : Nat), codesR s m (l ++ l') = codesR s m l ++ codesR (stR s m l) (m + l.length) l'
  | [], _, _, _ => rfl
  | c :: l, l', s, m => by simp only [List.cons_append, stR, codesR, List.length_cons]; rw [codesR_app l l', Nat.add_assoc, Nat.add_comm 1]
theorem codesR_len : ∀ (l : List Cl) (s : RS) (m : Nat), (codesR s m l).length = l.length
  | [], _, _ => rfl
  | c :: l, s, m => by simp [codesR, codesR_len l]
/-! counting -/
def cp (p : Nat → Bool) : Nat → Nat
  | 0 => 0
  | n + 1 => cp p n + (if p n then 1 else 0)
theorem cp_le (p : Nat → Bool) : ∀ n, cp p n ≤ n
  | 0 => Nat.le_refl _
  | n + 1 => by have := cp_le p n; simp only [cp]; split <;> omega
theorem cp_all {p : Nat → Bool} : ∀ {n : Nat}, (∀ i, i < n → p i = true) → cp p n = n
  | 0, _ => rfl
  | n + 1, h => by simp only [cp]; rw [cp_all fun i hi => h i (by omega), if_pos (h n (by omega))]
theorem cp_congr {p q : Nat → Bool} : ∀ {n : Nat}, (∀ i, i < n → p i = q i) → cp p n = cp q n
  | 0, _ => rfl
  | n + 1, h => by simp only [cp]; rw [cp_congr fun i hi => h i (by omega), h n (by omega)]
theorem cp_none {p : Nat → Bool} : ∀ {n : Nat}, (∀ i, i < n → p i = false) → cp p n = 0
  | 0, _ => rfl
  | n + 1, h => by simp only [cp]; rw [cp_none fun i hi => h i (by omega), h n (by omega)]; rfl
theorem cp_add {p q : Nat → Bool} {k : Nat} : ∀ {n : Nat}, k < n → p k = false → (∀ i, q i = (p i || decide (k = i))) → cp q n = cp p n + 1
  | 0, h, _, _ => by omega
  | n + 1, h, hp, hq => by
    simp only [cp]
    by_cases e : k = n
    · subst e
      rw [hq k, hp, cp_congr (q := p) fun i hi => by rw [hq i, decide_eq_false (by omega), Bool.or_false]]
      simp
    · rw [cp_add (by omega) hp hq, hq n, decide_eq_false e, Bool.or_false]; omega
theorem cp_meet {p q : Nat → Bool} : ∀ {n : Nat}, n < cp p n + cp q n → ∃ i, i < n ∧ p i = true ∧ q i = true
  | 0, h => by simp [cp] at h
  | n + 1, h => by
    simp only [cp] at h
    by_cases e : p n = true ∧ q n = true
    · exact ⟨n, by omega, e⟩
    · have : n < cp p n + cp q n := by
        by_cases e1 : p n = true
        · have e2 : q n = false := by cases hq : q n; rfl; exact absurd ⟨e1, hq⟩ e
          rw [e1, e2] at h; simp at h; omega
        · rw [show p n = false by simpa using e1] at h
          simp at h; split at h <;> omega
      obtain ⟨i, h1, h2⟩ := cp_meet this
      exact ⟨i, by omega, h2⟩
end Go.Proofs.Ytjiefamdpbnngaa
