/- Walks whose frame and memory are known by lists alone: slots, parts, rules of control. Over any program. No condition. -/
import Derived.Test.YtcblkjjkpffjhaaDoorS3
import Derived.Test.YtcblkjjkpffjhaaDoorS4
import Derived.Deep.Quiet
import Derived.Deep.QuietTactic
namespace Go.Proofs.YtcblkjjkpffjhaaDoor
open Go.RowKit
set_option linter.unusedVariables false

theorem beq_no {a b : Nat} (h : ¬ a = b) : Nat.beq a b = false := by
  cases e : Nat.beq a b
  · rfl
  · exact absurd (Nat.eq_of_beq_eq_true e) h

def look : List (Nat × Value) → Nat → Option Value
  | [], _ => none
  | (k, v) :: m, t => cond (Nat.beq k t) (some v) (look m t)
def evo (m : List (Nat × Value)) : Operand → Option Value
  | .tmp t => look m t
  | .const v => some v
  | .func f => some (.func (.func f) #[] #[])
  | .global g => some (.pointer (some ⟨g, 0, none⟩))
def evoL (m : List (Nat × Value)) : List Operand → Option (List Value)
  | [] => some []
  | x :: l => match evo m x, evoL m l with
    | some v, some vs => some (v :: vs)
    | _, _ => none

/-- what a walk stands over: the world at the start, how many slots, what is deferred -/
structure Cx where
  W : World
  n : Nat
  ds : List Deferred

structure Slots (c : Cx) (a : Act) (m : List (Nat × Value)) : Prop where
  size : a.tmps.size = c.n
  defers : a.defers = c.ds
  get : ∀ t v, look m t = some v → a.tmps[t]? = some v

theorem Slots.ev {c : Cx} {a : Act} {m : List (Nat × Value)} (h : Slots c a m) {x : Operand} {v : Value} (hx : evo m x = some v) : a.eval x = v := by
  cases x with
  | tmp t =>
    have := h.get t v hx
    simp [Act.eval, Array.getD_eq_getD_getElem?, this]
  | const u => simpa [evo, Act.eval] using hx
  | global g => simpa [evo, Act.eval] using hx
  | func f => simpa [evo, Act.eval] using hx
theorem Slots.evL {c : Cx} {a : Act} {m : List (Nat × Value)} (h : Slots c a m) : ∀ {l : List Operand} {vs : List Value}, evoL m l = some vs → l.map a.eval = vs
  | [], vs, e => by simp [evoL] at e; simp [e]
  | x :: l, vs, e => by
    unfold evoL at e
    split at e
    · rename_i v us h1 h2
      cases e
      rw [List.map_cons, h.ev h1, h.evL h2]
    · cases e
theorem Slots.put {c : Cx} {a : Act} {m : List (Nat × Value)} (h : Slots c a m) {d : Nat} (hd : Nat.ble (d + 1) c.n = true) (v : Value) : Slots c (a.put (some d) v) ((d, v) :: m) := by
  have hd' := Nat.le_of_ble_eq_true hd
  refine ⟨by simpa [Act.put] using h.size, by simpa [Act.put] using h.defers, fun t u hu => ?_⟩
  simp only [Act.put, Array.getElem?_setIfInBounds]
  simp only [look] at hu
  by_cases e : d = t
  · subst e
    simp at hu
    subst hu
    rw [if_pos rfl, if_pos (by rw [h.size]; omega)]
  · have : Nat.beq d t = false := beq_no e
    rw [this] at hu
    rw [if_neg e]
    exact h.get t u hu

/-- what is known in m', is known in m -/
def Knows (m m' : List (Nat × Value)) : Prop := ∀ t v, look m' t = some v → look m t = some v
theorem Knows.nil {m : List (Nat × Value)} : Knows m [] := fun _ _ h => by cases h
theorem Knows.cons {m m' : List (Nat × Value)} {t : Nat} {v : Value} (h : look m t = some v) (k : Knows m m') : Knows m ((t, v) :: m') := fun s u hu => by
  simp only [look] at hu
  by_cases e : t = s
  · subst e; simp at hu; subst hu; exact h
  · have : Nat.beq t s = false := beq_no e
    rw [this] at hu
    exact k s u hu
theorem Knows.refl {m : List (Nat × Value)} : Knows m m := fun _ _ h => h
theorem Slots.know {c : Cx} {a : Act} {m m' : List (Nat × Value)} (h : Slots c a m) (k : Knows m m') : Slots c a m' := ⟨h.size, h.defers, fun t v e => h.get t v (k t v e)⟩

def sep : List Hp → Hp
  | [] => 1
  | p :: l => p * sep l
theorem sep_append : ∀ l l' : List Hp, sep (l ++ l') = sep l * sep l'
  | [], l' => (Hp.one_mul _).symm
  | p :: l, l' => by rw [List.cons_append, sep, sep, sep_append l l', Hp.mul_assoc]
theorem sep_focus : ∀ (l : List Hp) (k : Nat) (p : Hp), l[k]? = some p → sep l = p * sep (l.eraseIdx k) ∧ ∀ q, sep (l.set k q) = q * sep (l.eraseIdx k)
  | [], _, _, h => by simp at h
  | z :: l, 0, p, h => by
    simp at h; subst h
    exact ⟨rfl, fun q => rfl⟩
  | z :: l, k + 1, p, h => by
    obtain ⟨h1, h2⟩ := sep_focus l k p (by simpa using h)
    refine ⟨?_, fun q => ?_⟩
    · rw [List.eraseIdx_cons_succ, sep, sep, h1, Hp.mul_left_comm]
    · rw [List.eraseIdx_cons_succ, List.set_cons_succ, sep, sep, h2, Hp.mul_left_comm]
theorem Sat.at_ {W w : World} {l : List Hp} (H : Sat W w (sep l)) {k : Nat} {p : Hp} (h : l[k]? = some p) : Sat W w (p * sep (l.eraseIdx k)) := H.cast (sep_focus l k p h).1
theorem Sat.back {W w : World} {l l' : List Hp} {k : Nat} {p q : Hp} (h : l[k]? = some p) (hl : l.set k q = l') (H : Sat W w (q * sep (l.eraseIdx k))) : Sat W w (sep l') := by
  subst hl; exact H.cast ((sep_focus l k p h).2 q).symm

def Gx (c : Cx) (m : List (Nat × Value)) (l : List Hp) (K : Act → World → Prop) : Prop := ∀ a w, Slots c a m → Sat c.W w (sep l) → K a w

section
variable {P : Program} {c : Cx} {m m' : List (Nat × Value)} {l l' : List Hp} {K : Act → World → Prop} {Q : Exit → Act → World → Prop} {ops : Array Oper}

theorem Gx.know (k : Knows m m') (h : Gx c m' l K) : Gx c m l K := fun a w s H => h a w (s.know k) H
theorem Gx.norm (e : l = l') (h : Gx c m l' K) : Gx c m l K := e ▸ h
theorem Gx.slot {t : Nat} {v : Value} (e : look m t = some v) (h : Gx c ((t, v) :: m) l K) : Gx c m l K := Gx.know (Knows.cons e Knows.refl) h
theorem Gx.front (k : Nat) {p : Hp} (e : l[k]? = some p) (h : Gx c m (p :: l.eraseIdx k) K) : Gx c m l K := fun a w s H => h a w s (H.at_ e)
theorem Gx.drop (k : Nat) {p : Hp} (e : l[k]? = some p) (h : Gx c m (l.eraseIdx k) K) : Gx c m l K := fun a w s H => h a w s (H.at_ e).drop
theorem Gx.noParts (h : Gx c m [] K) : Gx c m l K := fun a w s H => h a w s (show Sat c.W w 1 from Sat.drop (P := sep l) (H.cast (Hp.mul_one _).symm))
theorem Gx.emp (h : Gx c m (1 :: l) K) : Gx c m l K := fun a w s H => h a w s (H.cast (Hp.one_mul _).symm)
theorem Gx.part {k : Nat} {p q : Hp} (e : l[k]? = some p) (hpq : ∀ h, p h → q h) (h : Gx c m (l.set k q) K) : Gx c m l K := fun a w s H => h a w s (((H.at_ e).mono hpq).back e rfl)
theorem Gx.ex {α : Type} {k : Nat} {p : α → Hp} (e : l[k]? = some (Hp.ex p)) (h : ∀ x, Gx c m (l.set k (p x)) K) : Gx c m l K := fun a w s H => by
  obtain ⟨x, H'⟩ := (H.at_ e).ex
  exact h x a w s (H'.back e rfl)
/-- the world at hand serves as a new start -/
theorem Gx.rebase (l0 : List Hp) (h : ∀ W', Sat c.W W' (sep l) → Gx ⟨W', c.n, c.ds⟩ m [] K) : Gx c m l K := fun a w s H => h w H a w ⟨s.size, s.defers, s.get⟩ (Sat.start w)
/-- what the memory says, to the walk -/
theorem Gx.fact {p : Prop} (f : ∀ w, Sat c.W w (sep l) → p) (h : p → Gx c m l K) : Gx c m l K := fun a w s H => h (f w H) a w s H
theorem Gx.size (h : ∀ w, Sat c.W w (sep l) → Gx c m l K) : Gx c m l K := fun a w s H => h w H a w s H

/-! control -/
theorem Gx.seq {x y : Code} (h : Gx c m l (Code.wp P x (Exit.then (Code.wp P y Q) Q))) : Gx c m l (Code.wp P (.seq x y) Q) := fun a w s H => wp_seq (h a w s H)
theorem Gx.t {x : Operand} {y z : Code} (hx : evo m x = some (.bool true)) (h : Gx c m l (Code.wp P y Q)) : Gx c m l (Code.wp P (.cond x y z) Q) := fun a w s H => wp_cond_true (s.ev hx) (h a w s H)
theorem Gx.f {x : Operand} {y z : Code} (hx : evo m x = some (.bool false)) (h : Gx c m l (Code.wp P z Q)) : Gx c m l (Code.wp P (.cond x y z) Q) := fun a w s H => wp_cond_false (s.ev hx) (h a w s H)
theorem Gx.dec {x : Operand} {y z : Code} {p : Prop} [Decidable p] (hx : evo m x = some (.bool (decide p))) (h1 : p → Gx c m l (Code.wp P y Q)) (h2 : ¬ p → Gx c m l (Code.wp P z Q)) : Gx c m l (Code.wp P (.cond x y z) Q) := fun a w s H => by
  by_cases hp : p
  · exact wp_cond_true (by rw [s.ev hx, decide_eq_true hp]) (h1 hp a w s H)
  · exact wp_cond_false (by rw [s.ev hx, decide_eq_false hp]) (h2 hp a w s H)
theorem Gx.bool {x : Operand} {y z : Code} {b : Bool} (hx : evo m x = some (.bool b)) (h1 : b = true → Gx c m l (Code.wp P y Q)) (h2 : b = false → Gx c m l (Code.wp P z Q)) : Gx c m l (Code.wp P (.cond x y z) Q) := fun a w s H => by
  cases hb : b
  · exact wp_cond_false (by rw [s.ev hx, hb]) (h2 hb a w s H)
  · exact wp_cond_true (by rw [s.ev hx, hb]) (h1 hb a w s H)
/-- a test that a slot holds, decided -/
theorem Gx.cases {t : Nat} {p : Prop} [Decidable p] (hx : look m t = some (.bool (decide p))) (h1 : p → Gx c ((t, .bool true) :: m) l K) (h2 : ¬ p → Gx c ((t, .bool false) :: m) l K) : Gx c m l K := by
  by_cases hp : p
  · exact Gx.slot (by rw [hx, decide_eq_true hp]) (h1 hp)
  · exact Gx.slot (by rw [hx, decide_eq_false hp]) (h2 hp)
theorem Gx.casesB {t : Nat} {b : Bool} (hx : look m t = some (.bool b)) (h1 : b = true → Gx c ((t, .bool true) :: m) l K) (h2 : b = false → Gx c ((t, .bool false) :: m) l K) : Gx c m l K := by
  cases hb : b
  · exact Gx.slot (by rw [hx, hb]) (h2 hb)
  · exact Gx.slot (by rw [hx, hb]) (h1 hb)
theorem Gx.skip (h : Gx c m l (Q .normal)) : Gx c m l (Code.wp P .skip Q) := fun a w s H => wp_skip (h a w s H)
theorem Gx.exit {id : Nat} (h : Gx c m l (Q (.exit id))) : Gx c m l (Code.wp P (.exit id) Q) := fun a w s H => wp_exit (h a w s H)
theorem Gx.ret (h : Gx c m l (Q .ret)) : Gx c m l (Code.wp P .ret Q) := fun a w s H => wp_ret (h a w s H)
theorem Gx.block {id : Nat} {x : Code} (h : Gx c m l (Code.wp P x (Exit.inBlock id Q))) : Gx c m l (Code.wp P (.block id x) Q) := fun a w s H => wp_block (h a w s H)
theorem Gx.thenN {N : Act → World → Prop} (h : Gx c m l N) : Gx c m l (Exit.then N Q .normal) := fun a w s H => h a w s H
theorem Gx.thenE {N : Act → World → Prop} {id : Nat} (h : Gx c m l (Q (.exit id))) : Gx c m l (Exit.then N Q (.exit id)) := fun a w s H => h a w s H
theorem Gx.thenR {N : Act → World → Prop} (h : Gx c m l (Q .ret)) : Gx c m l (Exit.then N Q .ret) := fun a w s H => h a w s H
theorem Gx.blkN {id : Nat} (h : Gx c m l (Q .normal)) : Gx c m l (Exit.inBlock id Q .normal) := fun a w s H => h a w s H
theorem Gx.blkR {id : Nat} (h : Gx c m l (Q .ret)) : Gx c m l (Exit.inBlock id Q .ret) := fun a w s H => h a w s H
theorem Gx.blkE {id : Nat} (h : Gx c m l (Q .normal)) : Gx c m l (Exit.inBlock id Q (.exit id)) := fun a w s H => by
  simp only [Exit.inBlock, if_true]; exact h a w s H
theorem Gx.blkO {id id' : Nat} (hne : Nat.beq id' id = false) (h : Gx c m l (Q (.exit id'))) : Gx c m l (Exit.inBlock id Q (.exit id')) := fun a w s H => by
  have : ¬ id' = id := Nat.ne_of_beq_eq_false hne
  simp only [Exit.inBlock, if_neg this]; exact h a w s H

/-- a state of a family -/
def Fam {ι : Type} (c : Cx) (I : ι → Prop) (m' : ι → List (Nat × Value)) (l' : ι → List Hp) (a : Act) (w : World) : Prop := ∃ j, I j ∧ Slots c a (m' j) ∧ Sat c.W w (sep (l' j))
theorem Gx.fam {ι : Type} {I : ι → Prop} {m' : ι → List (Nat × Value)} {l' : ι → List Hp} (j : ι) (h : I j) (k : Knows m (m' j)) (e : l = l' j) : Gx c m l (Fam c I m' l') := fun a w s H => ⟨j, h, s.know k, e ▸ H⟩
theorem Gx.fromFam {ι : Type} {I : ι → Prop} {m' : ι → List (Nat × Value)} {l' : ι → List Hp} (h : ∀ j, I j → Gx c (m' j) (l' j) K) : ∀ a w, Fam c I m' l' a w → K a w := fun a w ⟨j, hj, s, H⟩ => h j hj a w s H
/-- where ways meet -/
theorem Gx.meet {x y : Code} {ι : Type} (I : ι → Prop) (m' : ι → List (Nat × Value)) (l' : ι → List Hp) (h1 : Gx c m l (Code.wp P x (Exit.then (Fam c I m' l') Q))) (h2 : ∀ j, I j → Gx c (m' j) (l' j) (Code.wp P y Q)) : Gx c m l (Code.wp P (.seq x y) Q) := fun a w s H =>
  wp_seq (Code.wp_mono (fun e a' w' q => by cases e <;> first | exact q | (obtain ⟨j, hj, s', H'⟩ := q; exact h2 j hj a' w' s' H')) (h1 a w s H))
theorem least_nat {p : Nat → Prop} : ∀ n, p n → ∃ k, p k ∧ ∀ j, p j → k ≤ j := by
  intro n
  induction n using Nat.strongRecOn with
  | _ n ih =>
    intro h
    by_cases e : ∃ j, j < n ∧ p j
    · obtain ⟨j, hj, hp⟩ := e; exact ih j hj hp
    · exact ⟨n, h, fun j hp => Nat.le_of_not_lt fun hlt => e ⟨j, hlt, hp⟩⟩
open Classical in
noncomputable def leastN (p : Nat → Prop) : Nat := if h : ∃ n, p n then (least_nat h.choose h.choose_spec).choose else 0
theorem leastN_spec {p : Nat → Prop} {n : Nat} (h : p n) : p (leastN p) ∧ leastN p ≤ n := by
  unfold leastN
  rw [dif_pos ⟨n, h⟩]
  have := (least_nat _ (Exists.choose_spec (⟨n, h⟩ : ∃ n, p n))).choose_spec
  exact ⟨this.1, this.2 n h⟩
/-- the end of a round -/
def Round {ι : Type} (c : Cx) (I : ι → Prop) (m' : ι → List (Nat × Value)) (l' : ι → List Hp) (μ : ι → Nat) (b : Nat) (a : Act) (w : World) : Prop := ∃ j, I j ∧ μ j < b ∧ Slots c a (m' j) ∧ Sat c.W w (sep (l' j))
theorem Gx.round {ι : Type} {I : ι → Prop} {m' : ι → List (Nat × Value)} {l' : ι → List Hp} {μ : ι → Nat} {b : Nat} (j : ι) (h : I j) (hb : μ j < b) (k : Knows m (m' j)) (e : l = l' j) : Gx c m l (Round c I m' l' μ b) := fun a w s H => ⟨j, h, hb, s.know k, e ▸ H⟩
theorem Gx.loop {x : Code} {ι : Type} (I : ι → Prop) (m' : ι → List (Nat × Value)) (l' : ι → List Hp) (μ : ι → Nat) (j0 : ι) (h0 : I j0) (k0 : Knows m (m' j0)) (e0 : l = l' j0)
    (h : ∀ j, I j → Gx c (m' j) (l' j) (Code.wp P x (Exit.then (Round c I m' l' μ (μ j)) Q))) : Gx c m l (Code.wp P (.loop x) Q) := fun a w s H => by
  refine wp_loop (fun a w => ∃ j, I j ∧ Slots c a (m' j) ∧ Sat c.W w (sep (l' j))) (fun a w => leastN fun n => ∃ j, I j ∧ Slots c a (m' j) ∧ Sat c.W w (sep (l' j)) ∧ μ j = n) ⟨j0, h0, s.know k0, e0 ▸ H⟩ ?_
  rintro a w ⟨j, hj, s, H⟩
  obtain ⟨⟨j1, hj1, s1, H1, e1⟩, _⟩ := leastN_spec (p := fun n => ∃ j, I j ∧ Slots c a (m' j) ∧ Sat c.W w (sep (l' j)) ∧ μ j = n) ⟨j, hj, s, H, rfl⟩
  refine Code.wp_mono (fun e a' w' q => ?_) (h j1 hj1 a w s1 H1)
  cases e <;> first | exact q | skip
  obtain ⟨j2, hj2, hlt, s2, H2⟩ := q
  have := (leastN_spec (p := fun n => ∃ j, I j ∧ Slots c a' (m' j) ∧ Sat c.W w' (sep (l' j)) ∧ μ j = n) ⟨j2, hj2, s2, H2, rfl⟩).2
  exact ⟨⟨j2, hj2, s2, H2⟩, Nat.lt_of_le_of_lt this (by rw [← e1]; exact hlt)⟩

/-! a statement in order -/
theorem Gx.region {id : Nat} {ops : List Oper} (h : Gx c m l (wpList P ops.toArray Q ops)) : Gx c m l (Code.wp P (.region id ops.toArray false) Q) := fun a w s H => wp_region_lit (h a w s H)
theorem Gx.done (h : Gx c m l (Q .normal)) : Gx c m l (wpList P ops Q []) := fun a w s H => h a w s H

/-- an operation yields one value, and leaves what is owned -/
def Val (P : Program) (c : Cx) (m : List (Nat × Value)) (l : List Hp) (o : Oper) (v : Value) : Prop :=
  ∀ a w, Slots c a m → Sat c.W w (sep l) → o.quietAt P a (fun w' => Sat c.W w' (sep l)) w v
/-- an operation that changes what is owned -/
def Eff (P : Program) (c : Cx) (m : List (Nat × Value)) (l : List Hp) (o : Oper) (R : Value → List Hp → Prop) : Prop :=
  ∀ a w, Slots c a m → Sat c.W w (sep l) → EffAt P o a w fun v w' => ∃ l', R v l' ∧ Sat c.W w' (sep l')

theorem Val.of {o : Oper} {v : Value} (h : ∀ a w, Slots c a m → Sat c.W w (sep l) → (execOp a.eval o).run P w = .ok (.value v) w) : Val P c m l o v := fun a w s H => by
  unfold Oper.quietAt; rw [h a w s H]; exact ⟨rfl, rfl⟩
theorem Val.eff {o : Oper} {v : Value} {a : Act} {w : World} (h : Val P c m l o v) (s : Slots c a m) (H : Sat c.W w (sep l)) : EffAt P o a w fun u w' => u = v ∧ Sat c.W w' (sep l) := by
  have h1 := h a w s H
  unfold Oper.quietAt at h1
  unfold EffAt
  generalize (execOp a.eval o).run P w = r at *
  cases r with
  | ok n w' =>
    cases n <;> simp only [Oper.quietUpon] at h1 <;> simp only [EffUpon]
    case value u => obtain ⟨e1, e2⟩ := h1; rw [e1]; exact ⟨e2, H⟩
    case skip => obtain ⟨e1, e2⟩ := h1; rw [e1]; exact ⟨e2.symm, H⟩
    case enter f args => obtain ⟨e1, hc⟩ := h1; rw [e1]; exact hc.mono fun e w'' ⟨he, hw⟩ => ⟨v, he, rfl, hw⟩
  | halt x w' => simp only [Oper.quietUpon] at h1

theorem wanted_slot {a : Act} {o : Oper} {g : Nat} {b b' : Bool} {s : Nat} (hs : Slots c a m) (hg : o.guard = some (g, b)) (hgo : (ops[g]?).bind (·.dst) = some s) (h : look m s = some (.bool b')) : Region.wanted o (yielded ops a.tmps) = (b' == b) := by
  have := hs.get s _ h
  simp only [Region.wanted, hg, yielded, hgo, Option.bind_some, this]
  rfl

theorem Gx.val {o : Oper} {rest : List Oper} {d : Nat} {v : Value} (hg : o.guard = none) (hd : o.dst = some d) (hn : Nat.ble (d + 1) c.n = true) (hv : Val P c m l o v) (h : Gx c ((d, v) :: m) l (wpList P ops Q rest)) : Gx c m l (wpList P ops Q (o :: rest)) := fun a w s H =>
  wpList_plain hg fun K hK => (hv.eff s H).wp fun u w' ⟨e, H'⟩ => by subst e; exact hK _ _ (h _ _ (by rw [hd]; exact s.put hn _) H')
theorem Gx.valg {o : Oper} {rest : List Oper} {d g s : Nat} {b : Bool} {v : Value} (hg : o.guard = some (g, b)) (hgo : (ops[g]?).bind (·.dst) = some s) (hs : look m s = some (.bool b)) (hd : o.dst = some d) (hn : Nat.ble (d + 1) c.n = true) (hv : Val P c m l o v)
    (h : Gx c ((d, v) :: m) l (wpList P ops Q rest)) : Gx c m l (wpList P ops Q (o :: rest)) := fun a w sl H => wpList_step fun K hK => by
  rw [if_pos (by rw [wanted_slot sl hg hgo hs]; simp)]
  exact (hv.eff sl H).wp fun u w' ⟨e, H'⟩ => by subst e; exact hK _ _ (h _ _ (by rw [hd]; exact sl.put hn _) H')
theorem Gx.skipg {o : Oper} {rest : List Oper} {d g s : Nat} {b b' : Bool} (hg : o.guard = some (g, b)) (hgo : (ops[g]?).bind (·.dst) = some s) (hs : look m s = some (.bool b')) (hne : (b' == b) = false) (hd : o.dst = some d) (hn : Nat.ble (d + 1) c.n = true)
    (h : Gx c ((d, undef) :: m) l (wpList P ops Q rest)) : Gx c m l (wpList P ops Q (o :: rest)) := fun a w sl H => wpList_step fun K hK => by
  rw [if_neg (by rw [wanted_slot sl hg hgo hs, hne]; simp)]
  exact hK _ _ (h _ _ (by rw [hd]; exact sl.put hn _) H)
theorem Gx.eff {o : Oper} {rest : List Oper} {d : Nat} {R : Value → List Hp → Prop} (hg : o.guard = none) (hd : o.dst = some d) (hn : Nat.ble (d + 1) c.n = true) (he : Eff P c m l o R) (h : ∀ v l', R v l' → Gx c ((d, v) :: m) l' (wpList P ops Q rest)) : Gx c m l (wpList P ops Q (o :: rest)) := fun a w s H =>
  wpList_plain hg fun K hK => (he a w s H).wp fun u w' ⟨l', hR, H'⟩ => hK _ _ (h u l' hR _ _ (by rw [hd]; exact s.put hn _) H')
theorem Gx.effg {o : Oper} {rest : List Oper} {d g s : Nat} {b : Bool} {R : Value → List Hp → Prop} (hg : o.guard = some (g, b)) (hgo : (ops[g]?).bind (·.dst) = some s) (hs : look m s = some (.bool b)) (hd : o.dst = some d) (hn : Nat.ble (d + 1) c.n = true) (he : Eff P c m l o R)
    (h : ∀ v l', R v l' → Gx c ((d, v) :: m) l' (wpList P ops Q rest)) : Gx c m l (wpList P ops Q (o :: rest)) := fun a w sl H => wpList_step fun K hK => by
  rw [if_pos (by rw [wanted_slot sl hg hgo hs]; simp)]
  exact (he a w sl H).wp fun u w' ⟨l', hR, H'⟩ => hK _ _ (h u l' hR _ _ (by rw [hd]; exact sl.put hn _) H')
theorem Gx.eff0 {o : Oper} {rest : List Oper} {R : Value → List Hp → Prop} (hg : o.guard = none) (hd : o.dst = none) (he : Eff P c m l o R) (h : ∀ v l', R v l' → Gx c m l' (wpList P ops Q rest)) : Gx c m l (wpList P ops Q (o :: rest)) := fun a w s H =>
  wpList_plain hg fun K hK => (he a w s H).wp fun u w' ⟨l', hR, H'⟩ => hK _ _ (h u l' hR _ _ (by rw [hd]; exact s) H')
theorem Gx.eff0g {o : Oper} {rest : List Oper} {g s : Nat} {b : Bool} {R : Value → List Hp → Prop} (hg : o.guard = some (g, b)) (hgo : (ops[g]?).bind (·.dst) = some s) (hs : look m s = some (.bool b)) (hd : o.dst = none) (he : Eff P c m l o R)
    (h : ∀ v l', R v l' → Gx c m l' (wpList P ops Q rest)) : Gx c m l (wpList P ops Q (o :: rest)) := fun a w sl H => wpList_step fun K hK => by
  rw [if_pos (by rw [wanted_slot sl hg hgo hs]; simp)]
  exact (he a w sl H).wp fun u w' ⟨l', hR, H'⟩ => hK _ _ (h u l' hR _ _ (by rw [hd]; exact sl) H')
theorem Gx.skipg0 {o : Oper} {rest : List Oper} {g s : Nat} {b b' : Bool} (hg : o.guard = some (g, b)) (hgo : (ops[g]?).bind (·.dst) = some s) (hs : look m s = some (.bool b')) (hne : (b' == b) = false) (hd : o.dst = none)
    (h : Gx c m l (wpList P ops Q rest)) : Gx c m l (wpList P ops Q (o :: rest)) := fun a w sl H => wpList_step fun K hK => by
  rw [if_neg (by rw [wanted_slot sl hg hgo hs, hne]; simp)]
  exact hK _ _ (h _ _ (by rw [hd]; exact sl) H)
theorem unwanted_undef {a : Act} {o : Oper} {g : Nat} {b : Bool} {s : Nat} (hs : Slots c a m) (hg : o.guard = some (g, b)) (hgo : (ops[g]?).bind (·.dst) = some s) (h : look m s = some undef) : Region.wanted o (yielded ops a.tmps) = false := by
  have := hs.get s _ h
  simp only [Region.wanted, hg, yielded, hgo, Option.bind_some, this]
  rfl
theorem Gx.skipu {o : Oper} {rest : List Oper} {d g s : Nat} {b : Bool} (hg : o.guard = some (g, b)) (hgo : (ops[g]?).bind (·.dst) = some s) (hs : look m s = some undef) (hd : o.dst = some d) (hn : Nat.ble (d + 1) c.n = true)
    (h : Gx c ((d, undef) :: m) l (wpList P ops Q rest)) : Gx c m l (wpList P ops Q (o :: rest)) := fun a w sl H => wpList_step fun K hK => by
  rw [if_neg (by rw [unwanted_undef sl hg hgo hs]; simp)]
  exact hK _ _ (h _ _ (by rw [hd]; exact sl.put hn _) H)
theorem Gx.skipu0 {o : Oper} {rest : List Oper} {g s : Nat} {b : Bool} (hg : o.guard = some (g, b)) (hgo : (ops[g]?).bind (·.dst) = some s) (hs : look m s = some undef) (hd : o.dst = none)
    (h : Gx c m l (wpList P ops Q rest)) : Gx c m l (wpList P ops Q (o :: rest)) := fun a w sl H => wpList_step fun K hK => by
  rw [if_neg (by rw [unwanted_undef sl hg hgo hs]; simp)]
  exact hK _ _ (h _ _ (by rw [hd]; exact sl) H)

theorem Val.cast {o : Oper} {v v' : Value} (h : Val P c m l o v) (e : v = v') : Val P c m l o v' := e ▸ h
theorem look_decT {t : Nat} {p : Prop} [Decidable p] (h : look m t = some (.bool (decide p))) (hp : p) : look m t = some (.bool true) := by rw [h, decide_eq_true hp]
theorem look_decF {t : Nat} {p : Prop} [Decidable p] (h : look m t = some (.bool (decide p))) (hp : ¬ p) : look m t = some (.bool false) := by rw [h, decide_eq_false hp]
theorem look_boolT {t : Nat} {b : Bool} (h : look m t = some (.bool b)) (hb : b = true) : look m t = some (.bool true) := by rw [h, hb]
theorem look_boolF {t : Nat} {b : Bool} (h : look m t = some (.bool b)) (hb : b = false) : look m t = some (.bool false) := by rw [h, hb]
theorem Gx.decT {x : Operand} {y z : Code} {p : Prop} [Decidable p] (hx : evo m x = some (.bool (decide p))) (hp : p) (h1 : Gx c m l (Code.wp P y Q)) : Gx c m l (Code.wp P (.cond x y z) Q) := Gx.dec hx (fun _ => h1) (fun h => absurd hp h)
theorem Gx.decF {x : Operand} {y z : Code} {p : Prop} [Decidable p] (hx : evo m x = some (.bool (decide p))) (hp : ¬ p) (h1 : Gx c m l (Code.wp P z Q)) : Gx c m l (Code.wp P (.cond x y z) Q) := Gx.dec hx (fun h => absurd h hp) (fun _ => h1)
theorem Gx.boolT {x : Operand} {y z : Code} {b : Bool} (hx : evo m x = some (.bool b)) (hb : b = true) (h1 : Gx c m l (Code.wp P y Q)) : Gx c m l (Code.wp P (.cond x y z) Q) := Gx.t (by rw [hx, hb]) h1
theorem Gx.boolF {x : Operand} {y z : Code} {b : Bool} (hx : evo m x = some (.bool b)) (hb : b = false) (h1 : Gx c m l (Code.wp P z Q)) : Gx c m l (Code.wp P (.cond x y z) Q) := Gx.f (by rw [hx, hb]) h1
theorem Gx.ownNil {α : Type} (f : α → List Value) (sz : Nat) (h : Gx c m (Hp.own f sz (.slice none 0 0) [] :: l) K) : Gx c m l K := fun a w s H => h a w s (H.nil f sz)

/-! a statement that leaves its order open, and reads alone -/
def Gq (P : Program) (c : Cx) (m : List (Nat × Value)) (l : List Hp) (ops : Array Oper) (K : Act → World → Prop) (rest : List Oper) : Prop :=
  ∀ a, Slots c a m → wpQuiet P ops (fun w => Sat c.W w (sep l)) (fun a' => ∀ w, Sat c.W w (sep l) → K a' w) rest a
theorem Gx.regionQ {id : Nat} {ops : List Oper} (hm : P.follows .mixedOrders = true) (hB : Region.lexB .any ops.toArray = true) (h : Gq P c m l ops.toArray (Q .normal) ops) : Gx c m l (Code.wp P (.region id ops.toArray true) Q) := fun a w s H =>
  wp_region_quiet (C := fun w' => Sat c.W w' (sep l)) hm hB (H.drawn _) (by simpa using h a s)
theorem Gq.done {K : Act → World → Prop} (h : Gx c m l K) : Gq P c m l ops K [] := fun a s w H => h a w s H
theorem Gq.val {K : Act → World → Prop} {o : Oper} {rest : List Oper} {d : Nat} {v : Value} (hg : o.guard = none) (hd : o.dst = some d) (hn : Nat.ble (d + 1) c.n = true) (hv : Val P c m l o v) (h : Gq P c ((d, v) :: m) l ops K rest) : Gq P c m l ops K (o :: rest) := fun a s => by
  unfold wpQuiet
  rw [if_pos (by simp [Region.wanted, hg])]
  exact ⟨v, fun w H => hv a w s H, h _ (by rw [hd]; exact s.put hn _)⟩
theorem Gq.valg {K : Act → World → Prop} {o : Oper} {rest : List Oper} {d g s : Nat} {b : Bool} {v : Value} (hg : o.guard = some (g, b)) (hgo : (ops[g]?).bind (·.dst) = some s) (hs : look m s = some (.bool b)) (hd : o.dst = some d) (hn : Nat.ble (d + 1) c.n = true) (hv : Val P c m l o v)
    (h : Gq P c ((d, v) :: m) l ops K rest) : Gq P c m l ops K (o :: rest) := fun a sl => by
  unfold wpQuiet
  rw [if_pos (by rw [wanted_slot sl hg hgo hs]; simp)]
  exact ⟨v, fun w H => hv a w sl H, h _ (by rw [hd]; exact sl.put hn _)⟩
theorem Gq.skipg {K : Act → World → Prop} {o : Oper} {rest : List Oper} {d g s : Nat} {b b' : Bool} (hg : o.guard = some (g, b)) (hgo : (ops[g]?).bind (·.dst) = some s) (hs : look m s = some (.bool b')) (hne : (b' == b) = false) (hd : o.dst = some d) (hn : Nat.ble (d + 1) c.n = true)
    (h : Gq P c ((d, undef) :: m) l ops K rest) : Gq P c m l ops K (o :: rest) := fun a sl => by
  unfold wpQuiet
  rw [if_neg (by rw [wanted_slot sl hg hgo hs, hne]; simp)]
  exact h _ (by rw [hd]; exact sl.put hn _)
theorem Gq.skipu {K : Act → World → Prop} {o : Oper} {rest : List Oper} {d g s : Nat} {b : Bool} (hg : o.guard = some (g, b)) (hgo : (ops[g]?).bind (·.dst) = some s) (hs : look m s = some undef) (hd : o.dst = some d) (hn : Nat.ble (d + 1) c.n = true)
    (h : Gq P c ((d, undef) :: m) l ops K rest) : Gq P c m l ops K (o :: rest) := fun a sl => by
  unfold wpQuiet
  rw [if_neg (by rw [unwanted_undef sl hg hgo hs]; simp)]
  exact h _ (by rw [hd]; exact sl.put hn _)
theorem Gq.cases {K : Act → World → Prop} {rest : List Oper} {t : Nat} {p : Prop} [Decidable p] (hx : look m t = some (.bool (decide p))) (h1 : p → Gq P c ((t, .bool true) :: m) l ops K rest) (h2 : ¬ p → Gq P c ((t, .bool false) :: m) l ops K rest) : Gq P c m l ops K rest := fun a s => by
  by_cases hp : p
  · exact h1 hp a (s.know (Knows.cons (by rw [hx, decide_eq_true hp]) Knows.refl))
  · exact h2 hp a (s.know (Knows.cons (by rw [hx, decide_eq_false hp]) Knows.refl))
theorem Gq.casesB {K : Act → World → Prop} {rest : List Oper} {t : Nat} {b : Bool} (hx : look m t = some (.bool b)) (h1 : b = true → Gq P c ((t, .bool true) :: m) l ops K rest) (h2 : b = false → Gq P c ((t, .bool false) :: m) l ops K rest) : Gq P c m l ops K rest := fun a s => by
  cases hb : b
  · exact h2 hb a (s.know (Knows.cons (by rw [hx, hb]) Knows.refl))
  · exact h1 hb a (s.know (Knows.cons (by rw [hx, hb]) Knows.refl))
theorem Gq.slot {K : Act → World → Prop} {rest : List Oper} {t : Nat} {v : Value} (e : look m t = some v) (h : Gq P c ((t, v) :: m) l ops K rest) : Gq P c m l ops K rest := fun a s => h a (s.know (Knows.cons e Knows.refl))

/-! a function's beginning and end -/
def argSlots : Nat → List Value → List (Nat × Value)
  | _, [] => []
  | k, v :: vs => (k, v) :: argSlots (k + 1) vs
theorem look_args : ∀ (vs : List Value) (k t : Nat) (v : Value), look (argSlots k vs) t = some v → k ≤ t ∧ vs[t - k]? = some v
  | [], _, _, _, h => by cases h
  | u :: vs, k, t, v, h => by
    simp only [argSlots, look] at h
    by_cases e : k = t
    · subst e; simp at h; subst h; simp
    · have : Nat.beq k t = false := beq_no e
      rw [this] at h
      obtain ⟨h1, h2⟩ := look_args vs (k + 1) t v h
      refine ⟨by omega, ?_⟩
      rw [show t - k = (t - (k + 1)) + 1 by omega, List.getElem?_cons_succ]
      exact h2
/-- how a function ends: what it hands back, and what is owned then -/
def Ret (W : World) (R : Value → List Hp → Prop) (e : Ending) (w : World) : Prop := ∃ v l, e = .returned v ∧ R v l ∧ Sat W w (sep l)

theorem Gx.enter {f : FuncId} {fn : Func} {x : Code} {args : Array Value} {W w : World} {R : Ending → World → Prop} {l : List Hp} {n : Nat} (hf : P.funcs[f]? = some fn) (hb : fn.body = some x) (hn : fn.ntmps = n) (ha : Nat.ble args.size n = true) (H : Sat W w (sep l))
    (h : Gx ⟨W, n, []⟩ (argSlots 0 args.toList) l (Code.wp P x (bodyPost P fn R))) : Calls P f args w R := by
  have ha' := Nat.le_of_ble_eq_true ha
  refine calls_of_wp hf hb (h _ w ⟨?_, rfl, fun t v e => ?_⟩ H)
  · simp [hn]; omega
  · have h1 := (look_args _ _ _ _ e).2
    rw [Nat.sub_zero, Array.getElem?_toList] at h1
    have h2 := (Array.getElem?_eq_some_iff.1 h1).1
    rw [Array.getElem?_append_left h2]
    exact h1
theorem Gx.ret1 {W : World} {n : Nat} {fn : Func} {t : Nat} {v : Value} {R : Value → List Hp → Prop} (hr : fn.results = #[.tmp t]) (ht : look m t = some v) (h : R v l) : Gx ⟨W, n, []⟩ m l (bodyPost P fn (Ret W R) .ret) := fun a w s H => by
  refine ⟨s.defers, v, ?_, v, l, rfl, h, H⟩
  have := s.get t v ht
  simp [results, hr, Array.getD_eq_getD_getElem?, this]
theorem Gx.ret2 {W : World} {n : Nat} {fn : Func} {t t' : Nat} {v v' : Value} {R : Value → List Hp → Prop} (hr : fn.results = #[.tmp t, .tmp t']) (ht : look m t = some v) (ht' : look m t' = some v') (h : R (.tuple #[v, v']) l) : Gx ⟨W, n, []⟩ m l (bodyPost P fn (Ret W R) .ret) := fun a w s H => by
  refine ⟨s.defers, .tuple #[v, v'], ?_, _, l, rfl, h, H⟩
  have := s.get t v ht
  have := s.get t' v' ht'
  simp [results, hr, Array.getD_eq_getD_getElem?, *]
theorem Gx.ret3 {W : World} {n : Nat} {fn : Func} {t t' t'' : Nat} {v v' v'' : Value} {R : Value → List Hp → Prop} (hr : fn.results = #[.tmp t, .tmp t', .tmp t'']) (ht : look m t = some v) (ht' : look m t' = some v') (ht'' : look m t'' = some v'') (h : R (.tuple #[v, v', v'']) l) : Gx ⟨W, n, []⟩ m l (bodyPost P fn (Ret W R) .ret) := fun a w s H => by
  refine ⟨s.defers, .tuple #[v, v', v''], ?_, _, l, rfl, h, H⟩
  have := s.get t v ht
  have := s.get t' v' ht'
  have := s.get t'' v'' ht''
  simp [results, hr, Array.getD_eq_getD_getElem?, *]
theorem Gx.ret0 {W : World} {n : Nat} {fn : Func} {R : Value → List Hp → Prop} (hr : fn.results = #[]) (h : R (.tuple #[]) l) : Gx ⟨W, n, []⟩ m l (bodyPost P fn (Ret W R) .ret) := fun a w s H => by
  refine ⟨s.defers, .tuple #[], ?_, _, l, rfl, h, H⟩
  simp [results, hr]
theorem Gx.endN {W : World} {n : Nat} {fn : Func} {R : Value → List Hp → Prop} (h : Gx ⟨W, n, []⟩ m l (bodyPost P fn (Ret W R) .ret)) : Gx ⟨W, n, []⟩ m l (bodyPost P fn (Ret W R) .normal) := h
end

/-- what begins as nothing is below all -/
theorem Sat.ofBelow {W w : World} (h : Below W.heap.size W w) : Sat W w 1 := (Sat.start W).of_below h
/-- what a call owns that began in w, beside what was owned -/
theorem Sat.nest {W w w' : World} {A B : Hp} (H : Sat W w A) (H' : Sat w w' B) : Sat W w' (B * A) := by
  obtain ⟨hb, m, hm, p⟩ := H
  obtain ⟨hb', m', hm', p'⟩ := H'
  refine ⟨hb.trans (hb'.mono hb.size), fun k => (m' k).or (m k), fun k o hk => ?_, m', m, fun k => ?_, rfl, p', p⟩
  · cases e : m' k with
    | some o' =>
      simp [e] at hk
      subst hk
      obtain ⟨h1, h2⟩ := hm' k _ e
      exact ⟨Nat.le_trans hb.size h1, h2⟩
    | none =>
      simp [e] at hk
      obtain ⟨h1, h2⟩ := hm k o hk
      exact ⟨h1, by rw [hb'.block k (Array.getElem?_eq_some_iff.1 h2).1]; exact h2⟩
  · cases e : m' k with
    | none => exact .inl rfl
    | some o =>
      right
      cases e2 : m k with
      | none => rfl
      | some o2 =>
        have h1 := (hm' k o e).1
        have h2 := (Array.getElem?_eq_some_iff.1 (hm k o2 e2).2).1
        omega
end Go.Proofs.YtcblkjjkpffjhaaDoor
