/- Statements that leave their order open, with changes that wait for each other only in part. Over any program. No condition. -/
import Derived.Test.YtcblkjjkpffjhaaDoorX5
import Derived.Test.YtcblkjjkpffjhaaDoorL8
namespace Go.Proofs.YtcblkjjkpffjhaaDoor
open Go.RowKit
set_option linter.unusedVariables false

def dn (d : Done) (i : Nat) : Bool := (d i).isSome
def dv (d : Done) (i : Nat) : Value := (d i).getD undef
theorem dn_upd (d : Done) (i : Nat) (v : Value) (j : Nat) : dn (upd d i v) j = (Nat.beq j i || dn d j) := by
  unfold dn upd
  by_cases e : j = i
  · subst e; simp
  · rw [if_neg e, beq_no e]; rfl
theorem dv_upd (d : Done) (i : Nat) (v : Value) (j : Nat) : dv (upd d i v) j = cond (Nat.beq j i) v (dv d j) := by
  unfold dv upd
  by_cases e : j = i
  · subst e; simp
  · rw [if_neg e, beq_no e]; rfl
theorem dv_of {d : Done} {i : Nat} {v : Value} (h : d i = some v) : dv d i = v := by unfold dv; rw [h]; rfl
theorem dn_some {d : Done} {i : Nat} (h : dn d i = true) : d i = some (dv d i) := by
  unfold dn at h
  unfold dv
  cases e : d i with
  | none => rw [e] at h; cases h
  | some v => rfl

/-- which changes an operation waits for at once -/
def predB (ops : Array Oper) (el : List Nat) (i j : Nat) : Bool := match ops[i]? with
  | some o => o.after.any (fun e => Region.binds .any e && Nat.beq e.on j) && el.contains j
  | none => false
/-- what is done, has all done for which it waits -/
def Clo (ops : Array Oper) (el : List Nat) (d : Done) : Prop := ∀ i ∈ el, ∀ j, predB ops el i j = true → dn d i = true → dn d j = true
theorem Clo.pre {ops : Array Oper} {el : List Nat} {d : Done} (h : Clo ops el d) (i j : Nat) (hi : el.contains i = true) (hp : predB ops el i j = true) (hd : dn d i = true) : dn d j = true := h i (by simpa using hi) j hp hd
theorem Clo.not {ops : Array Oper} {el : List Nat} {d : Done} (h : Clo ops el d) (i j : Nat) (hi : el.contains i = true) (hp : predB ops el i j = true) (hd : dn d j = false) : dn d i = false := by
  cases e : dn d i
  · rfl
  · have := h.pre i j hi hp e; rw [hd] at this; cases this

/-- what is known once the operations that read are walked: the frame, with the changes' results put in -/
def predR (ops : Array Oper) (s i : Nat) : Bool := match ops[s]? with
  | some o => o.after.any fun e => Region.binds .any e && Nat.beq e.on i
  | none => false
structure Fr (c : Cx) (a : Act) (m : List (Nat × Value)) (ops : Array Oper) (el : List Nat) (d : Done) (nd : Nat → Bool) : Prop where
  slots : Slots c a m
  get : ∀ j t, el.contains j = true → nd j = true → dn d j = true → dstOf ops j = some t → a.tmps[t]? = some (dv d j)
theorem Fr.add {c : Cx} {a : Act} {m m' : List (Nat × Value)} {ops : Array Oper} {el : List Nat} {d : Done} {nd : Nat → Bool} (h : Fr c a m ops el d nd) (s : Slots c a m') (j : Nat) {t : Nat} (hj : el.contains j = true) (hn : nd j = true) (ht : dstOf ops j = some t) (hd : dn d j = true) {v : Value} (hv : dv d j = v) : Slots c a ((t, v) :: m') := by
  refine ⟨s.size, s.defers, fun q u hu => ?_⟩
  simp only [look] at hu
  by_cases e : t = q
  · subst e; simp at hu; subst hu; rw [← hv]; exact h.get j t hj hn hd ht
  · rw [beq_no e] at hu; exact s.get q u hu

def freshB (m : List (Nat × Value)) (ops : Array Oper) (el : List Nat) : Bool := el.all fun j => match dstOf ops j with
  | some t => (look m t).isNone
  | none => true

theorem putL_slots {c : Cx} {m : List (Nat × Value)} {ops : Array Oper} {d : Done} {a : Act} (s : Slots c a m) : ∀ (l : List Nat), (∀ j ∈ l, ∀ t, dstOf ops j = some t → look m t = none) → Slots c (putL ops a d l) m
  | [], _ => s
  | j :: l, h => by
    have ih := putL_slots (d := d) s l (fun i hi => h i (List.mem_cons_of_mem _ hi))
    simp only [putL]
    cases hj : d j with
    | none => exact ih
    | some v =>
      refine ⟨?_, ?_, fun t u hu => ?_⟩
      · have := ih.size
        cases e : dstOf ops j <;> simpa [Act.put, e] using this
      · have := ih.defers
        cases e : dstOf ops j <;> simpa [Act.put, e] using this
      · have := ih.get t u hu
        cases e : dstOf ops j with
        | none => simpa [Act.put, e] using this
        | some q =>
          have hne : q ≠ t := fun e' => by
            have := h j (by simp) q e
            rw [e', hu] at this; cases this
          simp only [Act.put, Array.getElem?_setIfInBounds, if_neg hne]
          exact this
theorem putL_get {c : Cx} {ops : Array Oper} {d : Done} {a : Act} (hu : Uniq ops) (ha : a.tmps.size = c.n) {j t : Nat} (hd : dn d j = true) (ht : dstOf ops j = some t) (hlt : t < c.n) : ∀ (l : List Nat), j ∈ l → (putL ops a d l).tmps[t]? = some (dv d j)
  | [], h => by cases h
  | i :: l, h => by
    simp only [putL]
    have hdj := dn_some hd
    by_cases e : i = j
    · subst e
      rw [hdj, ht]
      simp only [Act.put, Array.getElem?_setIfInBounds, if_true]
      rw [if_pos (by rw [putL_size, ha]; exact hlt)]
    · have hl : j ∈ l := by
        rcases List.mem_cons.1 h with h | h
        · exact absurd h.symm e
        · exact h
      have ih := putL_get hu ha hd ht hlt l hl
      cases hi : d i with
      | none => exact ih
      | some v =>
        cases hti : dstOf ops i with
        | none => simpa [Act.put] using ih
        | some q =>
          have hne : q ≠ t := fun e' => e (hu i j t (by rw [hti, e']) ht)
          simp only [Act.put, Array.getElem?_setIfInBounds, if_neg hne]
          exact ih

section
variable {P : Program} {c : Cx} {m : List (Nat × Value)} {l : List Hp} {ops : Array Oper} {Q : Exit → Act → World → Prop} {K : Act → World → Prop} {D : Nat → List Hp} {T : Act → Prop} {el : List Nat} {ct : Done → List Hp}

def Gp (P : Program) (c : Cx) (m : List (Nat × Value)) (ops : Array Oper) (D : Nat → List Hp) (T : Act → Prop) (ord : List Nat) : Prop := ∀ a, Slots c a m → pWalk P ops (fun i w => Sat c.W w (sep (D i))) T ord a
theorem Gp.val {i d : Nat} {rest : List Nat} {o : Oper} {v : Value} (ho : ops[i]? = some o) (hd : o.dst = some d) (hn : Nat.ble (d + 1) c.n = true) (hno : valued o.op = true) (hv : Val P c m (D i) o v) (h : Gp P c ((d, v) :: m) ops D T rest) : Gp P c m ops D T (i :: rest) := fun a s => by
  unfold pWalk
  simp only [ho]
  refine ⟨v, fun w H => ?_, h _ (by rw [hd]; exact s.put hn v)⟩
  have h1 := hv a w s H
  unfold Oper.quietAt at h1
  unfold EffAt
  have hne := noEnter (P := P) hno a.eval w
  generalize (execOp a.eval o).run P w = r at *
  cases r with
  | ok n w' =>
    cases n <;> simp only [Oper.quietUpon] at h1 <;> simp only [EffUpon]
    case value u => exact ⟨h1.2, h1.1⟩
    case skip => exact ⟨h1.2.symm, h1.1⟩
    case enter f args => exact absurd rfl (hne w' f args)
  | halt x w' => simp only [Oper.quietUpon] at h1

/-- what is to be shown of a change -/
def Fop (P : Program) (c : Cx) (m : List (Nat × Value)) (ops : Array Oper) (el : List Nat) (ct : Done → List Hp) (i : Nat) (o : Oper) : Prop :=
  ∀ d, Clo ops el d → dn d i = false → (∀ j, predB ops el i j = true → dn d j = true) → ∀ a w, Fr c a m ops el d (needs ops o) → Sat c.W w (sep (ct d)) → EffAt P o a w fun v w' => Sat c.W w' (sep (ct (upd d i v)))
def AllF (P : Program) (c : Cx) (m : List (Nat × Value)) (ops : Array Oper) (el : List Nat) (ct : Done → List Hp) : List Nat → Prop
  | [] => True
  | i :: r => (∃ o, ops[i]? = some o ∧ Fop P c m ops el ct i o) ∧ AllF P c m ops el ct r
theorem AllF.get : ∀ {r : List Nat} {i : Nat}, AllF P c m ops el ct r → i ∈ r → ∃ o, ops[i]? = some o ∧ Fop P c m ops el ct i o
  | [], _, _, h => by cases h
  | j :: r, i, ⟨h1, h2⟩, h => by
    rcases List.mem_cons.1 h with rfl | h
    · exact h1
    · exact h2.get h

def TF (P : Program) (c : Cx) (ops : Array Oper) (el : List Nat) (ct : Done → List Hp) (Q : Act → World → Prop) (a1 : Act) : Prop :=
  (∀ i ∈ el, ∀ o, ops[i]? = some o → ∀ d w, (Clo ops el d ∧ Sat c.W w (sep (ct d))) → d i = none → (∀ e ∈ o.after, Region.binds .any e = true → e.on ∈ el → (d e.on).isSome = true) → EffAt P o (putL ops a1 d (el.filter (needs ops o))) w fun v w' => Clo ops el (upd d i v) ∧ Sat c.W w' (sep (ct (upd d i v)))) ∧
  (∀ d w, (Clo ops el d ∧ Sat c.W w (sep (ct d))) → (∀ i ∈ el, (d i).isSome = true) → Q (putL ops a1 d el) w)

theorem Gp.done (hu : Uniq ops) (hf : freshB m ops el = true) (hlt : el.all (fun j => match dstOf ops j with | some t => Nat.ble (t + 1) c.n | none => true) = true) (h1 : AllF P c m ops el ct el)
    (h2 : ∀ d, Clo ops el d → (∀ i, el.contains i = true → dn d i = true) → ∀ a, Fr c a m ops el d (fun _ => true) → ∀ w, Sat c.W w (sep (ct d)) → K a w) : Gp P c m ops D (TF P c ops el ct K) [] := fun a s => by
  have hfr : ∀ j ∈ el, ∀ t, dstOf ops j = some t → look m t = none := fun j hj t ht => by
    have := List.all_eq_true.1 hf j hj
    simp only [ht] at this
    simpa using this
  have hlt' : ∀ j ∈ el, ∀ t, dstOf ops j = some t → t < c.n := fun j hj t ht => by
    have := List.all_eq_true.1 hlt j hj
    simp only [ht] at this
    exact Nat.le_of_ble_eq_true this
  refine ⟨fun i hi o ho d w ⟨hc, H⟩ hdi hpre => ?_, fun d w ⟨hc, H⟩ hall => ?_⟩
  · obtain ⟨o', ho', hF⟩ := h1.get hi
    rw [ho] at ho'
    cases ho'
    have hpre' : ∀ j, predB ops el i j = true → dn d j = true := fun j hp => by
      unfold predB at hp
      simp only [ho, Bool.and_eq_true] at hp
      obtain ⟨hp1, hp2⟩ := hp
      obtain ⟨k, hk, h7⟩ : ∃ (k : Nat) (hk : k < o.after.size), (Region.binds .any o.after[k] && Nat.beq o.after[k].on j) = true := by simpa using hp1
      simp only [Bool.and_eq_true] at h7
      have e7 := Nat.eq_of_beq_eq_true h7.2
      have := hpre _ (Array.getElem_mem hk) h7.1 (by rw [e7]; simpa using hp2)
      rw [e7] at this; exact this
    refine (hF d hc (by unfold dn; rw [hdi]; rfl) hpre' _ w ⟨putL_slots s _ (fun j hj => hfr j (List.mem_filter.1 hj).1), fun j t hj hn hd ht => ?_⟩ H).mono fun v w' hS => ⟨fun q hq j hp hdq => ?_, hS⟩
    · have hj' : j ∈ el := by simpa using hj
      exact putL_get hu s.size hd ht (hlt' j hj' t ht) _ (List.mem_filter.2 ⟨hj', hn⟩)
    · rw [dn_upd] at hdq ⊢
      by_cases e : q = i
      · subst e
        rw [hpre' j hp]; simp
      · rw [beq_no e] at hdq
        rw [hc q hq j hp (by simpa using hdq)]; simp
  · exact h2 d hc (fun i hi => by unfold dn; exact hall i (by simpa using hi)) _ ⟨putL_slots s _ hfr, fun j t hj _ hd ht => by
      have hj' : j ∈ el := by simpa using hj
      exact putL_get hu s.size hd ht (hlt' j hj' t ht) _ hj'⟩ w H

theorem uniq_of {ops : Array Oper} (h : ((List.range ops.size).all fun i => (List.range ops.size).all fun j => decide (i = j) || (dstOf ops i).isNone || (dstOf ops i != dstOf ops j)) = true) : Uniq ops := fun i j t hi hj => by
  have := List.all_eq_true.1 (List.all_eq_true.1 h i (List.mem_range.2 (dstOf_lt hi))) j (List.mem_range.2 (dstOf_lt hj))
  simpa [hi, hj] using this

theorem Gx.regionF {id : Nat} {ops : List Oper} (el ord : List Nat) (D : Nat → List Hp) (ct : Done → List Hp) (hm : P.follows .mixedOrders = true) (hB : regF .any ops.toArray el = true) (hord : ((List.range ops.toArray.size).filter fun i => !el.contains i) = ord) (h0 : l = ct (fun _ => none))
    (hD : ∀ i d w, Clo ops.toArray el d → (∀ s, el.contains s = true → predR ops.toArray s i = true → dn d s = false) → Sat c.W w (sep (ct d)) → Sat c.W w (sep (D i)))
    (h : Gp P c m ops.toArray D (TF P c ops.toArray el ct (Q .normal)) ord) : Gx c m l (Code.wp P (.region id ops.toArray true) Q) := fun a w s H => by
  refine wp_region_free el (fun i w => Sat c.W w (sep (D i))) (fun d w => Clo ops.toArray el d ∧ Sat c.W w (sep (ct d))) hm hB ⟨(fun i hi j _ hd => by cases hd), h0 ▸ H.drawn _⟩ (fun i d w ⟨hc, HS⟩ hp => hD i d w hc (fun s hs hps => ?_) HS) (by rw [hord]; exact h a s)
  have := hp s (by simpa using hs) (by
    unfold predR at hps
    split at hps
    · rename_i o ho
      rw [ho]
      simp only
      obtain ⟨k, hk, h7⟩ : ∃ (k : Nat) (hk : k < o.after.size), (Region.binds .any o.after[k] && Nat.beq o.after[k].on i) = true := by simpa using hps
      simp only [Bool.and_eq_true] at h7
      have e7 := Nat.eq_of_beq_eq_true h7.2
      simp only [Array.any_eq_true]
      exact ⟨k, hk, by simp [h7.1, e7]⟩
    · cases hps)
  unfold dn; rw [this]; rfl
end

theorem Eff.at_ {P : Program} {c : Cx} {m : List (Nat × Value)} {l : List Hp} {o : Oper} {a : Act} {w : World} {R : Value → List Hp → Prop} (s : Slots c a m) (H : Sat c.W w (sep l)) (h : Eff P c m l o R) : EffAt P o a w fun v w' => ∃ l', R v l' ∧ Sat c.W w' (sep l') := h a w s H
theorem Gx.use {c : Cx} {m : List (Nat × Value)} {l : List Hp} {K : Act → World → Prop} {a : Act} {w : World} (s : Slots c a m) (H : Sat c.W w (sep l)) (h : Gx c m l K) : K a w := h a w s H
theorem Sat.only {W w : World} {l : List Hp} (H : Sat W w (sep l)) {k : Nat} {p q : Hp} (e : l[k]? = some p) (hpq : p = q) : Sat W w (sep [q]) := by
  subst hpq
  have h1 := (H.at_ e).cast (Hp.mul_comm _ _)
  exact h1.drop.cast (Hp.mul_one _).symm
theorem Sat.noneL {W w : World} {A : Hp} (H : Sat W w A) : Sat W w (sep []) := Sat.drop (P := A) (H.cast (Hp.mul_one _).symm)
theorem sep_ones (n : Nat) (l : List Hp) : sep (l ++ List.replicate n 1) = sep l := by
  rw [sep_append]
  have : ∀ n : Nat, sep (List.replicate n 1) = 1 := fun n => by
    induction n with
    | zero => rfl
    | succ n ih => rw [List.replicate_succ, sep, ih, Hp.one_mul]
  rw [this, Hp.mul_one]
theorem Gx.ones {c : Cx} {m : List (Nat × Value)} {l : List Hp} {K : Act → World → Prop} (n : Nat) (h : Gx c m (l ++ List.replicate n 1) K) : Gx c m l K := fun a w s H => h a w s (H.cast (sep_ones n l).symm)
theorem Sat.factAt {W w : World} {l : List Hp} (H : Sat W w (sep l)) {k : Nat} {q : Hp} {p : Prop} (e : l[k]? = some q) (hq : q = Hp.pure p) : p := by
  subst hq; exact (H.at_ e).pure.1
theorem Sat.listed {W w : World} {l l' : List Hp} (H : Sat W w (sep l)) (e : l = l') : Sat W w (sep l') := e ▸ H

theorem sep_fill : ∀ (l : List Hp) (k : Nat) (q : Hp), l[k]? = some 1 → sep (l.set k q) = q * sep l
  | [], _, _, h => by simp at h
  | z :: l, 0, q, h => by
    simp at h; subst h
    show q * sep l = q * (1 * sep l)
    rw [Hp.one_mul]
  | z :: l, k + 1, q, h => by
    rw [List.set_cons_succ, sep, sep, sep_fill l k q (by simpa using h), Hp.mul_left_comm]
section
variable {P : Program} {c : Cx} {m : List (Nat × Value)} {l l' : List Hp} {K : Act → World → Prop} {o : Oper} {x y z : Operand} {T : TypeId}
theorem Gx.sepEq (e : sep l = sep l') (h : Gx c m l' K) : Gx c m l K := fun a w s H => h a w s (H.cast e)
theorem Gx.sat (f : ∀ w, Sat c.W w (sep l) → Sat c.W w (sep l')) (h : Gx c m l' K) : Gx c m l K := fun a w s H => h a w s (f w H)
theorem Gx.exists_ {α : Type} {l' : α → List Hp} (f : ∀ w, Sat c.W w (sep l) → ∃ x, Sat c.W w (sep (l' x))) (h : ∀ x, Gx c m (l' x) K) : Gx c m l K := fun a w s H => by
  obtain ⟨x, H'⟩ := f w H
  exact h x a w s H'
theorem Sat.at2 {W w : World} {l : List Hp} (H : Sat W w (sep l)) {k k' : Nat} {p q : Hp} (h : l[k]? = some p) (h' : (l.eraseIdx k)[k']? = some q) : Sat W w (p * (q * sep ((l.eraseIdx k).eraseIdx k'))) := (H.at_ h).cast (by rw [(sep_focus _ _ _ h').1])
theorem Sat.at3 {W w : World} {l : List Hp} (H : Sat W w (sep l)) {k k' k'' : Nat} {p q r : Hp} (h : l[k]? = some p) (h' : (l.eraseIdx k)[k']? = some q) (h'' : ((l.eraseIdx k).eraseIdx k')[k'']? = some r) : Sat W w (p * (q * (r * sep (((l.eraseIdx k).eraseIdx k').eraseIdx k'')))) := (H.at2 h h').cast (by rw [(sep_focus _ _ _ h'').1])
theorem Sat.frame1 {W w : World} {R : Hp} {p : Hp} (H : Sat W w (p * R)) : Sat W w (sep [p, R]) := H.cast (by show _ = p * (R * 1); rw [Hp.mul_one])
theorem Sat.frame2 {W w : World} {R : Hp} {p q : Hp} (H : Sat W w (p * (q * R))) : Sat W w (sep [p, q, R]) := H.cast (by show _ = p * (q * (R * 1)); rw [Hp.mul_one])
theorem Sat.frame3 {W w : World} {R : Hp} {p q r : Hp} (H : Sat W w (p * (q * (r * R)))) : Sat W w (sep [p, q, r, R]) := H.cast (by show _ = p * (q * (r * (R * 1))); rw [Hp.mul_one])
theorem Sat.frame4 {W w : World} {R : Hp} {p q r s : Hp} (H : Sat W w (p * (q * (r * (s * R))))) : Sat W w (sep [p, q, r, s, R]) := H.cast (by show _ = p * (q * (r * (s * (R * 1)))); rw [Hp.mul_one])
theorem sep1 (p R : Hp) : sep [p, R] = p * R := by show p * (R * 1) = _; rw [Hp.mul_one]
theorem sep2 (p q R : Hp) : sep [p, q, R] = p * (q * R) := by show p * (q * (R * 1)) = _; rw [Hp.mul_one]
theorem sep3 (p q r R : Hp) : sep [p, q, r, R] = p * (q * (r * R)) := by show p * (q * (r * (R * 1))) = _; rw [Hp.mul_one]
theorem sep4 (p q r s R : Hp) : sep [p, q, r, s, R] = p * (q * (r * (s * R))) := by show p * (q * (r * (s * (R * 1)))) = _; rw [Hp.mul_one]

def sN : Value → Nat | .tuple ⟨[_, .int _ s]⟩ => s.toNat | _ => 0
theorem eff_mapEntry {α β : Type} [DecidableEq α] {k' e : TypeId} {kl : α → Lit} {kf : α → Value} {ok : α → Prop} {vf : β → Value} {b k : Nat} {ms : List (α × β)} {i : α} {r z0 : β} {d : TypeDesc} {sz bytes : Nat} {zv : Value} (ho : o.op = .mapEntry T x y) (hT : P.underlying T = some (.map k' e)) (hE : Ty P e d sz bytes zv) (hz : zv = vf z0) (K : KeyT P k' kf kl ok) (hkey : ∀ a : α, WideAt.IsKeyLit (kl a))
    (hx : evo m x = some (.map (some b))) (hy : evo m y = some (kf i)) (hi : ok i) (hk : l[k]? = some (Hp.map P k' kl vf b ms)) (hroom : ms.length < maxLen) (hr : (getM ms i).getD z0 = r) : Eff P c m l o (fun v l'' => ∃ s : Nat, v = .tuple #[vf r, .int .i64 (s : Int)] ∧ l'' = l.set k (Hp.mapE P k' kl vf kf b (putM ms i r) i s)) := Eff.of fun a w s H => by
  subst hr
  obtain ⟨w', s', h1, h2⟩ := (H.at_ hk).entryM K hkey hT hE.zero hz hroom hi
  refine ⟨_, w', ?_, _, ⟨s', rfl, rfl⟩, Sat.back hk rfl h2⟩
  simp [execOp, ho, s.ev hx, s.ev hy, h1, Result.andThen]
theorem eff_entryStore {α β : Type} [DecidableEq α] {k' e : TypeId} {kl : α → Lit} {kf : α → Value} {ok : α → Prop} {vf : β → Value} {b k s' : Nat} {ms : List (α × β)} {i : α} {r : β} (ho : o.op = .entryStore T x y z) (hT : P.underlying T = some (.map k' e)) (K : KeyT P k' kf kl ok) (hkey : ∀ a : α, WideAt.IsKeyLit (kl a))
    (hx : evo m x = some (.map (some b))) (hy : evo m y = some (.int .i64 (s' : Int))) (hz : evo m z = some (vf r)) (hi : ok i) (hk : l[k]? = some (Hp.mapE P k' kl vf kf b ms i s')) (hroom : ms.length < maxLen) (hl : l.set k (Hp.map P k' kl vf b (putM ms i r)) = l') : Eff P c m l o (fun _ l'' => l'' = l') := Eff.ofSkip fun a w s H => by
  obtain ⟨w', h1, h2⟩ := (H.at_ hk).entryStoreM K hkey hT hroom hi r
  refine ⟨w', ?_, l', rfl, Sat.back hk hl h2⟩
  simp [execOp, ho, s.ev hx, s.ev hy, s.ev hz, h1, Result.andThen]
theorem val_lookup1E {α β : Type} [DecidableEq α] {k' e : TypeId} {kl : α → Lit} {kf : α → Value} {ok : α → Prop} {vf : β → Value} {b k s' : Nat} {ms : List (α × β)} {d : TypeDesc} {sz bytes : Nat} {zv : Value} {i j : α} {r : Value} (ho : o.op = .lookup T x y false) (hT : P.underlying T = some (.map k' e)) (K : KeyT P k' kf kl ok) (hE : Ty P e d sz bytes zv)
    (hx : evo m x = some (.map (some b))) (hy : evo m y = some (kf i)) (hi : ok i) (hk : l[k]? = some (Hp.mapE P k' kl vf kf b ms j s')) (hr : ((getM ms i).map vf).getD zv = r) : Val P c m l o r := Val.of fun a w s H => by
  have H1 := H.at_ hk
  have H' : Sat c.W w (Hp.map P k' kl vf b ms * sep (l.eraseIdx k)) := H1.mono fun h ⟨o, ho, e⟩ => ⟨o, ho.1, e⟩
  have h1 := H'.look K hT hE.zero hi false
  subst hr
  simp [execOp, ho, s.ev hx, s.ev hy, h1, Result.andThen]
  cases getM ms i <;> rfl
end
theorem Sat.fillAt {W w : World} {l : List Hp} {q : Hp} (H : Sat W w (q * sep l)) {k : Nat} (e : l[k]? = some 1) : Sat W w (sep (l.set k q)) := H.cast (sep_fill l k q e).symm
/-- an append whose source stays as nothing -/
theorem eff_pushP {P : Program} {c : Cx} {m : List (Nat × Value)} {l : List Hp} {o : Oper} {x y : Operand} {v : Value} {T : TypeId} {α : Type} {f : α → List Value} {e : TypeId} {zv : Value} {sz bytes k k' b : Nat} {xs : List α} {r : α} {vs : List Value} (ho : o.op = .call { callee := .builtin .append, args := #[x, y], argTypes := #[T, T] }) (E : Elem P T e zv sz bytes) (hf : ∀ x, (f x).length = sz) (h1 : ∀ x u, u ∈ f x → u.oneCell' = true)
    (hx : evo m x = some v) (hy : evo m y = some (.slice (some ⟨b, 0, none⟩) 1 1)) (hk : l[k]? = some (Hp.rec_ b vs)) (hr : f r = vs) (hk' : (l.set k 1)[k']? = some (Hp.own f sz v xs)) (hb : (xs.length + 1) * bytes ≤ 140737488355328) (hm : xs.length + 1 ≤ 140737488355328) :
    Eff P c m l o (fun v' l'' => IsS v' ∧ l'' = (l.set k 1).set k' (Hp.own f sz v' (xs ++ [r]))) := Eff.of fun a w s H => by
  subst hr
  have H1 := H.at_ hk
  have e1 : sep (l.eraseIdx k) = sep (l.set k 1) := by rw [(sep_focus l k _ hk).2 1, Hp.one_mul]
  have H2 : Sat c.W w (Hp.rec_ b (f r) * (Hp.own f sz v xs * sep ((l.set k 1).eraseIdx k'))) := H1.cast (by rw [e1, (sep_focus _ _ _ hk').1])
  obtain ⟨v', w', hrun, q1, q2⟩ := H2.pushRun T o.type E f hf h1 r b hb hm
  refine ⟨v', w', ?_, _, ⟨isS_own q1, rfl⟩, Sat.back hk' rfl q1⟩
  simp [execOp, ho, resolve, invoke, builtin, s.ev hx, s.ev hy, hrun, Result.andThen]
end Go.Proofs.YtcblkjjkpffjhaaDoor
