/- Several appends to fields of one record in one statement, in whatever order, in parts that share nothing. Over any program. No condition. -/
import Derived.Test.YthpbdckiiljegaaS3
import Derived.Test.YthpbdckiiljegaaL8
namespace Go.Proofs.Ythpbdckiiljegaa
open Go.RowKit
set_option linter.unusedVariables false

abbrev FW : Value → List Value := fun v => [v]

/-- one append: its field, where its operations stand (build, append, store), what the field has, what is added -/
structure Chn where
  fld : Nat
  bi : Nat
  ai : Nat
  si : Nat
  v : Value
  xs : List Value
  x : Value

def Chn.cur (c : Chn) (d : Done) : Value := (d c.ai).getD c.v
def laid (u x : Value) : Hp := fun h => ∃ b, u = one b ∧ Hp.rec_ b [x] h
def Chn.hp (d : Done) (c : Chn) : Hp := match d c.ai with
  | some v' => Hp.own FW 1 v' (c.xs ++ [c.x])
  | none => match d c.bi with
    | some u => Hp.own FW 1 c.v c.xs * laid u c.x
    | none => Hp.own FW 1 c.v c.xs
def recOf (vs0 : List Value) (cs : List Chn) (d : Done) : List Value := cs.foldl (fun l c => if (d c.si).isSome then l.set c.fld (c.cur d) else l) vs0
def parC (W : World) (O : Nat) (vs0 : List Value) (cs : List Chn) (R : Hp) (d : Done) (w : World) : Prop := Sat W w (Hp.big (Chn.hp d) cs * (Hp.rec_ O (recOf vs0 cs d) * R))

/-- no place twice -/
def chnB (cs : List Chn) : Bool := decide ((cs.flatMap fun c => [c.bi, c.ai, c.si]).Nodup) && decide ((cs.map (·.fld)).Nodup)

theorem big_one {α : Type} {p : α → Hp} : ∀ {l : List α} {c : α}, c ∈ l → l.Nodup → ∃ R, Hp.big p l = p c * R ∧ ∀ p' : α → Hp, (∀ x ∈ l, x ≠ c → p x = p' x) → Hp.big p' l = p' c * R
  | [], _, h, _ => by cases h
  | x :: l, c, h, hn => by
    obtain ⟨h1, h2⟩ := List.nodup_cons.1 hn
    by_cases e : x = c
    · subst e
      refine ⟨Hp.big p l, rfl, fun p' hp => ?_⟩
      have key : ∀ k : List α, (∀ y ∈ k, p y = p' y) → Hp.big p k = Hp.big p' k := fun k => by
        induction k with
        | nil => intro _; rfl
        | cons y k ih => intro hk; rw [Hp.big, Hp.big, hk y List.mem_cons_self, ih (fun z hz => hk z (List.mem_cons_of_mem _ hz))]
      rw [Hp.big, key l (fun y hy => hp y (List.mem_cons_of_mem _ hy) (fun e => h1 (e ▸ hy)))]
    · have hc : c ∈ l := by cases h with | head => exact absurd rfl e | tail _ h => exact h
      obtain ⟨R, q1, q2⟩ := big_one (p := p) hc h2
      refine ⟨p x * R, by rw [Hp.big, q1, Hp.mul_left_comm], fun p' hp => ?_⟩
      rw [Hp.big, q2 p' (fun y hy hne => hp y (List.mem_cons_of_mem _ hy) hne), ← hp x List.mem_cons_self e, Hp.mul_left_comm]

theorem upd_ne' {d : Done} {i j : Nat} {u : Value} (h : j ≠ i) : upd d i u j = d j := by unfold upd; rw [if_neg h]
theorem upd_eq' {d : Done} {i : Nat} {u : Value} : upd d i u i = some u := by unfold upd; rw [if_pos rfl]

section
variable {W w w' : World} {O : Nat} {vs0 : List Value} {cs : List Chn} {R : Hp} {d : Done}

structure DistC (cs : List Chn) : Prop where
  nodup : cs.Nodup
  own : ∀ c ∈ cs, c.bi ≠ c.ai ∧ c.bi ≠ c.si ∧ c.ai ≠ c.si
  apart : ∀ c ∈ cs, ∀ c' ∈ cs, c ≠ c' → c.fld ≠ c'.fld ∧ c.bi ≠ c'.bi ∧ c.bi ≠ c'.ai ∧ c.bi ≠ c'.si ∧ c.ai ≠ c'.ai ∧ c.ai ≠ c'.si ∧ c.si ≠ c'.si

theorem DistC.three {c1 c2 c3 : Chn} (h1 : [c1.bi, c1.ai, c1.si, c2.bi, c2.ai, c2.si, c3.bi, c3.ai, c3.si].Nodup) (h2 : [c1.fld, c2.fld, c3.fld].Nodup) : DistC [c1, c2, c3] := by
  simp only [List.nodup_cons, List.mem_cons, List.not_mem_nil, or_false, not_or, not_false_eq_true, List.nodup_nil, and_true] at h1 h2
  obtain ⟨⟨z00, z01, z02, z03, z04, z05, z06, z07⟩, ⟨z10, z11, z12, z13, z14, z15, z16⟩, ⟨z20, z21, z22, z23, z24, z25⟩, ⟨z30, z31, z32, z33, z34⟩, ⟨z40, z41, z42, z43⟩, ⟨z50, z51, z52⟩, ⟨z60, z61⟩, z70⟩ := h1
  obtain ⟨⟨y0, y1⟩, y2⟩ := h2
  refine ⟨?_, fun c hc => ?_, fun c hc c' hc' hne => ?_⟩
  · simp only [List.nodup_cons, List.mem_cons, List.not_mem_nil, or_false, not_or, not_false_eq_true, List.nodup_nil, and_true]
    exact ⟨⟨fun e => y0 (by rw [e]), fun e => y1 (by rw [e])⟩, fun e => y2 (by rw [e])⟩
  · simp only [List.mem_cons, List.not_mem_nil, or_false] at hc
    rcases hc with rfl | rfl | rfl <;> (and_intros <;> first | assumption | (apply Ne.symm; assumption))
  · simp only [List.mem_cons, List.not_mem_nil, or_false] at hc hc'
    rcases hc with rfl | rfl | rfl <;> rcases hc' with rfl | rfl | rfl <;> first | exact absurd rfl hne | (and_intros <;> first | assumption | (apply Ne.symm; assumption))
theorem DistC.two {c1 c2 : Chn} (h1 : [c1.bi, c1.ai, c1.si, c2.bi, c2.ai, c2.si].Nodup) (h2 : c1.fld ≠ c2.fld) : DistC [c1, c2] := by
  simp only [List.nodup_cons, List.mem_cons, List.not_mem_nil, or_false, not_or, not_false_eq_true, List.nodup_nil, and_true] at h1
  obtain ⟨⟨z00, z01, z02, z03, z04⟩, ⟨z10, z11, z12, z13⟩, ⟨z20, z21, z22⟩, ⟨z30, z31⟩, z40⟩ := h1
  refine ⟨?_, fun c hc => ?_, fun c hc c' hc' hne => ?_⟩
  · simp only [List.nodup_cons, List.mem_cons, List.not_mem_nil, or_false, not_false_eq_true, List.nodup_nil, and_true]
    exact fun e => h2 (by rw [e])
  · simp only [List.mem_cons, List.not_mem_nil, or_false] at hc
    rcases hc with rfl | rfl <;> (and_intros <;> first | assumption | (apply Ne.symm; assumption))
  · simp only [List.mem_cons, List.not_mem_nil, or_false] at hc hc'
    rcases hc with rfl | rfl <;> rcases hc' with rfl | rfl <;> first | exact absurd rfl hne | (and_intros <;> first | assumption | (apply Ne.symm; assumption))

theorem recOf_congr {d' : Done} : ∀ (cs : List Chn) (vs0 : List Value), (∀ c ∈ cs, d' c.si = d c.si ∧ ((d c.si).isSome = true → d' c.ai = d c.ai)) → recOf vs0 cs d' = recOf vs0 cs d
  | [], _, _ => rfl
  | c :: cs, vs0, h => by
    obtain ⟨h1, h2⟩ := h c List.mem_cons_self
    have e : (if (d' c.si).isSome then vs0.set c.fld (c.cur d') else vs0) = (if (d c.si).isSome then vs0.set c.fld (c.cur d) else vs0) := by
      rw [h1]
      split
      · rename_i hs; unfold Chn.cur; rw [h2 hs]
      · rfl
    show recOf (if (d' c.si).isSome then vs0.set c.fld (c.cur d') else vs0) cs d' = recOf (if (d c.si).isSome then vs0.set c.fld (c.cur d) else vs0) cs d
    rw [e]
    exact recOf_congr cs _ (fun c' hc' => h c' (List.mem_cons_of_mem _ hc'))

theorem recOf_set_comm : ∀ (cs : List Chn) (vs0 : List Value) (f : Nat) (u : Value), (∀ c ∈ cs, c.fld ≠ f) → recOf (vs0.set f u) cs d = (recOf vs0 cs d).set f u
  | [], _, _, _, _ => rfl
  | c :: cs, vs0, f, u, h => by
    show recOf (if (d c.si).isSome then (vs0.set f u).set c.fld (c.cur d) else vs0.set f u) cs d = (recOf (if (d c.si).isSome then vs0.set c.fld (c.cur d) else vs0) cs d).set f u
    split
    · rw [List.set_comm _ _ (h c List.mem_cons_self).symm, recOf_set_comm cs _ f u (fun c' hc' => h c' (List.mem_cons_of_mem _ hc'))]
    · exact recOf_set_comm cs _ f u (fun c' hc' => h c' (List.mem_cons_of_mem _ hc'))

theorem recOf_upd (hD : DistC cs) {c : Chn} (hc : c ∈ cs) (hs : d c.si = none) {u : Value} : recOf vs0 cs (upd d c.si u) = (recOf vs0 cs d).set c.fld (c.cur d) := by
  have key : ∀ (l : List Chn) (vs0 : List Value), c ∈ l → l.Nodup → (∀ x ∈ l, x ∈ cs) → recOf vs0 l (upd d c.si u) = (recOf vs0 l d).set c.fld (c.cur d) := by
    intro l
    induction l with
    | nil => intro _ h; cases h
    | cons x l ih =>
      intro vs0 hm hn hsub
      obtain ⟨h1, h2⟩ := List.nodup_cons.1 hn
      by_cases e : x = c
      · subst e
        show recOf (if (upd d x.si u x.si).isSome then vs0.set x.fld (x.cur (upd d x.si u)) else vs0) l _ = (recOf (if (d x.si).isSome then vs0.set x.fld (x.cur d) else vs0) l d).set x.fld (x.cur d)
        rw [upd_eq', hs]
        have hcur : x.cur (upd d x.si u) = x.cur d := by unfold Chn.cur; rw [upd_ne' (hD.own x hc).2.2]
        simp only [Option.isSome_some, Option.isSome_none, if_true, Bool.false_eq_true, if_false]
        rw [hcur, recOf_congr l _ (d := d) (d' := upd d x.si u) (fun y hy => by
          have hne : x ≠ y := fun e => h1 (e ▸ hy)
          obtain ⟨_, _, _, _, _, q6, q7⟩ := hD.apart x hc y (hsub y (List.mem_cons_of_mem _ hy)) hne
          obtain ⟨_, _, _, _, _, p6, _⟩ := hD.apart y (hsub y (List.mem_cons_of_mem _ hy)) x hc (fun e => hne e.symm)
          exact ⟨upd_ne' q7.symm, fun _ => upd_ne' p6⟩)]
        exact recOf_set_comm l _ _ _ (fun y hy => (hD.apart y (hsub y (List.mem_cons_of_mem _ hy)) x hc (fun e => h1 (e ▸ hy))).1)
      · have hcl : c ∈ l := by cases hm with | head => exact absurd rfl e | tail _ h => exact h
        obtain ⟨_, _, _, _, _, q6, q7⟩ := hD.apart x (hsub x List.mem_cons_self) c hc e
        have e1 : upd d c.si u x.si = d x.si := upd_ne' q7
        have e2 : x.cur (upd d c.si u) = x.cur d := by unfold Chn.cur; rw [upd_ne' q6]
        show recOf (if (upd d c.si u x.si).isSome then vs0.set x.fld (x.cur (upd d c.si u)) else vs0) l _ = (recOf (if (d x.si).isSome then vs0.set x.fld (x.cur d) else vs0) l d).set c.fld (c.cur d)
        rw [e1, e2]
        exact ih _ hcl h2 (fun y hy => hsub y (List.mem_cons_of_mem _ hy))
  exact key cs vs0 hc hD.nodup (fun _ h => h)

theorem recOf_get (hD : DistC cs) {c : Chn} (hc : c ∈ cs) (hs : d c.si = none) : (recOf vs0 cs d)[c.fld]? = vs0[c.fld]? := by
  have key : ∀ (l : List Chn) (vs0 : List Value), (∀ x ∈ l, x ∈ cs) → (recOf vs0 l d)[c.fld]? = vs0[c.fld]? := by
    intro l
    induction l with
    | nil => intro _ _; rfl
    | cons x l ih =>
      intro vs0 hl
      show (recOf (if (d x.si).isSome then vs0.set x.fld (x.cur d) else vs0) l d)[c.fld]? = _
      rw [ih _ (fun y hy => hl y (List.mem_cons_of_mem _ hy))]
      split
      · rename_i hx
        have : x ≠ c := fun e => by rw [e, hs] at hx; cases hx
        exact List.getElem?_set_ne (hD.apart x (hl x List.mem_cons_self) c hc this).1
      · rfl
  exact key cs vs0 (fun _ h => h)

/-- a change of one of the fields, at its turn -/
def parI (W : World) (O : Nat) (vs0 : List Value) (cs : List Chn) (R : Hp) (d : Done) (w : World) : Prop := parC W O vs0 cs R d w ∧ ∀ c ∈ cs, ((d c.si).isSome = true → (d c.ai).isSome = true) ∧ ((d c.ai).isSome = true → (d c.bi).isSome = true)

/-- the element is laid by -/
theorem parC.build (h : parC W O vs0 cs R d w) (hD : DistC cs) {c : Chn} (hc : c ∈ cs) (hb : d c.bi = none) (ha : d c.ai = none) (e : TypeId) : parC W O vs0 cs R (upd d c.bi (one w.heap.size)) (w.alloc (.cells #[c.x] e)) := by
  obtain ⟨q1, q2, q3⟩ := hD.own c hc
  obtain ⟨X, e1, e2'⟩ := big_one (p := Chn.hp d) hc hD.nodup
  have e2 := e2' (Chn.hp (upd d c.bi (one w.heap.size))) (fun x hx hne => by
    obtain ⟨_, p2, p3, _⟩ := hD.apart c hc x hx (fun e => hne e.symm)
    unfold Chn.hp; rw [upd_ne' p2.symm, upd_ne' p3.symm])
  unfold parC at h ⊢
  rw [e1] at h
  rw [e2, recOf_congr cs vs0 (d := d) (d' := upd d c.bi _) (fun x hx => by
    by_cases ex : c = x
    · subst ex; exact ⟨upd_ne' q2.symm, fun _ => upd_ne' q1.symm⟩
    · obtain ⟨_, p2, p3, p4, _⟩ := hD.apart c hc x hx ex
      exact ⟨upd_ne' p4.symm, fun _ => upd_ne' p3.symm⟩)]
  have g1 : Chn.hp d c = Hp.own FW 1 c.v c.xs := by unfold Chn.hp; rw [ha, hb]
  have g2 : Chn.hp (upd d c.bi (one w.heap.size)) c = Hp.own FW 1 c.v c.xs * laid (one w.heap.size) c.x := by unfold Chn.hp; rw [upd_ne' q1.symm, ha, upd_eq']
  rw [g1] at h
  rw [g2]
  have h1 : Sat W (w.alloc (.cells #[c.x] e)) (laid (one w.heap.size) c.x * (Hp.own FW 1 c.v c.xs * X * (Hp.rec_ O (recOf vs0 cs d) * R))) := (h.alloc #[c.x] e [c.x] rfl).mono fun m hm => ⟨_, rfl, hm⟩
  exact h1.cast (by ac_rfl)

/-- the field's slice has one more -/
theorem parC.push {P : Program} (h : parC W O vs0 cs R d w) (hD : DistC cs) {c : Chn} (hc : c ∈ cs) {u : Value} (hb : d c.bi = some u) (ha : d c.ai = none) (hsi : d c.si = none) {o : Oper} {a : Act} (s x : Operand) (t : TypeId)
    (ho : o.op = .call { callee := .builtin .append, args := #[s, x], argTypes := #[t, t] }) {e : TypeId} {z : Value} {bytes : Nat} (E : Elem P t e z 1 bytes) (hs : a.eval s = c.v) (hx : a.eval x = u) (h1 : c.x.oneCell' = true) (hxs : ∀ y ∈ c.xs, y.oneCell' = true)
    (hlen : (c.xs.length + 1) * bytes ≤ 140737488355328) (hm : c.xs.length + 1 ≤ 140737488355328) : EffAt P o a w fun v' w' => isSl v' (c.xs.length + 1) ∧ parC W O vs0 cs R (upd d c.ai v') w' := by
  obtain ⟨q1, q2, q3⟩ := hD.own c hc
  unfold parC at h
  have g1 : Chn.hp d c = Hp.own FW 1 c.v c.xs * laid u c.x := by unfold Chn.hp; rw [ha, hb]
  obtain ⟨X0, e0, e2'⟩ := big_one (p := Chn.hp d) hc hD.nodup
  rw [e0, g1] at h
  have h2 : Sat W w (laid u c.x * (Hp.own FW 1 c.v c.xs * (X0 * (Hp.rec_ O (recOf vs0 cs d) * R)))) := h.cast (by ac_rfl)
  obtain ⟨b, hub, h3⟩ : ∃ b, u = one b ∧ Sat W w (Hp.rec_ b [c.x] * (Hp.own FW 1 c.v c.xs * (X0 * (Hp.rec_ O (recOf vs0 cs d) * R)))) := by
    obtain ⟨hbl, m, hm, m1, m2, hd, rfl, ⟨b, e, p⟩, r⟩ := h2
    exact ⟨b, e, hbl, _, hm, m1, m2, hd, rfl, p, r⟩
  -- elements of one cell alone
  let f1 : Value → List Value := fun v => [if v.oneCell' then v else .bool false]
  have hf1 : ∀ y, y.oneCell' = true → f1 y = [y] := fun y hy => by simp only [f1, hy, if_true]
  have own1 : ∀ v xs, (∀ y ∈ xs, Value.oneCell' y = true) → Hp.own f1 1 v xs = Hp.own FW 1 v xs := fun v xs hy => by
    funext m
    unfold Hp.own Hp.blk
    have : ∀ off cap o, isRow f1 1 off cap xs o = isRow FW 1 off cap xs o := fun off cap o => by
      unfold isRow
      refine propext ⟨fun ⟨p1, p2⟩ => ⟨p1, fun j x hx => ?_⟩, fun ⟨p1, p2⟩ => ⟨p1, fun j x hx => ?_⟩⟩
      · have := p2 j x hx; rw [hf1 x (hy x (List.mem_of_getElem? hx))] at this; exact this
      · rw [hf1 x (hy x (List.mem_of_getElem? hx))]; exact p2 j x hx
    simp only [this]
  rw [← own1 c.v c.xs hxs] at h3
  have h4 : Sat W w (Hp.rec_ b (f1 c.x) * (Hp.own f1 1 c.v c.xs * (X0 * (Hp.rec_ O (recOf vs0 cs d) * R)))) := by rw [hf1 _ h1]; exact h3
  refine (EffAt.pushH s x t ho E f1 (fun _ => rfl) (fun y v hv => by simp only [f1, List.mem_singleton] at hv; subst hv; split; assumption; rfl) c.x b h4 hs (by rw [hx, hub]; rfl) hlen hm).mono ?_
  rintro v' w' ⟨k1, k2⟩
  refine ⟨k1, ?_⟩
  have e2 := e2' (Chn.hp (upd d c.ai v')) (fun x hx hne => by
    obtain ⟨_, _, _, _, p5, _⟩ := hD.apart c hc x hx (fun e => hne e.symm)
    obtain ⟨_, _, p3, _⟩ := hD.apart x hx c hc hne
    unfold Chn.hp; rw [upd_ne' p5.symm, upd_ne' p3])
  have hXX : Hp.big (Chn.hp (upd d c.ai v')) cs = Hp.own FW 1 v' (c.xs ++ [c.x]) * X0 := by
    rw [e2]; unfold Chn.hp; rw [upd_eq']
  unfold parC
  rw [hXX, recOf_congr cs vs0 (d := d) (d' := upd d c.ai v') (fun x hx => by
    by_cases ex : c = x
    · subst ex; exact ⟨upd_ne' (fun e => q3 e.symm), fun h => by rw [hsi] at h; cases h⟩
    · obtain ⟨_, _, _, _, p5, p6, _⟩ := hD.apart c hc x hx ex
      exact ⟨upd_ne' p6.symm, fun _ => upd_ne' p5.symm⟩)]
  rw [own1 v' (c.xs ++ [c.x]) (fun y hy => by
    rcases List.mem_append.1 hy with hy | hy
    · exact hxs y hy
    · simp at hy; subst hy; exact h1)] at k2
  exact k2.cast (Hp.mul_assoc _ _ _).symm

/-- the field is written -/
theorem parC.store (h : parC W O vs0 cs R d w) (hD : DistC cs) {c : Chn} (hc : c ∈ cs) {v' : Value} (ha : d c.ai = some v') (hs : d c.si = none) (u : Value) : parC W O vs0 cs R (upd d c.si u) (w.setCell ⟨O, c.fld, none⟩ v') := by
  obtain ⟨q1, q2, q3⟩ := hD.own c hc
  unfold parC at h ⊢
  have e : Hp.big (Chn.hp (upd d c.si u)) cs = Hp.big (Chn.hp d) cs := by
    have key : ∀ l : List Chn, (∀ x ∈ l, x ∈ cs) → Hp.big (Chn.hp (upd d c.si u)) l = Hp.big (Chn.hp d) l := fun l => by
      induction l with
      | nil => intro _; rfl
      | cons x l ih =>
        intro hl
        rw [Hp.big, Hp.big, ih (fun y hy => hl y (List.mem_cons_of_mem _ hy))]
        have : Chn.hp (upd d c.si u) x = Chn.hp d x := by
          by_cases ex : x = c
          · subst ex; unfold Chn.hp; rw [upd_ne' q3, upd_ne' q2]
          · obtain ⟨_, _, _, p4, _, p6, _⟩ := hD.apart x (hl x List.mem_cons_self) c hc ex
            unfold Chn.hp; rw [upd_ne' p6, upd_ne' p4]
        rw [this]
    exact key cs (fun _ h => h)
  have hcur : c.cur d = v' := by unfold Chn.cur; rw [ha]; rfl
  rw [e, recOf_upd hD hc hs, hcur]
  exact (h.sw.set c.fld v').sw

theorem parC.cells (h : parC W O vs0 cs R d w) : Rec w O (recOf vs0 cs d) := h.sw.rec_
theorem parC.rest (h : parC W O vs0 cs R d w) : ∃ X, Sat W w (R * X) := ⟨_, (show Sat W w (R * (Hp.big (Chn.hp d) cs * Hp.rec_ O (recOf vs0 cs d))) from Sat.cast h (by ac_rfl))⟩
theorem recOf_none : ∀ (cs : List Chn) (vs0 : List Value), recOf vs0 cs (fun _ => none) = vs0
  | [], _ => rfl
  | c :: cs, vs0 => recOf_none cs vs0
theorem parC.start (h : Sat W w (Hp.big (fun c : Chn => Hp.own FW 1 c.v c.xs) cs * (Hp.rec_ O vs0 * R))) : parC W O vs0 cs R (fun _ => none) w := by
  unfold parC
  rw [recOf_none]
  exact h
theorem recOf_all : ∀ (cs : List Chn) (vs0 : List Value), (∀ c ∈ cs, (d c.si).isSome = true) → recOf vs0 cs d = cs.foldl (fun l c => l.set c.fld (c.cur d)) vs0
  | [], _, _ => rfl
  | c :: cs, vs0, h => by
    show recOf (if (d c.si).isSome then vs0.set c.fld (c.cur d) else vs0) cs d = _
    rw [if_pos (h c List.mem_cons_self)]
    exact recOf_all cs _ (fun x hx => h x (List.mem_cons_of_mem _ hx))
theorem big_done : ∀ (cs : List Chn), (∀ c ∈ cs, (d c.ai).isSome = true) → Hp.big (Chn.hp d) cs = Hp.big (fun c => Hp.own FW 1 (c.cur d) (c.xs ++ [c.x])) cs
  | [], _ => rfl
  | c :: cs, h => by
    obtain ⟨v', hv⟩ := Option.isSome_iff_exists.1 (h c List.mem_cons_self)
    have e : Chn.hp d c = Hp.own FW 1 (c.cur d) (c.xs ++ [c.x]) := by unfold Chn.hp Chn.cur; rw [hv]; rfl
    rw [Hp.big, Hp.big, e, big_done cs (fun x hx => h x (List.mem_cons_of_mem _ hx))]
theorem parC.done (h : parC W O vs0 cs R d w) (ha : ∀ c ∈ cs, (d c.ai).isSome = true) (hs : ∀ c ∈ cs, (d c.si).isSome = true) :
    Sat W w (Hp.big (fun c => Hp.own FW 1 (c.cur d) (c.xs ++ [c.x])) cs * (Hp.rec_ O (cs.foldl (fun l c => l.set c.fld (c.cur d)) vs0) * R)) := by
  unfold parC at h
  rw [recOf_all cs vs0 hs, big_done cs ha] at h
  exact h

theorem parI.get (h : parI W O vs0 cs R d w) (hD : DistC cs) {c : Chn} (hc : c ∈ cs) (ha : d c.ai = none) {u : Value} (hu : vs0[c.fld]? = some u) : w.cell? ⟨O, c.fld, none⟩ = some u := by
  have hs : d c.si = none := by
    cases hs : d c.si with
    | none => rfl
    | some v => have := (h.2 c hc).1 (by rw [hs]; rfl); rw [ha] at this; cases this
  exact (h.1.cells.2 c.fld u (by rw [recOf_get hD hc hs]; exact hu)).1
theorem parI.start (h : Sat W w (Hp.big (fun c : Chn => Hp.own FW 1 c.v c.xs) cs * (Hp.rec_ O vs0 * R))) : parI W O vs0 cs R (fun _ => none) w := ⟨parC.start h, fun c _ => ⟨(fun h => by cases h), (fun h => by cases h)⟩⟩

theorem parI.build {P : Program} (h : parI W O vs0 cs R d w) (hD : DistC cs) {c : Chn} (hc : c ∈ cs) (hb : d c.bi = none) {o : Oper} {a : Act} {e : TypeId} (hrun : (execOp a.eval o).run P w = .ok (.value (one w.heap.size)) (w.alloc (.cells #[c.x] e))) :
    EffAt P o a w fun v w' => parI W O vs0 cs R (upd d c.bi v) w' := by
  have ha : d c.ai = none := by
    cases ha : d c.ai with
    | none => rfl
    | some v => have := (h.2 c hc).2 (by rw [ha]; rfl); rw [hb] at this; cases this
  obtain ⟨q1, q2, q3⟩ := hD.own c hc
  unfold EffAt
  rw [hrun]
  refine ⟨h.1.build hD hc hb ha e, fun x hx => ?_⟩
  by_cases ex : c = x
  · subst ex
    rw [upd_ne' q2.symm, upd_ne' q1.symm, upd_eq']
    exact ⟨(h.2 c hc).1, fun _ => rfl⟩
  · obtain ⟨_, p2, p3, p4, _⟩ := hD.apart c hc x hx ex
    rw [upd_ne' p4.symm, upd_ne' p3.symm, upd_ne' p2.symm]
    exact h.2 x hx
theorem parI.push {P : Program} (h : parI W O vs0 cs R d w) (hD : DistC cs) {c : Chn} (hc : c ∈ cs) {u : Value} (hb : d c.bi = some u) (ha : d c.ai = none) {o : Oper} {a : Act} (s x : Operand) (t : TypeId)
    (ho : o.op = .call { callee := .builtin .append, args := #[s, x], argTypes := #[t, t] }) {e : TypeId} {z : Value} {bytes : Nat} (E : Elem P t e z 1 bytes) (hs : a.eval s = c.v) (hx : a.eval x = u) (h1 : c.x.oneCell' = true) (hxs : ∀ y ∈ c.xs, y.oneCell' = true)
    (hlen : (c.xs.length + 1) * bytes ≤ 140737488355328) (hm : c.xs.length + 1 ≤ 140737488355328) : EffAt P o a w fun v w' => parI W O vs0 cs R (upd d c.ai v) w' := by
  have hsi : d c.si = none := by
    cases hs : d c.si with
    | none => rfl
    | some v => have := (h.2 c hc).1 (by rw [hs]; rfl); rw [ha] at this; cases this
  obtain ⟨q1, q2, q3⟩ := hD.own c hc
  refine (h.1.push hD hc hb ha hsi s x t ho E hs hx h1 hxs hlen hm).mono fun v' w' ⟨_, k⟩ => ⟨k, fun y hy => ?_⟩
  by_cases ey : c = y
  · subst ey
    rw [upd_ne' (fun e => q3 e.symm), upd_eq', upd_ne' q1, hb]
    exact ⟨fun _ => rfl, fun _ => rfl⟩
  · obtain ⟨_, p2, p3, p4, p5, p6, p7⟩ := hD.apart c hc y hy ey
    obtain ⟨_, r2, r3, r4, r5, r6, r7⟩ := hD.apart y hy c hc (fun e => ey e.symm)
    rw [upd_ne' p6.symm, upd_ne' p5.symm, upd_ne' r3]
    exact h.2 y hy
theorem parI.store {P : Program} (h : parI W O vs0 cs R d w) (hD : DistC cs) {c : Chn} (hc : c ∈ cs) {v' : Value} (ha : d c.ai = some v') (hs : d c.si = none) (hf : c.fld < vs0.length) {o : Oper} {a : Act}
    (hrun : (∃ al nl cl, v' = .slice al nl cl) → (w.cell? ⟨O, c.fld, none⟩).isSome = true → w.frozen? ⟨O, c.fld, none⟩ = false → (execOp a.eval o).run P w = .ok .skip (w.setCell ⟨O, c.fld, none⟩ v')) : EffAt P o a w fun v w' => parI W O vs0 cs R (upd d c.si v) w' := by
  obtain ⟨q1, q2, q3⟩ := hD.own c hc
  obtain ⟨X, e1, _⟩ := big_one (p := Chn.hp d) hc hD.nodup
  have hown : Sat W w (Hp.own FW 1 v' (c.xs ++ [c.x]) * (X * (Hp.rec_ O (recOf vs0 cs d) * R))) := by
    have := h.1
    unfold parC at this
    rw [e1] at this
    have e2 : Chn.hp d c = Hp.own FW 1 v' (c.xs ++ [c.x]) := by unfold Chn.hp; rw [ha]
    rw [e2] at this
    exact this.assoc
  obtain ⟨al, cl, hv, _⟩ := OwS.form hown.ows
  obtain ⟨y, hy⟩ := get_of_lt hf
  have hrc := h.1.cells.2 c.fld y (by rw [recOf_get hD hc hs]; exact hy)
  unfold EffAt
  rw [hrun ⟨al, _, cl, hv⟩ (by rw [hrc.1]; rfl) hrc.2]
  refine ⟨h.1.store hD hc ha hs undef, fun x hx => ?_⟩
  by_cases ex : c = x
  · subst ex
    rw [upd_eq', upd_ne' q3, upd_ne' q2, ha]
    exact ⟨fun _ => rfl, fun _ => (h.2 c hc).2 (by rw [ha]; rfl)⟩
  · obtain ⟨_, p2, p3, p4, p5, p6, p7⟩ := hD.apart c hc x hx ex
    obtain ⟨_, r2, r3, r4, r5, r6, r7⟩ := hD.apart x hx c hc (fun e => ex e.symm)
    rw [upd_ne' p7.symm, upd_ne' r6, upd_ne' r4]
    exact h.2 x hx
theorem parI.done (h : parI W O vs0 cs R d w) (hs : ∀ c ∈ cs, (d c.si).isSome = true) :
    Sat W w (Hp.big (fun c => Hp.own FW 1 (c.cur d) (c.xs ++ [c.x])) cs * (Hp.rec_ O (cs.foldl (fun l c => l.set c.fld (c.cur d)) vs0) * R)) := h.1.done (fun c hc => (h.2 c hc).1 (hs c hc)) hs
end

/-- the frame at an operation, by what it looks at -/
theorem EffAt.frame0 {P : Program} {ops : Array Oper} {o : Oper} {a : Act} {d : Done} {w : World} {R : Value → World → Prop} {l : List Nat} (h : l = []) (H : EffAt P o a w R) : EffAt P o (putL ops a d l) w R := by subst h; exact H
theorem EffAt.frame1 {P : Program} {ops : Array Oper} {o : Oper} {a : Act} {d : Done} {w : World} {R : Value → World → Prop} {l : List Nat} (j : Nat) {v : Value} {t : Tmp} (h : l = [j]) (hd : d j = some v) (ht : dstOf ops j = some t) (H : EffAt P o (a.put (some t) v) w R) : EffAt P o (putL ops a d l) w R := by
  subst h
  have : putL ops a d [j] = a.put (some t) v := by simp only [putL, hd, ht]
  rw [this]; exact H
theorem Done.some_of {d : Done} {j : Nat} (h : (d j).isSome = true) : ∃ v, d j = some v := Option.isSome_iff_exists.1 h

section
variable {W w : World} {O : Nat} {vs0 : List Value} {cs : List Chn} {R : Hp} {d : Done} {P : Program}
theorem parI.buildAt (h : parI W O vs0 cs R d w) (hD : DistC cs) {c : Chn} (hc : c ∈ cs) {i : Nat} (hi : c.bi = i) (hb : d i = none) {o : Oper} {a : Act} {e : TypeId} {x : Value} (hx : c.x = x) (hrun : (execOp a.eval o).run P w = .ok (.value (one w.heap.size)) (w.alloc (.cells #[x] e))) :
    EffAt P o a w fun v w' => parI W O vs0 cs R (upd d i v) w' := by subst hi; subst hx; exact h.build hD hc hb hrun
theorem parI.pushAt (h : parI W O vs0 cs R d w) (hD : DistC cs) {c : Chn} (hc : c ∈ cs) {i b : Nat} (hi : c.ai = i) (hbi : c.bi = b) {u : Value} (hb : d b = some u) (ha : d i = none) {o : Oper} {a : Act} (s x : Operand) (t : TypeId)
    (ho : o.op = .call { callee := .builtin .append, args := #[s, x], argTypes := #[t, t] }) {e : TypeId} {z : Value} {bytes : Nat} (E : Elem P t e z 1 bytes) (hs : a.eval s = c.v) (hx : a.eval x = u) (h1 : c.x.oneCell' = true) (hxs : ∀ y ∈ c.xs, y.oneCell' = true)
    (hlen : (c.xs.length + 1) * bytes ≤ 140737488355328) (hm : c.xs.length + 1 ≤ 140737488355328) : EffAt P o a w fun v w' => parI W O vs0 cs R (upd d i v) w' := by subst hi; subst hbi; exact h.push hD hc hb ha s x t ho E hs hx h1 hxs hlen hm
theorem parI.storeAt (h : parI W O vs0 cs R d w) (hD : DistC cs) {c : Chn} (hc : c ∈ cs) {i b f : Nat} (hi : c.si = i) (hbi : c.ai = b) (hf' : c.fld = f) {v' : Value} (ha : d b = some v') (hs : d i = none) (hf : f < vs0.length) {o : Oper} {a : Act}
    (hrun : (∃ al nl cl, v' = .slice al nl cl) → (w.cell? ⟨O, f, none⟩).isSome = true → w.frozen? ⟨O, f, none⟩ = false → (execOp a.eval o).run P w = .ok .skip (w.setCell ⟨O, f, none⟩ v')) : EffAt P o a w fun v w' => parI W O vs0 cs R (upd d i v) w' := by
  subst hi; subst hbi; subst hf'; exact h.store hD hc ha hs hf hrun
end

theorem Q_nil {P : Program} {ops : Array Oper} {Q : Exit → Act → World → Prop} {a : Act} {w : World} (h : wpList P ops Q [] a w) : Q .normal a w := h
end Go.Proofs.Ythpbdckiiljegaa
