/- A statement that leaves its order open, with several changes of the world that are none of each other's business: one obligation an operation, whatever has come ahead. Over any program. No condition. -/
import Derived.Test.YtcblkjjkpffjhaaDoorL2
namespace Go.Proofs.YtcblkjjkpffjhaaDoor

section
variable {P : Program} {ops : Array Oper} {md : Region.Mode}

abbrev Done := Nat → Option Value
def upd (d : Done) (i : Nat) (v : Value) : Done := fun j => if j = i then some v else d j
def dstOf (ops : Array Oper) (j : Nat) : Option Tmp := (ops[j]?).bind (·.dst)

/-- the frame behind what is done -/
def putL (ops : Array Oper) (a : Act) (d : Done) : List Nat → Act
  | [] => a
  | j :: l => match d j with
    | some v => (putL ops a d l).put (dstOf ops j) v
    | none => putL ops a d l

theorem putL_size (a : Act) (d : Done) : ∀ l, (putL ops a d l).tmps.size = a.tmps.size
  | [] => rfl
  | j :: l => by
    unfold putL
    split
    · unfold Act.put
      split
      · simp [putL_size a d l]
      · exact putL_size a d l
    · exact putL_size a d l

theorem eval_same {a b : Act} (h : a.tmps.size = b.tmps.size) (t : Tmp) (v : Value) : (a.put (some t) v).eval (.tmp t) = (b.put (some t) v).eval (.tmp t) := by
  simp only [Act.put, Act.eval, Array.getD_eq_getD_getElem?, Array.getElem?_setIfInBounds, h]
  by_cases e : t < b.tmps.size
  · simp [e]
  · simp [e]

theorem putL_none {a : Act} {d : Done} {t : Tmp} : ∀ l, (∀ j ∈ l, dstOf ops j = some t → d j = none) → (putL ops a d l).eval (.tmp t) = a.eval (.tmp t)
  | [], _ => rfl
  | j :: l, h => by
    have ih := putL_none (a := a) l (fun j' hj => h j' (List.mem_cons_of_mem _ hj))
    unfold putL
    split
    · rename_i v hv
      rw [Act.eval_put (fun u hu e => by
        cases e
        have := h j List.mem_cons_self hu
        rw [hv] at this; cases this)]
      exact ih
    · exact ih

theorem putL_some {a : Act} {d : Done} {t : Tmp} {p : Nat} {v : Value} (hp : dstOf ops p = some t) (hd : d p = some v) : ∀ l, p ∈ l → (∀ j ∈ l, dstOf ops j = some t → j = p) → (putL ops a d l).eval (.tmp t) = (a.put (some t) v).eval (.tmp t)
  | [], hm, _ => by cases hm
  | j :: l, hm, h => by
    unfold putL
    by_cases e : j = p
    · subst e
      simp only [hd, hp]
      exact eval_same (putL_size a d l) t v
    · have hl : p ∈ l := by cases hm with | head => exact absurd rfl e | tail _ h => exact h
      have ih := putL_some (a := a) hp hd l hl (fun j' hj => h j' (List.mem_cons_of_mem _ hj))
      split
      · rw [Act.eval_put (fun u hu e' => by
          cases e'
          exact e (h j List.mem_cons_self hu))]
        exact ih
      · exact ih

/-- no two operations lay into one slot -/
def Uniq (ops : Array Oper) : Prop := ∀ i j t, dstOf ops i = some t → dstOf ops j = some t → i = j

open Classical in
theorem putL_agree {a : Act} {d d' : Done} {l l' : List Nat} (hu : Uniq ops) {t : Tmp} (h : ∀ p, dstOf ops p = some t → (if p ∈ l then d p else none) = (if p ∈ l' then d' p else none)) :
    (putL ops a d l).eval (.tmp t) = (putL ops a d' l').eval (.tmp t) := by
  by_cases hex : ∃ p, dstOf ops p = some t
  · obtain ⟨p, hp⟩ := hex
    have key : ∀ (d : Done) (l : List Nat) (r : Option Value), (if p ∈ l then d p else none) = r → (putL ops a d l).eval (.tmp t) = match r with | some v => (a.put (some t) v).eval (.tmp t) | none => a.eval (.tmp t) := fun d l r hr => by
      cases r with
      | some v =>
        have hm : p ∈ l := by
          by_cases hm : p ∈ l
          · exact hm
          · rw [if_neg hm] at hr; cases hr
        rw [if_pos hm] at hr
        exact putL_some hp hr l hm (fun j _ hj => hu j p t hj hp)
      | none =>
        refine putL_none l fun j hj hjt => ?_
        have := hu j p t hjt hp
        subst this
        rw [if_pos hj] at hr; exact hr
    rw [key d l _ rfl, key d' l' _ (h p hp).symm]
  · rw [putL_none l (fun j _ hj => absurd ⟨j, hj⟩ hex), putL_none l' (fun j _ hj => absurd ⟨j, hj⟩ hex)]

theorem putL_upd_not {a : Act} {d : Done} {i : Nat} {v : Value} : ∀ l, i ∉ l → putL ops a (upd d i v) l = putL ops a d l
  | [], _ => rfl
  | j :: l, h => by
    have hj : j ≠ i := fun e => h (e ▸ List.mem_cons_self)
    unfold putL
    rw [putL_upd_not l (fun hm => h (List.mem_cons_of_mem _ hm))]
    simp only [upd, if_neg hj]

theorem putL_upd {a : Act} {d : Done} {i : Nat} {v : Value} (hu : Uniq ops) (hd : d i = none) : ∀ l, l.Nodup → i ∈ l → putL ops a (upd d i v) l = (putL ops a d l).put (dstOf ops i) v
  | [], _, hm => by cases hm
  | j :: l, hn, hm => by
    by_cases e : j = i
    · subst e
      unfold putL
      rw [putL_upd_not l (List.nodup_cons.1 hn).1]
      simp only [upd, if_true, hd]
    · have hl : i ∈ l := by cases hm with | head => exact absurd rfl e | tail _ h => exact h
      have ih := putL_upd (a := a) (v := v) hu hd l (List.nodup_cons.1 hn).2 hl
      unfold putL
      rw [ih]
      simp only [upd, if_neg e]
      split
      · rw [Act.put_comm _ _ _ (fun t ht hj => e (hu j i t hj ht))]
      · rfl

def ClosedD (md : Region.Mode) (ops : Array Oper) (d : Done) : Prop := ∀ j o, ops[j]? = some o → (d j).isSome = true → ∀ e ∈ o.after, Region.binds md e = true → (d e.on).isSome = true

theorem ClosedD.upd {d : Done} (h : ClosedD md ops d) {i : Nat} {o : Oper} (ho : ops[i]? = some o) (v : Value) (hp : ∀ e ∈ o.after, Region.binds md e = true → (d e.on).isSome = true) : ClosedD md ops (upd d i v) := by
  intro j oj hj hd e he hb
  have key : (d e.on).isSome = true → (YtcblkjjkpffjhaaDoor.upd d i v e.on).isSome = true := fun h => by
    unfold YtcblkjjkpffjhaaDoor.upd
    split
    · rfl
    · exact h
  by_cases hji : j = i
  · subst hji
    rw [ho] at hj; cases hj
    exact key (hp e he hb)
  · refine key (h j oj hj ?_ e he hb)
    simpa only [YtcblkjjkpffjhaaDoor.upd, if_neg hji] using hd

structure FreeInv (ops : Array Oper) (listed : Array Bool) (d : Done) : Prop where
  size : listed.size = ops.size
  iff : ∀ i, i < ops.size → listed.getD i false = (d i).isSome

theorem getD_lt {listed : Array Bool} {i : Nat} (h : i < listed.size) (x y : Bool) : listed.getD i x = listed.getD i y := by simp [Array.getD, h]

def left (ops : Array Oper) (listed : Array Bool) : Nat := ((List.range ops.size).filter fun i => !listed.getD i true).length

theorem wpAny_free {a : Act} {Q' : Exit → Act → World → Prop} (hback : ∀ i o, ops[i]? = some o → ∀ e ∈ o.after, Region.binds md e = true → e.on < i) (hu : Uniq ops) (C : Done → World → Prop)
    (hstep : ∀ i o, ops[i]? = some o → ∀ d w, C d w → ClosedD md ops d → d i = none → (∀ e ∈ o.after, Region.binds md e = true → (d e.on).isSome = true) → o.guard = none ∧ EffAt P o (putL ops a d (List.range ops.size)) w (fun v w' => C (upd d i v) w'))
    (hend : ∀ d w, C d w → (∀ i, i < ops.size → (d i).isSome = true) → Q' .normal (putL ops a d (List.range ops.size)) w) :
    ∀ f listed d w, FreeInv ops listed d → ClosedD md ops d → left ops listed ≤ f → C d w → wpAny P md ops Q' f listed (putL ops a d (List.range ops.size)) w := by
  have hall : ∀ listed d, FreeInv ops listed d → Region.ready md ops listed = [] → ∀ i, i < ops.size → (d i).isSome = true := fun listed d inv hr i => by
    induction i using Nat.strongRecOn with
    | ind i ih =>
      intro hi
      cases hd : (d i).isSome with
      | true => rfl
      | false =>
        exfalso
        have hm : i ∈ Region.ready md ops listed := by
          refine mem_ready.2 ⟨?_, ops[i], Array.getElem?_eq_getElem hi, fun e he hb => ?_⟩
          · rw [getD_lt (by rw [inv.size]; exact hi) true false, inv.iff i hi, hd]
          · have hlt := hback i _ (Array.getElem?_eq_getElem hi) e he hb
            rw [inv.iff _ (by omega)]
            exact ih _ hlt (by omega)
        rw [hr] at hm; cases hm
  intro f
  induction f with
  | zero =>
    intro listed d w inv hcl hl hc
    have hdone : Region.ready md ops listed = [] := by
      cases hr : Region.ready md ops listed with
      | nil => rfl
      | cons i l =>
        have hm : i ∈ Region.ready md ops listed := by rw [hr]; exact List.mem_cons_self
        obtain ⟨h1, o, ho, _⟩ := mem_ready.1 hm
        have hi := (Array.getElem?_eq_some_iff.1 ho).1
        have : i ∈ (List.range ops.size).filter fun i => !listed.getD i true := List.mem_filter.2 ⟨List.mem_range.2 hi, by rw [h1]; rfl⟩
        have := List.length_pos_of_mem this
        unfold left at hl
        omega
    exact ⟨hdone, hend d w hc (hall listed d inv hdone)⟩
  | succ f ih =>
    intro listed d w inv hcl hl hc
    refine ⟨fun hr => hend d w hc (hall listed d inv hr), fun i hi => ?_⟩
    obtain ⟨h1, o, ho, hp⟩ := mem_ready.1 hi
    have hi' := (Array.getElem?_eq_some_iff.1 ho).1
    have hdi : d i = none := by
      have := inv.iff i hi'
      rw [getD_lt (by rw [inv.size]; exact hi') false true, h1] at this
      cases hd : d i with
      | none => rfl
      | some v => rw [hd] at this; cases this
    have hpre : ∀ e ∈ o.after, Region.binds md e = true → (d e.on).isSome = true := fun e he hb => by
      have := hp e he hb
      have hlt := hback i o ho e he hb
      rw [inv.iff _ (by omega)] at this; exact this
    obtain ⟨hg, he⟩ := hstep i o ho d w hc hcl hdi hpre
    unfold wpOp
    simp only [ho]
    have hw : Region.wanted o (yielded ops (putL ops a d (List.range ops.size)).tmps) = true := by simp [Region.wanted, hg]
    rw [if_pos hw]
    refine .inl (he.wp fun v w' hc' => ?_)
    have hput : (putL ops a d (List.range ops.size)).put o.dst v = putL ops a (upd d i v) (List.range ops.size) := by
      rw [putL_upd hu hdi _ List.nodup_range (List.mem_range.2 hi')]
      unfold dstOf; rw [ho]; rfl
    rw [hput]
    refine ih _ _ _ ⟨by simp [inv.size], fun j hj => ?_⟩ (hcl.upd ho v hpre) ?_ hc'
    · by_cases e : i = j
      · subst e
        simp only [upd, if_true, Option.isSome_some]
        simp [Array.getD, inv.size, hi']
      · rw [getD_set_ne false e, inv.iff j hj]
        have e' : ¬ j = i := fun h => e h.symm
        simp only [upd, if_neg e']
    · have := length_filter_lt_of (p := fun j => !(listed.setIfInBounds i true).getD j true) (q := fun j => !listed.getD j true) (k := i) (List.range ops.size) (List.mem_range.2 hi') (by simp [Array.getD, inv.size, hi']) (by simp [h1]) (fun x _ hx => by
        by_cases e : i = x
        · subst e; simp [Array.getD, inv.size, hi'] at hx
        · rwa [getD_set_ne true e] at hx)
      unfold left at *
      omega

theorem putL_append (a : Act) (d : Done) : ∀ l l', putL ops a d (l ++ l') = putL ops (putL ops a d l') d l
  | [], _ => rfl
  | j :: l, l' => by
    rw [List.cons_append]
    conv => lhs; unfold putL
    conv => rhs; unfold putL
    rw [putL_append a d l l']

theorem putL_congr (a : Act) {d d' : Done} : ∀ l, (∀ j ∈ l, d j = d' j) → putL ops a d l = putL ops a d' l
  | [], _ => rfl
  | j :: l, h => by
    conv => lhs; unfold putL
    conv => rhs; unfold putL
    rw [h j List.mem_cons_self, putL_congr a l (fun k hk => h k (List.mem_cons_of_mem _ hk))]

theorem putL_perm (a : Act) (d : Done) (hu : Uniq ops) {l l' : List Nat} (h : l.Perm l') : putL ops a d l = putL ops a d l' := by
  induction h with
  | nil => rfl
  | cons x _ ih =>
    conv => lhs; unfold putL
    conv => rhs; unfold putL
    rw [ih]
  | swap x y l =>
    by_cases e : x = y
    · subst e; rfl
    · have hc : ∀ v u, ((putL ops a d l).put (dstOf ops x) v).put (dstOf ops y) u = ((putL ops a d l).put (dstOf ops y) u).put (dstOf ops x) v := fun v u => Act.put_comm _ _ _ (fun t ht hj => e (hu x y t ht hj))
      simp only [putL]
      cases hx : d x <;> cases hy : d y <;> simp only [hc]
  | trans _ _ h1 h2 => exact h1.trans h2

/-- the walk, in the text's order, of the operations that only read -/
def pWalk (P : Program) (ops : Array Oper) (D : Nat → World → Prop) (T : Act → Prop) : List Nat → Act → Prop
  | [], a => T a
  | i :: l, a => match ops[i]? with
    | none => False
    | some o => ∃ v, (∀ w, D i w → EffAt P o a w fun u w' => u = v ∧ w' = w) ∧ pWalk P ops D T l (a.put o.dst v)

theorem pWalk_val {D : Nat → World → Prop} {T : Act → Prop} {i : Nat} {l : List Nat} {a : Act} {o : Oper} (Dc : World → Prop) (hDc : ∀ w, D i w → Dc w) (ho : ops[i]? = some o) (hno : valued o.op = true)
    (h : ∀ K : Act → Prop, (∀ a, pWalk P ops D T l a → K a) → o.quiet P a Dc K) : pWalk P ops D T (i :: l) a := by
  obtain ⟨v, h1, h2⟩ := h _ (fun _ h => h)
  unfold pWalk
  simp only [ho]
  refine ⟨v, fun w hc => ?_, h2⟩
  have h3 := h1 w (hDc w hc)
  unfold Oper.quietAt at h3
  unfold EffAt
  have hn := noEnter (P := P) hno a.eval w
  generalize (execOp a.eval o).run P w = r at *
  cases r with
  | ok n w' =>
    cases n <;> simp only [Oper.quietUpon] at h3 <;> simp only [EffUpon]
    case value u => obtain ⟨e1, e2⟩ := h3; subst e1; exact ⟨e2, rfl⟩
    case skip => obtain ⟨e1, e2⟩ := h3; subst e1; exact ⟨e2.symm, rfl⟩
    case enter f args => exact absurd rfl (hn w' f args)
  | halt x w' => simp only [Oper.quietUpon] at h3

theorem pWalk_spec {D : Nat → World → Prop} {T : Act → Prop} : ∀ (l : List Nat) (a : Act), l.Nodup → pWalk P ops D T l a → ∃ pv : Done, (∀ i ∈ l, (pv i).isSome = true) ∧ T (putL ops a pv l.reverse) ∧
    ∀ l1 i l2, l = l1 ++ i :: l2 → ∀ o, ops[i]? = some o → ∀ v, pv i = some v → ∀ w, D i w → EffAt P o (putL ops a pv l1.reverse) w fun u w' => u = v ∧ w' = w
  | [], a, _, h => ⟨fun _ => none, fun i hi => (by cases hi), h, fun l1 i l2 e => (by cases l1 <;> cases e)⟩
  | i :: l, a, hn, h => by
    unfold pWalk at h
    cases ho : ops[i]? with
    | none => simp only [ho] at h
    | some o =>
      simp only [ho] at h
      obtain ⟨v, hv, hw⟩ := h
      obtain ⟨hil, hn'⟩ := List.nodup_cons.1 hn
      obtain ⟨pv, h1, h2, h3⟩ := pWalk_spec l _ hn' hw
      have hd : dstOf ops i = o.dst := by unfold dstOf; rw [ho]; rfl
      have hput : ∀ l1 : List Nat, i ∉ l1 → putL ops a (upd pv i v) (l1.reverse ++ [i]) = putL ops (a.put o.dst v) pv l1.reverse := fun l1 hl1 => by
        rw [putL_append]
        have e1 : putL ops a (upd pv i v) [i] = a.put o.dst v := by simp [putL, upd, hd]
        rw [e1]
        exact putL_congr _ _ fun j hj => by
          have : j ≠ i := fun e => hl1 (e ▸ List.mem_reverse.1 hj)
          simp only [upd, if_neg this]
      refine ⟨upd pv i v, fun j hj => ?_, ?_, fun l1 k l2 e o' ho' u hu w hD => ?_⟩
      · by_cases e : j = i
        · simp [upd, e]
        · simp only [upd, if_neg e]
          exact h1 j (by cases hj with | head => exact absurd rfl e | tail _ h => exact h)
      · rw [List.reverse_cons, hput l hil]; exact h2
      · cases l1 with
        | nil =>
          cases e
          rw [ho] at ho'; cases ho'
          simp [upd] at hu; subst hu
          exact hv w hD
        | cons x l1 =>
          cases e
          have hk : k ≠ i := fun e => hil (by rw [← e]; simp)
          simp only [upd, if_neg hk] at hu
          rw [List.reverse_cons, hput l1 (fun hm => hil (List.mem_append_left _ hm))]
          exact h3 l1 k l2 rfl o' ho' u hu w hD

def needs (ops : Array Oper) (o : Oper) (j : Nat) : Bool := match dstOf ops j with
  | some t => (o.looksAt ops).contains t
  | none => false

def isSelect : Op → Bool
  | .select .. => true
  | _ => false

/-- what the kernel sees to -/
def regF (md : Region.Mode) (ops : Array Oper) (el : List Nat) : Bool :=
  ((List.range ops.size).all fun i => match ops[i]? with
    | none => true
    | some o => o.guard.isNone && !isSelect o.op && (o.after.all fun e => !Region.binds md e || decide (e.on < i)) &&
        (List.range ops.size).all fun j => !needs ops o j || ((o.after.any fun e => Region.binds md e && decide (e.on = j)) && (el.contains i || !el.contains j))) &&
  ((List.range ops.size).all fun i => (List.range ops.size).all fun j => decide (i = j) || (dstOf ops i).isNone || (dstOf ops i != dstOf ops j)) &&
  decide (el = (List.range ops.size).filter fun i => el.contains i)

theorem dstOf_lt {i : Nat} {t : Tmp} (h : dstOf ops i = some t) : i < ops.size := by
  unfold dstOf at h
  cases ho : ops[i]? with
  | none => rw [ho] at h; cases h
  | some o => exact (Array.getElem?_eq_some_iff.1 ho).1

theorem needs_of {o : Oper} {x : Operand} (hx : x ∈ o.op.operands) {t : Tmp} (e : x = .tmp t) {p : Nat} (hp : dstOf ops p = some t) : needs ops o p = true := by
  unfold needs
  rw [hp]
  simp only [List.contains_iff_mem]
  exact List.mem_append_left _ (List.mem_filterMap.2 ⟨x, by simpa using hx, by subst e; rfl⟩)

theorem EffAt.congr {o : Oper} {a b : Act} {w : World} {R : Value → World → Prop} (h : EffAt P o a w R) (he : execOp b.eval o = execOp a.eval o) : EffAt P o b w R := by
  unfold EffAt at *
  rw [he]; exact h

open Classical in
/-- A STATEMENT WITH SEVERAL CHANGES, IN WHATEVER ORDER. -/
theorem wp_region_free {id : Nat} {Q : Exit → Act → World → Prop} {a : Act} {w : World} {l : List Oper} (el : List Nat) (D : Nat → World → Prop) (C : Done → World → Prop) (hm : P.follows .mixedOrders = true) (hB : regF .any l.toArray el = true)
    (hC0 : C (fun _ => none) { w with drawn := w.drawn + 1 }) (hCD : ∀ i d w, C d w → (∀ s ∈ el, (match l.toArray[s]? with | some o => o.after.any fun e => Region.binds .any e && decide (e.on = i) | none => false) = true → d s = none) → D i w)
    (h : pWalk P l.toArray D (fun a1 =>
      (∀ i ∈ el, ∀ o, l.toArray[i]? = some o → ∀ d w, C d w → d i = none → (∀ e ∈ o.after, Region.binds .any e = true → e.on ∈ el → (d e.on).isSome = true) → EffAt P o (putL l.toArray a1 d (el.filter (needs l.toArray o))) w fun v w' => C (upd d i v) w') ∧
      (∀ d w, C d w → (∀ i ∈ el, (d i).isSome = true) → Q .normal (putL l.toArray a1 d el) w)) ((List.range l.toArray.size).filter fun i => !el.contains i) a) : (Code.region id l.toArray true).wp P Q a w := by
  generalize l.toArray = ops at *
  simp only [regF, Bool.and_eq_true, decide_eq_true_eq] at hB
  obtain ⟨⟨hall, huq⟩, hel⟩ := hB
  have hops : ∀ (i : Nat) (o : Oper), ops[i]? = some o → o.guard = none ∧ isSelect o.op = false ∧ (∀ e ∈ o.after, Region.binds .any e = true → e.on < i) ∧ ∀ j, needs ops o j = true → (∃ e ∈ o.after, Region.binds .any e = true ∧ e.on = j) ∧ (i ∈ el ∨ j ∉ el) := fun i o ho => by
    have hi := (Array.getElem?_eq_some_iff.1 ho).1
    have := List.all_eq_true.1 hall i (List.mem_range.2 hi)
    simp only [ho, Bool.and_eq_true, Bool.not_eq_true', Option.isNone_iff_eq_none] at this
    obtain ⟨⟨⟨h1, h2⟩, h3⟩, h4⟩ := this
    refine ⟨h1, h2, fun e he hb => ?_, fun j hj => ?_⟩
    · have := Array.all_eq_true_iff_forall_mem.1 h3 e he
      simpa [hb] using this
    · have hjl : j < ops.size := by
        unfold needs at hj
        split at hj
        · rename_i t ht; exact dstOf_lt ht
        · cases hj
      have := List.all_eq_true.1 h4 j (List.mem_range.2 hjl)
      simp only [hj, Bool.not_true, Bool.false_or, Bool.and_eq_true, Bool.or_eq_true, Bool.not_eq_true'] at this
      obtain ⟨h5, h6⟩ := this
      have h5' : ∃ e ∈ o.after, Region.binds .any e = true ∧ e.on = j := by
        have h6 : ∃ (k : Nat) (hk : k < o.after.size), Region.binds .any o.after[k] = true ∧ o.after[k].on = j := by simpa using h5
        obtain ⟨k, hk, h7⟩ := h6
        exact ⟨_, Array.getElem_mem hk, h7⟩
      refine ⟨h5', ?_⟩
      rcases h6 with h6 | h6
      · exact .inl (by simpa using h6)
      · exact .inr (by simpa using h6)
  have hu : Uniq ops := fun i j t hi hj => by
    have := List.all_eq_true.1 (List.all_eq_true.1 huq i (List.mem_range.2 (dstOf_lt hi))) j (List.mem_range.2 (dstOf_lt hj))
    simpa [hi, hj] using this
  have hsel : ∀ (i : Nat) (o : Oper), ops[i]? = some o → ∀ cs b, o.op ≠ .select cs b := fun i o ho cs b e => by
    have := (hops i o ho).2.1
    rw [e] at this; cases this
  have hels : ∀ i ∈ el, i < ops.size := fun i hi => by
    rw [hel] at hi
    exact List.mem_range.1 (List.mem_filter.1 hi).1
  obtain ⟨pl, hpl⟩ : ∃ pl, pl = (List.range ops.size).filter fun i => !el.contains i := ⟨_, rfl⟩
  rw [← hpl] at h
  have hmem : ∀ i, i ∈ pl ↔ i < ops.size ∧ i ∉ el := fun i => by
    rw [hpl, List.mem_filter, List.mem_range]; simp
  have hpn : pl.Nodup := by rw [hpl]; exact List.nodup_range.sublist (List.filter_sublist)
  have hps : pl.Pairwise (· < ·) := by rw [hpl]; exact (List.pairwise_lt_range).sublist (List.filter_sublist)
  obtain ⟨pv, h1, ⟨h2, h3⟩, h4⟩ := pWalk_spec pl a hpn h
  refine wp_region_any hm ?_
  have start : a = putL ops a (fun _ => none) (List.range ops.size) := by
    have : ∀ l : List Nat, putL ops a (fun _ => none) l = a := fun l => by
      induction l with
      | nil => rfl
      | cons x l ih => simp only [putL]; exact ih
    exact (this _).symm
  rw [start]
  have mask_upd_in : ∀ (d : Done) i v, i ∈ el → (fun j => if j ∈ el then upd d i v j else none) = upd (fun j => if j ∈ el then d j else none) i v := fun d i v hi => by
    funext j
    by_cases e : j = i
    · subst e; simp [upd, hi]
    · simp [upd, e]
  have mask_upd_out : ∀ (d : Done) i v, i ∉ el → (fun j => if j ∈ el then upd d i v j else none) = (fun j => if j ∈ el then d j else none) := fun d i v hi => by
    funext j
    by_cases e : j ∈ el
    · have : j ≠ i := fun h => hi (h ▸ e)
      simp [upd, e, this]
    · simp [e]
  refine wpAny_free (md := .any) (fun i o ho => (hops i o ho).2.2.1) hu (fun d w => (∀ i, i ∉ el → d i = none ∨ d i = pv i) ∧ C (fun j => if j ∈ el then d j else none) w) ?_ ?_ _ _ _ _ ⟨by simp, fun i hi => by simp [Array.getD, hi]⟩ (fun j o _ h => by cases h) ?_ ⟨fun i _ => .inl rfl, by simpa using hC0⟩
  · rintro i o ho d w ⟨hd, hc⟩ hcl hdi hpre
    have hi := (Array.getElem?_eq_some_iff.1 ho).1
    obtain ⟨hg, _, hb, hnd⟩ := hops i o ho
    refine ⟨hg, ?_⟩
    have hbase : ∀ p t x, x ∈ o.op.operands → x = Operand.tmp t → dstOf ops p = some t → (d p).isSome = true ∧ p < i ∧ (i ∈ el ∨ p ∉ el) := fun p t x hx hxt hp => by
      obtain ⟨⟨e, he, hbe, hep⟩, hor⟩ := hnd p (needs_of hx hxt hp)
      refine ⟨?_, ?_, hor⟩
      · have := hpre e he hbe; rwa [hep] at this
      · have := hb e he hbe; omega
    by_cases hie : i ∈ el
    · -- a change
      have hch := h2 i hie o ho (fun j => if j ∈ el then d j else none) w hc (by simp [hie, hdi]) (fun e he hbe hee => by simp only [hee, if_true]; exact hpre e he hbe)
      have hD2 : putL ops (putL ops a pv pl.reverse) (fun j => if j ∈ el then d j else none) (el.filter (needs ops o)) = putL ops a (fun j => if j ∈ el then d j else pv j) (el.filter (needs ops o) ++ pl.reverse) := by
        rw [putL_append]
        rw [putL_congr a pl.reverse (d := fun j => if j ∈ el then d j else pv j) (d' := pv) (fun j hj => by
          have := ((hmem j).1 (List.mem_reverse.1 hj)).2
          simp [this])]
        exact putL_congr _ _ fun j hj => by
          have := (List.mem_filter.1 hj).1
          simp [this]
      refine (hch.congr (execOp_congr o (hsel i o ho) fun x hx => ?_)).mono fun v w' hc' => ⟨fun j hj => ?_, by rw [mask_upd_in d i v hie]; exact hc'⟩
      · rw [hD2]
        cases x with
        | tmp t =>
          refine putL_agree hu fun p hp => ?_
          obtain ⟨q1, q2, q3⟩ := hbase p t _ hx rfl hp
          rw [if_pos (List.mem_range.2 (dstOf_lt hp))]
          by_cases hpe : p ∈ el
          · rw [if_pos (List.mem_append_left _ (List.mem_filter.2 ⟨hpe, needs_of hx rfl hp⟩))]
            simp [hpe]
          · rw [if_pos (List.mem_append_right _ (List.mem_reverse.2 ((hmem p).2 ⟨dstOf_lt hp, hpe⟩)))]
            simp only [hpe, if_false]
            rcases hd p hpe with h0 | h0
            · rw [h0] at q1; cases q1
            · exact h0
        | _ => rfl
      · have hne : j ≠ i := fun e => hj (e ▸ hie)
        simp only [upd, if_neg hne]
        exact hd j hj
    · -- it only reads
      have hip : i ∈ pl := (hmem i).2 ⟨hi, hie⟩
      obtain ⟨v, hv⟩ := Option.isSome_iff_exists.1 (h1 i hip)
      obtain ⟨l1, l2, hl⟩ := List.append_of_mem hip
      have hq := h4 l1 i l2 hl o ho v hv w (hCD i _ _ hc fun s hs hdep => by
        simp only [hs, if_true]
        cases hds : d s with
        | none => rfl
        | some u =>
          exfalso
          cases hos : ops[s]? with
          | none => simp only [hos] at hdep; cases hdep
          | some os =>
            simp only [hos] at hdep
            have h6 : ∃ (k : Nat) (hk : k < os.after.size), Region.binds .any os.after[k] = true ∧ os.after[k].on = i := by simpa using hdep
            obtain ⟨k, hk, hb, hon⟩ := h6
            have := hcl s os hos (by rw [hds]; rfl) _ (Array.getElem_mem hk) hb
            rw [hon, hdi] at this; cases this)
      refine (hq.congr (execOp_congr o (hsel i o ho) fun x hx => ?_)).mono fun u w' hc' => ?_
      · cases x with
        | tmp t =>
          refine putL_agree hu fun p hp => ?_
          obtain ⟨q1, q2, q3⟩ := hbase p t _ hx rfl hp
          rw [if_pos (List.mem_range.2 (dstOf_lt hp))]
          have hpe : p ∉ el := q3.resolve_left hie
          have hpp : p ∈ l1 := by
            have hm := (hmem p).2 ⟨dstOf_lt hp, hpe⟩
            rw [hl] at hm hps
            rcases List.mem_append.1 hm with hm | hm
            · exact hm
            · rcases List.mem_cons.1 hm with hm | hm
              · omega
              · have := List.rel_of_pairwise_cons (List.pairwise_append.1 hps).2.1 hm
                omega
          rw [if_pos (List.mem_reverse.2 hpp)]
          rcases hd p hpe with h0 | h0
          · rw [h0] at q1; cases q1
          · exact h0
        | _ => rfl
      · obtain ⟨rfl, rfl⟩ := hc'
        refine ⟨fun j hj => ?_, by rw [mask_upd_out d i _ hie]; exact hc⟩
        by_cases e : j = i
        · subst e; right; simp [upd, hv]
        · simp only [upd, if_neg e]; exact hd j hj
  · rintro d w ⟨hd, hc⟩ hdone
    have hperm : (el ++ pl.reverse).Perm (List.range ops.size) := by
      refine ((List.Perm.refl el).append (List.reverse_perm pl)).trans ?_
      have := List.filter_append_perm (fun i => el.contains i) (List.range ops.size)
      rw [← hel, ← hpl] at this
      exact this
    have := h3 (fun j => if j ∈ el then d j else none) w hc (fun i hi => by simp only [hi, if_true]; exact hdone i (hels i hi))
    have he : putL ops a d (List.range ops.size) = putL ops (putL ops a pv pl.reverse) (fun j => if j ∈ el then d j else none) el := by
      rw [← putL_perm a d hu hperm, putL_append, putL_congr a pl.reverse (d := d) (d' := pv) (fun j hj => by
        have hj' := (hmem j).1 (List.mem_reverse.1 hj)
        rcases hd j hj'.2 with h0 | h0
        · have := hdone j hj'.1; rw [h0] at this; cases this
        · exact h0)]
      exact putL_congr _ _ fun j hj => by simp [hj]
    rw [he]; exact this
  · unfold left
    exact Nat.le_trans (List.length_filter_le _ _) (by simp)
end
end Go.Proofs.YtcblkjjkpffjhaaDoor
