/- A statement that leaves its order open, walked once: quiet operations in one order that is given, operations that change the world alone where nothing else can come up, then a tail in a forced order. Over any program. No condition. -/
import Derived.StillTail
import Derived.Deep.Quiet
import Derived.Below
import Derived.Tactics
namespace Go.Proofs.YtcblkjjkpffjhaaDoor

section
variable {P : Program} {ops : Array Oper} {md : Region.Mode} {eff : Nat → Bool} {C : List Value → World → Prop}

/-- what an operation yields, and what it leaves -/
def EffUpon (P : Program) (R : Value → World → Prop) : Result Next → Prop
  | .ok (.value v) w' => R v w'
  | .ok .skip w' => R undef w'
  | .ok (.enter f args) w' => Calls P f args w' fun e w'' => ∃ v, e = .returned v ∧ R v w''
  | _ => False
def EffAt (P : Program) (o : Oper) (a : Act) (w : World) (R : Value → World → Prop) : Prop := EffUpon P R ((execOp a.eval o).run P w)

theorem EffAt.mono {o : Oper} {a : Act} {w : World} {R R' : Value → World → Prop} (h : EffAt P o a w R) (hr : ∀ v w', R v w' → R' v w') : EffAt P o a w R' := by
  unfold EffAt at *
  generalize (execOp a.eval o).run P w = r at *
  cases r with
  | ok n w' =>
    cases n <;> simp only [EffUpon] at h ⊢
    case value u => exact hr _ _ h
    case skip => exact hr _ _ h
    case enter f args => exact h.mono fun e w'' ⟨v, he, hv⟩ => ⟨v, he, hr _ _ hv⟩
  | halt x w' => simp only [EffUpon] at h

theorem EffAt.wp {o : Oper} {a : Act} {w : World} {R : Value → World → Prop} {K : Act → World → Prop} {Q : Exit → Act → World → Prop} (h : EffAt P o a w R) (hr : ∀ v w', R v w' → K (a.put o.dst v) w') : o.wp P a w K Q := by
  unfold EffAt at h
  unfold Oper.wp
  generalize (execOp a.eval o).run P w = r at *
  cases r with
  | ok n w' =>
    cases n <;> simp only [EffUpon] at h <;> simp only [Oper.upon]
    case value u => exact hr _ _ h
    case skip => exact hr _ _ h
    case enter f args => exact h.mono fun e w'' ⟨v, he, hv⟩ => by subst he; exact hr _ _ hv
  | halt x w' => simp only [EffUpon] at h

/-- the op i comes up in state a, behind the changes vs -/
def kOp (P : Program) (ops : Array Oper) (eff : Nat → Bool) (C : List Value → World → Prop) (i : Nat) (vs : List Value) (K : List Value → Act → Prop) (a : Act) : Prop :=
  match ops[i]? with
  | none => False
  | some o =>
    if Region.wanted o (yielded ops a.tmps) then
      if eff i then ∃ R : Value → Prop, (∀ w, C vs w → EffAt P o a w fun v w' => R v ∧ C (vs ++ [v]) w') ∧ ∀ v, R v → K (vs ++ [v]) (a.put o.dst v)
      else ∃ v, (∀ w, C vs w → EffAt P o a w fun u w' => u = v ∧ C vs w') ∧ K vs (a.put o.dst v)
    else K vs (a.put o.dst undef)

theorem kOp_mono {i : Nat} {vs : List Value} {a : Act} {K K' : List Value → Act → Prop} (h : ∀ us a, K us a → K' us a) (hh : kOp P ops eff C i vs K a) : kOp P ops eff C i vs K' a := by
  unfold kOp at *
  split
  · rename_i ho; simp only [ho] at hh
  · rename_i o ho
    simp only [ho] at hh
    split
    · rename_i hw
      simp only [hw, if_true] at hh
      split
      · rename_i he; simp only [he, if_true] at hh; obtain ⟨R, h1, h2⟩ := hh; exact ⟨R, h1, fun v hv => h _ _ (h2 v hv)⟩
      · rename_i he; simp only [he] at hh; obtain ⟨v, h1, h2⟩ := hh; exact ⟨v, h1, h _ _ h2⟩
    · rename_i hw; simp only [hw] at hh; exact h _ _ hh

/-- how many changes are listed -/
def nEff (eff : Nat → Bool) (listed : Array Bool) (m : Nat) : Nat := ((List.range m).filter fun j => eff j && listed.getD j false).length
/-- how many changes may come ahead of i -/
def hiOf (md : Region.Mode) (ops : Array Oper) (eff : Nat → Bool) (i : Nat) : Nat := ((List.range ops.size).filter fun j => eff j && !Region.waitsFor md ops j i).length

structure KInv (md : Region.Mode) (ops : Array Oper) (eff : Nat → Bool) (n : Nat) (listed : Array Bool) (vs : List Value) : Prop where
  head : HeadInv md ops n listed
  len : vs.length ≤ nEff eff listed ops.size

theorem length_filter_le_of {p q : Nat → Bool} : ∀ (l : List Nat), (∀ x ∈ l, p x = true → q x = true) → (l.filter p).length ≤ (l.filter q).length
  | [], _ => Nat.le_refl _
  | x :: l, h => by
    have ih := length_filter_le_of l (fun y hy => h y (List.mem_cons_of_mem _ hy))
    have hx := h x List.mem_cons_self
    cases hp : p x <;> cases hq : q x <;> simp [hp, hq, ih] at hx ⊢
    omega

theorem length_filter_lt_of {p q : Nat → Bool} {k : Nat} : ∀ (l : List Nat), k ∈ l → p k = false → q k = true → (∀ x ∈ l, p x = true → q x = true) → (l.filter p).length + 1 ≤ (l.filter q).length
  | [], hk, _, _, _ => by cases hk
  | x :: l, hk, hpk, hqk, h => by
    have hl := length_filter_le_of l (fun y hy => h y (List.mem_cons_of_mem _ hy))
    have hx := h x List.mem_cons_self
    by_cases hxk : x = k
    · subst hxk; simp [hpk, hqk, hl]
    · have hkl : k ∈ l := by cases hk with | head => exact absurd rfl hxk | tail _ h => exact h
      have ih := length_filter_lt_of l hkl hpk hqk (fun y hy => h y (List.mem_cons_of_mem _ hy))
      cases hp : p x <;> cases hq : q x <;> simp [hp, hq] at hx ⊢ <;> omega

theorem nEff_le_hi {n i : Nat} {listed : Array Bool} {vs : List Value} (inv : KInv md ops eff n listed vs) (hun : listed.getD i false = false) : vs.length ≤ hiOf md ops eff i := by
  refine Nat.le_trans inv.len (length_filter_le_of _ fun j hj hp => ?_)
  simp only [Bool.and_eq_true] at hp
  simp only [hp.1, Bool.true_and, Bool.not_eq_true']
  cases hw : Region.waitsFor md ops j i with
  | false => rfl
  | true =>
    obtain ⟨oj, hoj, e, he, hb, hon⟩ := Region.waitsFor_spec hw
    have := inv.head.closed j oj hoj hp.2 e he hb
    rw [hon, hun] at this
    cases this

theorem KInv.set {n i : Nat} {listed : Array Bool} {vs us : List Value} (inv : KInv md ops eff n listed vs) (hi : i ∈ Region.ready md ops listed) (hin : i < n)
    (hus : us.length ≤ vs.length + (if eff i then 1 else 0)) : KInv md ops eff n (listed.setIfInBounds i true) us := by
  refine ⟨inv.head.set hi hin, ?_⟩
  have hun : listed.getD i true = false := (mem_ready.1 hi).1
  have hlt : i < listed.size := by
    rcases Nat.lt_or_ge i listed.size with h' | h'
    · exact h'
    · simp [Array.getElem?_eq_none h'] at hun
  have hsz := inv.head.size
  have keep : ∀ x, (eff x && listed.getD x false) = true → (eff x && (listed.setIfInBounds i true).getD x false) = true := fun x hx => by
    simp only [Bool.and_eq_true] at hx ⊢
    exact ⟨hx.1, getD_set_true hx.2⟩
  by_cases he : eff i = true
  · simp only [he, if_true] at hus
    have := length_filter_lt_of (p := fun j => eff j && listed.getD j false) (q := fun j => eff j && (listed.setIfInBounds i true).getD j false) (k := i) (List.range ops.size) (List.mem_range.2 (by omega)) (by simp [getD_both hun]) (by simp [he, hlt]) (fun x _ hx => keep x hx)
    have h2 := inv.len
    unfold nEff at *
    omega
  · simp only [he, Bool.false_eq_true, if_false] at hus
    have := length_filter_le_of (p := fun j => eff j && listed.getD j false) (q := fun j => eff j && (listed.setIfInBounds i true).getD j false) (List.range ops.size) (fun x _ hx => keep x hx)
    have h2 := inv.len
    unfold nEff at *
    omega

/-- whatever order is picked from here on, f operations of the head -/
def wpAnyK (P : Program) (md : Region.Mode) (ops : Array Oper) (eff : Nat → Bool) (C : List Value → World → Prop) (n : Nat) (L : Array Bool → List Value → Act → Prop) : Nat → Array Bool → List Value → Act → Prop
  | 0, listed, vs, a => L listed vs a
  | f + 1, listed, vs, a =>
    Region.ready md ops listed ≠ [] ∧ ∀ i ∈ Region.ready md ops listed, i < n ∧ kOp P ops eff C i vs (wpAnyK P md ops eff C n L f (listed.setIfInBounds i true)) a

theorem wpOp_of_kOp {i : Nat} {vs : List Value} {a : Act} {K : List Value → Act → Prop} {K' : Act → World → Prop} {Q' : Exit → Act → World → Prop} {w : World} (hC : C vs w) (h : ∀ us a w', C us w' → K us a → K' a w') (hh : kOp P ops eff C i vs K a) : wpOp P ops Q' i K' a w := by
  unfold kOp at hh
  unfold wpOp
  split
  · rename_i ho; simp only [ho] at hh
  · rename_i o ho
    simp only [ho] at hh
    split
    · rename_i hw
      simp only [hw, if_true] at hh
      refine .inl ?_
      split at hh
      · obtain ⟨R, h1, h2⟩ := hh
        exact (h1 w hC).wp fun v w' ⟨hv, hc⟩ => h _ _ _ hc (h2 v hv)
      · obtain ⟨v, h1, h2⟩ := hh
        exact (h1 w hC).wp fun u w' ⟨hu, hc⟩ => by subst hu; exact h _ _ _ hc h2
    · rename_i hw; simp only [hw] at hh; exact h _ _ _ hC hh

theorem wpAny_of_K {n g : Nat} {L : Array Bool → List Value → Act → Prop} {Q' : Exit → Act → World → Prop} (hL : ∀ listed vs a w, C vs w → L listed vs a → wpAny P md ops Q' g listed a w) :
    ∀ (f : Nat) (listed : Array Bool) (vs : List Value) (a : Act) (w : World), C vs w → wpAnyK P md ops eff C n L f listed vs a → wpAny P md ops Q' (f + g) listed a w
  | 0, listed, vs, a, w, hC, h => by rw [Nat.zero_add]; exact hL _ _ _ _ hC h
  | f + 1, listed, vs, a, w, hC, h => by
    rw [show f + 1 + g = (f + g) + 1 by omega]
    exact ⟨fun h0 => absurd h0 h.1, fun i hi => wpOp_of_kOp hC (fun us a' w' hc h' => wpAny_of_K hL f _ us a' w' hc h') (h.2 i hi).2⟩

/-- in state a op o yields v, behind vs and whatever changes may come up to hi of them -/
def YieldsUp (P : Program) (ops : Array Oper) (C : List Value → World → Prop) (vs : List Value) (hi : Nat) (o : Oper) (v : Value) (a : Act) : Prop :=
  (Region.wanted o (yielded ops a.tmps) = true ∧ ∀ us, vs <+: us → us.length ≤ hi → ∀ w, C us w → EffAt P o a w fun u w' => u = v ∧ C us w') ∨
  (Region.wanted o (yielded ops a.tmps) = false ∧ v = undef)

theorem YieldsUp.kOp {i : Nat} {o : Oper} {v : Value} {a : Act} {vs : List Value} {hi : Nat} (hio : ops[i]? = some o) (he : eff i = false) (hle : vs.length ≤ hi) (hy : YieldsUp P ops C vs hi o v a) {K : List Value → Act → Prop} (h : K vs (a.put o.dst v)) : kOp P ops eff C i vs K a := by
  unfold YtcblkjjkpffjhaaDoor.kOp
  simp only [hio]
  rcases hy with ⟨hw, hv⟩ | ⟨hw, rfl⟩
  · simp only [hw, if_true, he, Bool.false_eq_true, if_false]; exact ⟨v, hv vs (List.prefix_refl _) hle, h⟩
  · simp only [hw, Bool.false_eq_true, if_false]; exact h

theorem YieldsUp.of_same {o : Oper} {v : Value} {a a' : Act} {vs us : List Value} {hi : Nat} (hy : YieldsUp P ops C vs hi o v a) (hp : vs <+: us) (he : execOp a'.eval o = execOp a.eval o)
    (hw : Region.wanted o (yielded ops a'.tmps) = Region.wanted o (yielded ops a.tmps)) : YieldsUp P ops C us hi o v a' := by
  unfold YieldsUp EffAt at *
  rw [he, hw]
  rcases hy with ⟨h1, h2⟩ | h
  · exact .inl ⟨h1, fun ts ht => h2 ts (hp.trans ht)⟩
  · exact .inr h

theorem kOp_put {j : Nat} {oi oj : Oper} {v : Value} {vs : List Value} {hi : Nat} (hj : ops[j]? = some oj) (hap : oi.apart ops oj = true)
    (hsi : ∀ cs b, oi.op ≠ .select cs b) (hsj : ∀ cs b, oj.op ≠ .select cs b) {K : List Value → Act → Prop} {a : Act}
    (hy : YieldsUp P ops C vs hi oi v a) (h : kOp P ops eff C j vs K (a.put oi.dst v)) :
    kOp P ops eff C j vs (fun us a' => YieldsUp P ops C us hi oi v a' ∧ us.length ≤ vs.length + (if eff j then 1 else 0) ∧ K us (a'.put oi.dst v)) a := by
  obtain ⟨h1, h2, h3⟩ := Oper.apart_spec hap
  have keep : ∀ us, vs <+: us → ∀ u, YieldsUp P ops C us hi oi v (a.put oj.dst u) := fun us hp u =>
    hy.of_same hp (execOp_put oi hsi a oj.dst u h3) (wanted_put oi a oj.dst u h3)
  unfold kOp at *
  simp only [hj] at *
  rw [wanted_put oj a oi.dst v h1] at h
  split
  · rename_i hw
    simp only [hw, if_true] at h
    split
    · rename_i he
      simp only [he, if_true] at h
      obtain ⟨R, hR, hn⟩ := h
      refine ⟨R, fun w hw' => ?_, fun u hu => ⟨keep _ (List.prefix_append _ _) u, by simp, by rw [← Act.put_comm a v u h2]; exact hn u hu⟩⟩
      have := hR w hw'
      unfold EffAt at *
      rwa [execOp_put oj hsj a oi.dst v h1] at this
    · rename_i he
      simp only [he, Bool.false_eq_true, if_false] at h
      obtain ⟨u, hu, hn⟩ := h
      refine ⟨u, fun w hw' => ?_, keep _ (List.prefix_refl _) u, by simp, by rw [← Act.put_comm a v u h2]; exact hn⟩
      have := hu w hw'
      unfold EffAt at *
      rwa [execOp_put oj hsj a oi.dst v h1] at this
  · rename_i hw
    simp only [hw] at h
    exact ⟨keep _ (List.prefix_refl _) _, by omega, by rw [← Act.put_comm a v undef h2]; exact h⟩

theorem wpAnyK_first {n i : Nat} {oi : Oper} {v : Value} {L : Array Bool → List Value → Act → Prop} (hi : ops[i]? = some oi) (hei : eff i = false) (hsel : ∀ (j : Nat) (o : Oper) cs b, ops[j]? = some o → o.op ≠ .select cs b)
    (hs : Region.sinkB md ops n = true) (hc : Region.chainB md ops n = true) (hn : n < ops.size) (hin : i < n)
    (hL : ∀ listed vs a, L listed vs a → ∀ j ∈ Region.ready md ops listed, n ≤ j) :
    ∀ (f : Nat) (listed : Array Bool) (vs : List Value) (a : Act), KInv md ops eff n listed vs →
      (∀ j oj, ops[j]? = some oj → j ≠ i → listed.getD j true = false → (∀ e ∈ oj.after, Region.binds md e = true → e.on ≠ i) → oi.apart ops oj = true) →
      i ∈ Region.ready md ops listed → YieldsUp P ops C vs (hiOf md ops eff i) oi v a →
      wpAnyK P md ops eff C n L f (listed.setIfInBounds i true) vs (a.put oi.dst v) → wpAnyK P md ops eff C n L (f + 1) listed vs a := by
  intro f
  induction f with
  | zero =>
    intro listed vs a inv _ hr hy H
    have hun := (mem_ready.1 hr).1
    refine ⟨fun h => (by rw [h] at hr; cases hr), fun j hj => ?_⟩
    by_cases hji : j = i
    · subst hji; exact ⟨hin, hy.kOp hi hei (nEff_le_hi inv (getD_both hun)) H⟩
    · exfalso
      have h1 := hL _ _ _ H j (ready_mono hj hji)
      exact tail_waits hs hc hn inv.head (n - i) i rfl hin hun j h1 hj
  | succ f ih =>
    intro listed vs a inv hfree hr hy H
    have hun := (mem_ready.1 hr).1
    refine ⟨fun h => (by rw [h] at hr; cases hr), fun j hj => ?_⟩
    have hjn : j < n := by
      rcases Nat.lt_or_ge j n with h | h
      · exact h
      · exact absurd hj (tail_waits hs hc hn inv.head (n - i) i rfl hin hun j h)
    refine ⟨hjn, ?_⟩
    by_cases hji : j = i
    · subst hji; exact hy.kOp hi hei (nEff_le_hi inv (getD_both hun)) H
    · have h1 := (H.2 j (ready_mono hj hji)).2
      obtain ⟨hjun, oj, hoj, hall⟩ := mem_ready.1 hj
      have hnot : ∀ e ∈ oj.after, Region.binds md e = true → e.on ≠ i := fun e he hb heq => by
        have h1 := hall e he hb
        rw [heq, getD_both hun] at h1
        cases h1
      have h2 := kOp_put hoj (hfree j oj hoj hji hjun hnot) (fun cs b => hsel i oi cs b hi) (fun cs b => hsel j oj cs b hoj) hy h1
      have hfree' : ∀ k ok, ops[k]? = some ok → k ≠ i → (listed.setIfInBounds j true).getD k true = false →
          (∀ e ∈ ok.after, Region.binds md e = true → e.on ≠ i) → oi.apart ops ok = true := fun k ok hk hki hun hno => by
        refine hfree k ok hk hki ?_ hno
        by_cases hjk : j = k
        · subst hjk; exact hjun
        · rw [getD_set_ne true hjk] at hun; exact hun
      refine kOp_mono (fun us a' h3 => ih (listed.setIfInBounds j true) us a' (inv.set hj hjn h3.2.1) hfree' (ready_mono hr (Ne.symm hji)) h3.1 ?_) h2
      rw [Array.setIfInBounds_comm _ _ hji]
      exact h3.2.2

/-- the walk in the order that is given -/
def gWalk (P : Program) (md : Region.Mode) (ops : Array Oper) (eff : Nat → Bool) (C : List Value → World → Prop) (T : List Value → Act → Prop) : List Nat → List Value → Act → Prop
  | [], vs, a => T vs a
  | i :: rest, vs, a =>
    match ops[i]? with
    | none => False
    | some o =>
      if Region.wanted o (yielded ops a.tmps) then
        if eff i then ∃ R : Value → Prop, (∀ w, C vs w → EffAt P o a w fun v w' => R v ∧ C (vs ++ [v]) w') ∧ ∀ v, R v → gWalk P md ops eff C T rest (vs ++ [v]) (a.put o.dst v)
        else ∃ v, (∀ us, vs <+: us → us.length ≤ hiOf md ops eff i → ∀ w, C us w → EffAt P o a w fun u w' => u = v ∧ C us w') ∧ gWalk P md ops eff C T rest vs (a.put o.dst v)
      else gWalk P md ops eff C T rest vs (a.put o.dst undef)

/-- may the order that is given be walked? -/
def ordB (md : Region.Mode) (ops : Array Oper) (eff : Nat → Bool) (n g : Nat) : List Nat → Array Bool → Bool
  | [], listed => Region.seqB md ops g n listed
  | i :: rest, listed => decide (i < n) && (Region.ready md ops listed).contains i && (if eff i then decide (Region.ready md ops listed = [i]) else Region.free md ops listed i) && ordB md ops eff n g rest (listed.setIfInBounds i true)

theorem wpAnyK_ord {n g : Nat} {T : List Value → Act → Prop} (hsel : Region.noSelect ops = true) (hs : Region.sinkB md ops n = true) (hc : Region.chainB md ops n = true) (hn : n < ops.size) :
    ∀ (l : List Nat) (listed : Array Bool) (vs : List Value) (a : Act), KInv md ops eff n listed vs → ordB md ops eff n g l listed = true → gWalk P md ops eff C T l vs a →
    wpAnyK P md ops eff C n (fun listed' us a' => Region.seqB md ops g n listed' = true ∧ T us a') l.length listed vs a
  | [], listed, vs, a, _, hB, h => ⟨by simpa [ordB] using hB, h⟩
  | i :: l, listed, vs, a, inv, hB, h => by
    simp only [ordB, Bool.and_eq_true, decide_eq_true_eq] at hB
    obtain ⟨⟨⟨hin, hr⟩, hf⟩, hB'⟩ := hB
    have hr' : i ∈ Region.ready md ops listed := by simpa using hr
    unfold gWalk at h
    cases hoi : ops[i]? with
    | none => simp only [hoi] at h
    | some o =>
      simp only [hoi] at h
      by_cases he : eff i = true
      · simp only [he, if_true, decide_eq_true_eq] at hf
        refine ⟨by rw [hf]; simp, fun j hj => ?_⟩
        rw [hf] at hj
        have hji : j = i := by simpa using hj
        subst hji
        refine ⟨hin, ?_⟩
        unfold kOp
        simp only [hoi]
        split
        · rename_i hw
          simp only [hw, if_true, he] at h ⊢
          obtain ⟨R, h1, h2⟩ := h
          exact ⟨R, h1, fun v hv => wpAnyK_ord hsel hs hc hn l _ _ _ (inv.set hr' hin (by simp [he])) hB' (h2 v hv)⟩
        · rename_i hw
          simp only [hw] at h
          exact wpAnyK_ord hsel hs hc hn l _ _ _ (inv.set hr' hin (by omega)) hB' h
      · have he' : eff i = false := by simpa using he
        simp only [he', Bool.false_eq_true, if_false] at hf
        have key : ∃ v, YieldsUp P ops C vs (hiOf md ops eff i) o v a ∧ gWalk P md ops eff C T l vs (a.put o.dst v) := by
          by_cases hw : Region.wanted o (yielded ops a.tmps) = true
          · simp only [hw, if_true, he', Bool.false_eq_true, if_false] at h
            obtain ⟨v, h1, h2⟩ := h
            exact ⟨v, .inl ⟨hw, h1⟩, h2⟩
          · simp only [hw] at h
            exact ⟨undef, .inr ⟨by simpa using hw, rfl⟩, h⟩
        obtain ⟨v, hy, hK⟩ := key
        exact wpAnyK_first hoi he' (Region.noSelect_spec hsel) hs hc hn hin (fun listed' us a' hL => seqB_ready hL.1) l.length listed vs a inv (Region.free_spec hoi hf) hr' hy
          (wpAnyK_ord hsel hs hc hn l _ _ _ (inv.set hr' hin (by omega)) hB' hK)

/-- does an operation yield a value, with no call of a Go function? -/
def valued : Op → Bool
  | .move _ | .assign _ | .pick .. | .load .. | .binOp .. | .unOp .. | .convert .. | .fieldAddr .. | .field .. | .indexAddr .. | .index .. | .extract .. | .slice .. | .lookup .. | .build .. | .buildSlice .. | .box .. | .alloc _ | .makeFunc .. | .makeSlice .. | .makeMap .. | .nilCheck _ => true
  | .call { callee := .builtin .len, .. } => true
  | _ => false

theorem noEnter_v {s : Sem Value} {w w' : World} {f : FuncId} {args : Array Value} : (do pure (Next.value (← s)) : Sem Next).run P w ≠ .ok (.enter f args) w' := by
  simp only [Sem.run_bind]
  cases s.run P w <;> simp

theorem noEnter {o : Oper} (h : valued o.op = true) (ρ : Operand → Value) (w w' : World) (f : FuncId) (args : Array Value) : (execOp ρ o).run P w ≠ .ok (.enter f args) w' := by
  unfold execOp
  cases ho : o.op <;> simp only [ho, valued] at h ⊢ <;> first
    | exact noEnter_v
    | (simp; done)
    | (simp only [Sem.run_bind]; cases (asBool (ρ _)).run P w <;> simp; done)
    | (cases h; done)
    | skip
  case nilCheck x =>
    have pv : ∀ v : Value, (pure (Next.value v) : Sem Next).run P w ≠ .ok (.enter f args) w' := fun v => by simp
    have pp : (runtimePanic RuntimeError.nilDeref : Sem Next).run P w ≠ .ok (.enter f args) w' := fun h => by cases h
    split
    · exact pp
    · exact pp
    · exact pp
    · split
      · exact pp
      · simp only [Sem.run_bind]
        generalize (program : Sem Program).run P w = r
        cases r
        · simp only [Sem.run_bind, Result.andThen]
          generalize (nilAhead _ _ _ _ : Sem _).run P _ = r2
          cases r2
          · simp only [Result.andThen]
            split
            · simp [Sem.run_bind]
            · simp
          · simp
        · simp
      · exact pv _
    · exact pv _
  case call c =>
    rcases c with ⟨cl, as, ts⟩
    cases cl with
    | builtin b => cases b <;> simp only [reduceCtorEq] at h <;> (simp only [resolve, invoke, builtin, pure_bind]; exact noEnter_v)
    | value x => cases h
    | invoke r m => cases h

/-- an operation that reads alone, in whatever stage: its value under one class D -/
theorem gWalk_val {T : List Value → Act → Prop} {i : Nat} {rest : List Nat} {vs : List Value} {a : Act} {o : Oper} (D : World → Prop) (ho : ops[i]? = some o) (hw : Region.wanted o (yielded ops a.tmps) = true) (he : eff i = false)
    (hno : valued o.op = true) (hD : ∀ us w, C us w → D w)
    (h : ∀ K : Act → Prop, (∀ a, gWalk P md ops eff C T rest vs a → K a) → o.quiet P a D K) : gWalk P md ops eff C T (i :: rest) vs a := by
  obtain ⟨v, h1, h2⟩ := h _ (fun _ h => h)
  unfold gWalk
  simp only [ho, hw, if_true, he, Bool.false_eq_true, if_false]
  refine ⟨v, fun us _ _ w hc => ?_, h2⟩
  have h3 := h1 w (hD us w hc)
  unfold Oper.quietAt at h3
  unfold EffAt
  have hn := noEnter (P := P) hno a.eval w
  generalize (execOp a.eval o).run P w = r at *
  cases r with
  | ok n w' =>
    cases n <;> simp only [Oper.quietUpon] at h3 <;> simp only [EffUpon]
    case value u => obtain ⟨e1, e2⟩ := h3; subst e1; exact ⟨e2, hc⟩
    case skip => obtain ⟨e1, e2⟩ := h3; subst e1; exact ⟨e2.symm, hc⟩
    case enter f args => exact absurd rfl (hn w' f args)
  | halt x w' => simp only [Oper.quietUpon] at h3

theorem gWalk_skip {T : List Value → Act → Prop} {i : Nat} {rest : List Nat} {vs : List Value} {a : Act} {o : Oper} (ho : ops[i]? = some o) (hw : Region.wanted o (yielded ops a.tmps) = false)
    (h : gWalk P md ops eff C T rest vs (a.put o.dst undef)) : gWalk P md ops eff C T (i :: rest) vs a := by
  unfold gWalk
  simp only [ho, hw, Bool.false_eq_true, if_false]
  exact h

/-- a call that hands back one value, whatever the world of its stage -/
theorem gWalk_call {T : List Value → Act → Prop} {i : Nat} {rest : List Nat} {vs : List Value} {a : Act} {o : Oper} (v : Value) (ho : ops[i]? = some o) (hw : Region.wanted o (yielded ops a.tmps) = true) (he : eff i = false)
    (hhi : hiOf md ops eff i ≤ vs.length) (h1 : ∀ w, C vs w → EffAt P o a w fun u w' => u = v ∧ C vs w') (h2 : gWalk P md ops eff C T rest vs (a.put o.dst v)) : gWalk P md ops eff C T (i :: rest) vs a := by
  unfold gWalk
  simp only [ho, hw, if_true, he, Bool.false_eq_true, if_false]
  refine ⟨v, fun us hp hl w hc => ?_, h2⟩
  have : vs = us := hp.eq_of_length_le (Nat.le_trans hl hhi)
  subst this
  exact h1 w hc

/-- an operation that changes the world -/
theorem gWalk_eff {T : List Value → Act → Prop} {i : Nat} {rest : List Nat} {vs : List Value} {a : Act} {o : Oper} (R : Value → Prop) (ho : ops[i]? = some o) (hw : Region.wanted o (yielded ops a.tmps) = true) (he : eff i = true)
    (h1 : ∀ w, C vs w → EffAt P o a w fun v w' => R v ∧ C (vs ++ [v]) w') (h2 : ∀ v, R v → gWalk P md ops eff C T rest (vs ++ [v]) (a.put o.dst v)) : gWalk P md ops eff C T (i :: rest) vs a := by
  unfold gWalk
  simp only [ho, hw, if_true, he]
  exact ⟨R, h1, h2⟩

/-- a call of a named function -/
theorem EffAt.call {o : Oper} {a : Act} {w : World} {R : Value → World → Prop} {f : FuncId} {args : Array Value} (hr : (execOp a.eval o).run P w = .ok (.enter f args) w)
    (h : Calls P f args w fun e w'' => ∃ v, e = .returned v ∧ R v w'') : EffAt P o a w R := by
  unfold EffAt; rw [hr]; exact h

def regB (ops : Array Oper) (eff : Nat → Bool) (n : Nat) (ord : List Nat) : Bool :=
  Region.noSelect ops && decide (n < ops.size) && decide (ord.length = n) && Region.sinkB .any ops n && Region.chainB .any ops n && ordB .any ops eff n (ops.size - n) ord (Array.replicate ops.size false)

/-- ONE WALK SERVES EVERY ORDER. -/
theorem wp_region_ord {id : Nat} {Q : Exit → Act → World → Prop} {a : Act} {w : World} {l : List Oper} (eff : Nat → Bool) (n : Nat) (ord : List Nat) (C : List Value → World → Prop) (hm : P.follows .mixedOrders = true) (hB : regB l.toArray eff n ord = true)
    (hC : C [] { w with drawn := w.drawn + 1 })
    (h : gWalk P .any l.toArray eff C (fun us a' => ∀ w', C us w' → wpList P l.toArray Q (l.drop n) a' w') ord [] a) : (Code.region id l.toArray true).wp P Q a w := by
  simp only [regB, Bool.and_eq_true, decide_eq_true_eq] at hB
  obtain ⟨⟨⟨⟨⟨hsel, hn⟩, hol⟩, hs⟩, hc⟩, hord⟩ := hB
  have hn' : n < l.length := by simpa using hn
  have hdl : (l.drop n).length = l.toArray.size - n := by simp
  have inv0 : KInv .any l.toArray eff n (Array.replicate l.toArray.size false) [] :=
    ⟨⟨by simp, fun j oj _ hl => (by rw [getD_replicate_false] at hl; cases hl), fun t _ ht => getD_in (by simpa using ht) (getD_replicate_false _ _)⟩, Nat.zero_le _⟩
  have H := wpAnyK_ord (md := .any) (g := l.toArray.size - n) hsel hs hc hn ord _ _ a inv0 hord h
  refine wp_region_any hm ?_
  have := wpAny_of_K (Q' := Q) (g := l.toArray.size - n) (fun listed vs a' w' hc' hL => by
    have := wpAny_of_seq (md := .any) (Q' := Q) (l.drop n) n listed a' w' (fun j => by simp [List.getElem?_drop]) (by rw [hdl]; exact hL.1) (hL.2 w' hc')
    rwa [hdl] at this) _ _ _ _ _ hC H
  rw [hol, show n + (l.toArray.size - n) = l.toArray.size by omega] at this
  exact this
/-- a region that reads alone, or makes memory alone, walked once under a class of worlds -/
theorem wp_region_cls {St : Type} (F : St → World) {id : Nat} {Q : Exit → Act → World → Prop} {a : Act} {w : World} {l : List Oper} (hm : P.follows .mixedOrders = true) (hB : Region.lexB .any l.toArray = true) (hC : ∃ s, { w with drawn := w.drawn + 1 } = F s)
    (h : wpQuiet P l.toArray (fun w' => ∃ s, w' = F s) (fun a' => ∀ w', (∃ s, w' = F s) → Q .normal a' w') l a) : (Code.region id l.toArray true).wp P Q a w :=
  wp_region_quiet (C := fun w' => ∃ s, w' = F s) hm hB hC (by simpa using h)
end

open Go.RowKit in
/-- a class of worlds, named so that a walk does not look into it: all that are as w was below B -/
theorem stable_class (B : Nat) (w : World) : ∃ (St : Type) (_ : Nonempty St) (F : St → World), (∀ s, Below B w (F s)) ∧ (∀ w', Below B w w' → ∃ s, w' = F s) :=
  ⟨{w' : World // Below B w w'}, ⟨⟨w, Below.refl _ _⟩⟩, Subtype.val, fun s => s.2, fun w' h => ⟨⟨w', h⟩, rfl⟩⟩

end Go.Proofs.YtcblkjjkpffjhaaDoor
