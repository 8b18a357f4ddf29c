/- Who is bound hangs in a tree; whoever is owed an answer is bound. Plain words, no program. -/
import Derived.Test.YtgnpngiecnkfiaaD5
namespace Go.Proofs.Ytgnpngiecnkfiaa
open Go.RowKit
set_option linter.unusedVariables false
set_option linter.unusedSimpArgs false

def sumN : Nat → (Nat → Nat) → Nat
  | 0, _ => 0
  | m + 1, f => sumN m f + f m
theorem sumN_congr : ∀ {m : Nat} {f g : Nat → Nat}, (∀ j, j < m → f j = g j) → sumN m f = sumN m g
  | 0, _, _, _ => rfl
  | m + 1, f, g, h => by rw [sumN, sumN, sumN_congr (m := m) fun j hj => h j (by omega), h m (by omega)]
theorem sumN_upd : ∀ {m : Nat} {f g : Nat → Nat} {k : Nat}, k < m → (∀ j, j < m → j ≠ k → g j = f j) → sumN m g + f k = sumN m f + g k
  | 0, _, _, _, hk, _ => by omega
  | m + 1, f, g, k, hk, h => by
    rw [sumN, sumN]
    by_cases e : k = m
    · subst e
      rw [sumN_congr (m := k) fun j hj => h j (by omega) (by omega)]; omega
    · have := sumN_upd (m := m) (k := k) (f := f) (g := g) (by omega) fun j hj => h j (by omega)
      rw [h m (by omega) (by omega)]; omega
theorem sumN_zero : ∀ {m : Nat} {f : Nat → Nat}, (∀ j, j < m → f j = 0) → sumN m f = 0
  | 0, _, _ => rfl
  | m + 1, f, h => by rw [sumN, sumN_zero (m := m) fun j hj => h j (by omega), h m (by omega)]
theorem le_sumN : ∀ {m : Nat} {f : Nat → Nat} {k : Nat}, k < m → f k ≤ sumN m f
  | 0, _, _, hk => by omega
  | m + 1, f, k, hk => by
    rw [sumN]
    by_cases e : k = m
    · subst e; omega
    · have := le_sumN (m := m) (f := f) (k := k) (by omega); omega
def smN (j : Nat) : Sm := ⟨j % 2048, Nat.mod_lt _ (by decide)⟩
theorem smN_val (k : Sm) : smN k.val = k := Fin.ext (Nat.mod_eq_of_lt k.isLt)
def SS (f : Sm → Nat) : Nat := sumN 2048 fun j => f (smN j)
theorem SS_congr {f g : Sm → Nat} (h : ∀ j, f j = g j) : SS f = SS g := by rw [show f = g from funext h]
theorem SS_upd {f g : Sm → Nat} (k : Sm) (h : ∀ j, j ≠ k → g j = f j) : SS g + f k = SS f + g k := by
  have := sumN_upd (m := 2048) (f := fun j => f (smN j)) (g := fun j => g (smN j)) (k := k.val) k.isLt fun j hj hk => h _ fun e => hk (by rw [← e]; exact (Nat.mod_eq_of_lt hj).symm)
  rw [smN_val] at this
  exact this
theorem SS_zero {f : Sm → Nat} (h : ∀ j, f j = 0) : SS f = 0 := sumN_zero fun j _ => h _
theorem le_SS (f : Sm → Nat) (k : Sm) : f k ≤ SS f := by
  have := le_sumN (m := 2048) (f := fun j => f (smN j)) (k := k.val) k.isLt
  rw [smN_val] at this
  exact this
theorem SS_pos {f : Sm → Nat} (h : 0 < SS f) : ∃ j, 0 < f j := by
  by_cases e : ∃ j, 0 < f j
  · exact e
  · have := SS_zero (f := f) fun j => by
      by_cases h0 : f j = 0
      · exact h0
      · exact absurd ⟨j, by omega⟩ e
    omega

def prc (s : QS) (i : Nat) : Pr := (s.ps[i]?).getD ⟨false, false, none, 0⟩
theorem prc_of {s : QS} {i : Nat} {x : Pr} (h : s.ps[i]? = some x) : prc s i = x := by unfold prc; rw [h]; rfl
theorem prc_set {ps : List Pr} {ca an ca' an' : Cn} {dn dn' : Bool} {i : Nat} {x : Pr} (h : ps[i]? = some x) (y : Pr) (j : Nat) :
    prc ⟨ps.set i y, ca, an, dn⟩ j = if j = i then y else prc ⟨ps, ca', an', dn'⟩ j := by
  unfold prc
  dsimp only
  have hl : i < ps.length := (List.getElem?_eq_some_iff.1 h).1
  rw [List.getElem?_set]
  by_cases e : j = i
  · subst e; rw [if_pos rfl, if_pos rfl, if_pos hl]; rfl
  · rw [if_neg (fun h => e h.symm), if_neg e]
def chd (s : QS) (i j : Sm) : Nat := if (prc s j.val).bound = true ∧ (prc s j.val).to = some i then 1 else 0
def tok (s : QS) (i j : Sm) : Nat := cnt s.ca (i, j) + cnt s.an (j, i) + chd s i j
structure Tr (s : QS) : Prop where
  ow : ∀ i : Sm, (prc s i.val).owes = (SS (tok s i) : Int)
  wb : ∀ i : Sm, (prc s i.val).works = true → (prc s i.val).bound = true
  ob : ∀ i : Sm, (prc s i.val).bound = false → (prc s i.val).owes = 0
  rk : ∃ (r : Sm → Nat) (K : Nat), (∀ i, r i ≤ K) ∧ ∀ i p : Sm, (prc s i.val).bound = true → (prc s i.val).to = some p → r p < r i
  rt : ∀ i : Sm, (prc s i.val).bound = true → (prc s i.val).to = none → i.val = 0
  rz : (prc s 0).bound = true → (prc s 0).to = none
  dn : s.dn = true ↔ (prc s 0).bound = false
structure Stl (s : QS) : Prop where
  st : ∀ i : Sm, (prc s i.val).bound = true → (prc s i.val).works = true ∨ 0 < (prc s i.val).owes

theorem Tr.par {s : QS} (T : Tr s) {i j : Sm} (h : 0 < tok s i j) : (prc s i.val).bound = true := by
  have h1 := le_SS (tok s i) j
  have h2 := T.ow i
  cases hb : (prc s i.val).bound with
  | true => rfl
  | false => have := T.ob i hb; omega
theorem Tr.free {s : QS} (T : Tr s) {i : Sm} (h : (prc s i.val).bound = false) (j : Sm) : tok s i j = 0 := by
  by_cases e : tok s i j = 0
  · exact e
  · have := T.par (i := i) (j := j) (by omega); rw [h] at this; cases this
theorem Tr.dead {s : QS} (T : Tr s) (h : (prc s 0).bound = false) (i : Sm) : (prc s i.val).bound = false := by
  obtain ⟨r, K, hK, hr⟩ := T.rk
  suffices ∀ m, ∀ i : Sm, r i ≤ m → (prc s i.val).bound = false from this (r i) i (Nat.le_refl _)
  intro m
  induction m with
  | zero =>
    intro i hi
    cases hb : (prc s i.val).bound with
    | false => rfl
    | true =>
      cases ht : (prc s i.val).to with
      | none => have := T.rt i hb ht; rw [this] at hb; rw [h] at hb; cases hb
      | some p => have := hr i p hb ht; omega
  | succ m ih =>
    intro i hi
    cases hb : (prc s i.val).bound with
    | false => rfl
    | true =>
      cases ht : (prc s i.val).to with
      | none => have := T.rt i hb ht; rw [this] at hb; rw [h] at hb; cases hb
      | some p =>
        have h1 := hr i p hb ht
        have h2 := ih p (by omega)
        have h3 := T.free h2 i
        unfold tok chd at h3
        rw [if_pos ⟨hb, ht⟩] at h3
        omega
theorem Tr.rest {s : QS} (T : Tr s) (h : s.dn = true) : (∀ i : Sm, (prc s i.val).bound = false ∧ (prc s i.val).works = false) ∧ ∀ i j : Sm, cnt s.ca (i, j) = 0 ∧ cnt s.an (i, j) = 0 := by
  have h0 := T.dead (T.dn.1 h)
  refine ⟨fun i => ⟨h0 i, ?_⟩, fun i j => ?_⟩
  · cases hw : (prc s i.val).works with
    | false => rfl
    | true => have := T.wb i hw; rw [h0 i] at this; cases this
  · have h1 := T.free (h0 i) j
    have h2 := T.free (h0 j) i
    unfold tok at h1 h2
    omega
theorem Tr.notaken {s : QS} (T : Tr s) {i j : Sm} (h : 0 < cnt s.ca (i, j)) : (prc s 0).bound = true := by
  cases hb : (prc s 0).bound with
  | true => rfl
  | false => have := ((T.rest (T.dn.2 hb)).2 i j).1; omega

theorem cnt_inc (ms : Cn) (k q : Sm × Sm) : cnt (inc ms k) q = if k = q then cnt ms q + 1 else cnt ms q := by
  unfold inc; rw [cnt_put]; split
  · rename_i e; subst e; rfl
  · rfl
theorem cnt_dec (ms : Cn) (k q : Sm × Sm) : cnt (dec ms k) q = if k = q then cnt ms q - 1 else cnt ms q := by
  unfold dec; rw [cnt_put]; split
  · rename_i e; subst e; rfl
  · rfl

-- who changes: one process, whose 'bound' and 'to' stay
theorem Tr.keep {s s' : QS} (T : Tr s) {i : Sm} {y : Pr} (hp : ∀ j, prc s' j = if j = i.val then y else prc s j) (hd : s'.dn = s.dn)
    (hb : y.bound = (prc s i.val).bound) (ht : y.to = (prc s i.val).to) (hw : y.works = true → y.bound = true) (ho : y.bound = false → y.owes = 0)
    (how : ∀ a : Sm, (prc s' a.val).owes = (SS (tok s' a) : Int)) : Tr s' := by
  have eb : ∀ j, (prc s' j).bound = (prc s j).bound := fun j => by
    rw [hp]; split
    · rename_i e; rw [e]; exact hb
    · rfl
  have et : ∀ j, (prc s' j).to = (prc s j).to := fun j => by
    rw [hp]; split
    · rename_i e; rw [e]; exact ht
    · rfl
  refine ⟨how, fun a h => ?_, fun a h => ?_, ?_, fun a h1 h2 => T.rt a (by rw [← eb]; exact h1) (by rw [← et]; exact h2), fun h => by rw [et]; exact T.rz (by rw [← eb]; exact h), by rw [hd, eb]; exact T.dn⟩
  · by_cases e : a.val = i.val
    · rw [hp, if_pos e] at h ⊢; exact hw h
    · rw [hp, if_neg e] at h ⊢; exact T.wb a h
  · by_cases e : a.val = i.val
    · rw [hp, if_pos e] at h ⊢; exact ho h
    · rw [hp, if_neg e] at h ⊢; exact T.ob a h
  · obtain ⟨r, K, hK, hr⟩ := T.rk
    exact ⟨r, K, hK, fun a p h1 h2 => hr a p (by rw [← eb]; exact h1) (by rw [← et]; exact h2)⟩
theorem chd_keep {s s' : QS} {i : Sm} {y : Pr} (hp : ∀ j, prc s' j = if j = i.val then y else prc s j) (hb : y.bound = (prc s i.val).bound) (ht : y.to = (prc s i.val).to) (a j : Sm) :
    chd s' a j = chd s a j := by
  unfold chd
  rw [hp]
  by_cases e : j.val = i.val
  · rw [if_pos e, hb, ht, e]
  · rw [if_neg e]
theorem ow_keep {s s' : QS} (T : Tr s) {i : Sm} {y : Pr} (hp : ∀ j, prc s' j = if j = i.val then y else prc s j) (ho : y.owes = (prc s i.val).owes)
    (htok : ∀ a j, tok s' a j = tok s a j) (a : Sm) : (prc s' a.val).owes = (SS (tok s' a) : Int) := by
  rw [SS_congr (htok a), ← T.ow a, hp]
  split
  · rename_i e; rw [ho, e]
  · rfl

theorem Tr.does {s : QS} (T : Tr s) (k : Int) (i j : Sm) : Tr (doesQ s k i j).2 := by
  unfold doesQ
  cases hx : s.ps[i.val]? with
  | none => exact T
  | some x =>
    have ex := prc_of hx
    obtain ⟨ps, ca, an, dn⟩ := s
    dsimp only at hx ⊢
    split
    · -- a call is sent
      split
      · rename_i hw
        have hp := prc_set (ca := inc ca (i, j)) (an := an) (dn := dn) (ca' := ca) (an' := an) (dn' := dn) hx ⟨x.works, x.bound, x.to, x.owes + 1⟩
        have hbd := T.wb i (by rw [ex]; exact hw)
        have hc := chd_keep hp (by rw [ex]) (by rw [ex])
        refine T.keep hp rfl (by rw [ex]) (by rw [ex]) (fun _ => by rw [ex] at hbd; exact hbd) (fun h => by rw [ex] at hbd; dsimp only at h; rw [hbd] at h; cases h) fun a => ?_
        by_cases e : a = i
        · subst e
          rw [hp, if_pos rfl]
          have h1 := SS_upd (f := tok ⟨ps, ca, an, dn⟩ a) (g := tok ⟨ps.set a.val ⟨x.works, x.bound, x.to, x.owes + 1⟩, inc ca (a, j), an, dn⟩ a) j fun q hq => by
            unfold tok; rw [hc]; dsimp only; rw [cnt_inc, if_neg (fun e => hq (Prod.mk.inj e).2.symm)]
          have h2 : tok ⟨ps.set a.val ⟨x.works, x.bound, x.to, x.owes + 1⟩, inc ca (a, j), an, dn⟩ a j = tok ⟨ps, ca, an, dn⟩ a j + 1 := by
            unfold tok; rw [hc]; dsimp only; rw [cnt_inc, if_pos rfl]; omega
          have h3 := T.ow a
          rw [ex] at h3
          dsimp only
          omega
        · rw [hp, if_neg fun h => e (Fin.ext h), T.ow a]
          exact congrArg (fun m : Nat => (m : Int)) (SS_congr fun q => by unfold tok; rw [hc]; dsimp only; rw [cnt_inc, if_neg (fun h => e (Prod.mk.inj h).1.symm)])
      · exact T
    · split
      · -- one rests
        split
        · rename_i hw
          have hp := prc_set (ca := ca) (an := an) (dn := dn) (ca' := ca) (an' := an) (dn' := dn) hx ⟨false, x.bound, x.to, x.owes⟩
          have hc := chd_keep hp (by rw [ex]) (by rw [ex])
          have h4 := T.ob i
          rw [ex] at h4
          exact T.keep hp rfl (by rw [ex]) (by rw [ex]) (fun h => by cases h) h4 (ow_keep T hp (by rw [ex]) fun a q => by unfold tok; rw [hc])
        · exact T
      · split
        · -- a call is taken
          split
          · exact T
          · rename_i hcn
            split
            · rename_i hbx
              have hp := prc_set (ca := dec ca (j, i)) (an := inc an (i, j)) (dn := dn) (ca' := ca) (an' := an) (dn' := dn) hx ⟨true, x.bound, x.to, x.owes⟩
              have hc := chd_keep hp (by rw [ex]) (by rw [ex])
              refine T.keep hp rfl (by rw [ex]) (by rw [ex]) (fun _ => hbx) (fun h => by dsimp only at h; rw [hbx] at h; cases h) (ow_keep T hp (by rw [ex]) fun a q => ?_)
              unfold tok; rw [hc]; dsimp only; rw [cnt_dec, cnt_inc]
              by_cases e : (j, i) = (a, q)
              · obtain ⟨e1, e2⟩ := Prod.mk.inj e
                subst e1; subst e2
                rw [if_pos rfl, if_pos rfl]; omega
              · rw [if_neg e, if_neg fun h => e (by obtain ⟨e1, e2⟩ := Prod.mk.inj h; rw [e1, e2])]
            · rename_i hbx
              have hbx : x.bound = false := by cases h : x.bound with
                | false => rfl
                | true => exact absurd h hbx
              have hp := prc_set (ca := dec ca (j, i)) (an := an) (dn := dn) (ca' := ca) (an' := an) (dn' := dn) hx ⟨true, true, some j, x.owes⟩
              have hb0 := T.notaken (i := j) (j := i) (by dsimp only; omega)
              have hi0 : i.val ≠ 0 := fun h => by rw [← h, ex, hbx] at hb0; cases hb0
              have hbj := T.par (i := j) (j := i) (by unfold tok; dsimp only; omega)
              have hij : j ≠ i := fun h => by rw [h, ex, hbx] at hbj; cases hbj
              have hfree := T.free (i := i) (by rw [ex]; exact hbx)
              have htok : ∀ a q, tok ⟨ps.set i.val ⟨true, true, some j, x.owes⟩, dec ca (j, i), an, dn⟩ a q = tok ⟨ps, ca, an, dn⟩ a q := fun a q => by
                unfold tok chd
                dsimp only
                rw [cnt_dec, hp]
                by_cases eq : q = i
                · subst eq
                  rw [if_pos (c := q.val = q.val) rfl, ex]
                  dsimp only
                  rw [if_neg (c := x.bound = true ∧ x.to = some a) (fun h => by rw [hbx] at h; cases h.1)]
                  by_cases ea : a = j
                  · subst ea
                    rw [if_pos rfl, if_pos ⟨rfl, rfl⟩]; omega
                  · rw [if_neg fun h => ea (Prod.mk.inj h).1.symm, if_neg fun h => ea (Option.some.inj h.2).symm]
                · rw [if_neg (c := q.val = i.val) fun h => eq (Fin.ext h), if_neg (c := (j, i) = (a, q)) fun h => eq (Prod.mk.inj h).2.symm]
              refine ⟨ow_keep T hp (by rw [ex]) htok, fun a h => ?_, fun a h => ?_, ?_, fun a h1 h2 => ?_, fun h => ?_, ?_⟩
              · by_cases e : a.val = i.val
                · rw [hp, if_pos e]
                · rw [hp, if_neg e] at h ⊢; exact T.wb a h
              · by_cases e : a.val = i.val
                · rw [hp, if_pos e] at h; cases h
                · rw [hp, if_neg e] at h ⊢; exact T.ob a h
              · obtain ⟨r, K, hK, hr⟩ := T.rk
                refine ⟨fun a => if a = i then r j + 1 else r a, K + 1, fun a => ?_, fun a p h1 h2 => ?_⟩
                · have := hK j; have := hK a; dsimp only; split <;> omega
                · dsimp only
                  by_cases e : a = i
                  · rw [hp, if_pos (by rw [e])] at h2
                    dsimp only at h2
                    have e2 := Option.some.inj h2
                    rw [if_pos e, if_neg (fun h => hij (by rw [e2, h])), e2]; omega
                  · rw [hp, if_neg fun h => e (Fin.ext h)] at h1 h2
                    have hpi : p ≠ i := fun h => by
                      have := hfree a
                      unfold tok chd at this
                      rw [if_pos ⟨h1, by rw [h2, h]⟩] at this
                      omega
                    rw [if_neg e, if_neg hpi]
                    exact hr a p h1 h2
              · by_cases e : a.val = i.val
                · rw [hp, if_pos e] at h2; cases h2
                · rw [hp, if_neg e] at h1 h2; exact T.rt a h1 h2
              · rw [hp, if_neg fun h => hi0 h.symm] at h ⊢; exact T.rz h
              · rw [hp, if_neg fun h => hi0 h.symm]; exact T.dn
        · -- an answer comes back
          split
          · exact T
          · rename_i hcn
            have hp := prc_set (ca := ca) (an := dec an (j, i)) (dn := dn) (ca' := ca) (an' := an) (dn' := dn) hx ⟨x.works, x.bound, x.to, x.owes - 1⟩
            have hc := chd_keep hp (by rw [ex]) (by rw [ex])
            have hbi := T.par (i := i) (j := j) (by unfold tok; dsimp only; omega)
            rw [ex] at hbi
            refine T.keep hp rfl (by rw [ex]) (by rw [ex]) (fun _ => hbi) (fun h => by dsimp only at h; rw [hbi] at h; cases h) fun a => ?_
            by_cases e : a = i
            · subst e
              rw [hp, if_pos rfl]
              have h1 := SS_upd (f := tok ⟨ps, ca, an, dn⟩ a) (g := tok ⟨ps.set a.val ⟨x.works, x.bound, x.to, x.owes - 1⟩, ca, dec an (j, a), dn⟩ a) j fun q hq => by
                unfold tok; rw [hc]; dsimp only; rw [cnt_dec, if_neg (fun e => hq (Prod.mk.inj e).1.symm)]
              have h2 : tok ⟨ps.set a.val ⟨x.works, x.bound, x.to, x.owes - 1⟩, ca, dec an (j, a), dn⟩ a j + 1 = tok ⟨ps, ca, an, dn⟩ a j := by
                unfold tok; rw [hc]; dsimp only; rw [cnt_dec, if_pos rfl]; omega
              have h3 := T.ow a
              rw [ex] at h3
              dsimp only
              omega
            · rw [hp, if_neg fun h => e (Fin.ext h), T.ow a]
              exact congrArg (fun m : Nat => (m : Int)) (SS_congr fun q => by unfold tok; rw [hc]; dsimp only; rw [cnt_dec, if_neg (fun h => e (Prod.mk.inj h).2.symm)])

theorem Tr.settle {s : QS} (T : Tr s) (i : Sm) : Tr (settleQ s i) := by
  unfold settleQ
  cases hx : s.ps[i.val]? with
  | none => exact T
  | some x =>
    have ex := prc_of hx
    obtain ⟨ps, ca, an, dn⟩ := s
    dsimp only at hx ⊢
    split
    · exact T
    · rename_i hne
      have hbx : x.bound = true := by cases h : x.bound with
        | true => rfl
        | false => exact absurd (.inl h) hne
      have hwx : x.works = false := by cases h : x.works with
        | false => rfl
        | true => exact absurd (.inr (.inl h)) hne
      have hox : ¬ 0 < x.owes := fun h => hne (.inr (.inr h))
      have hi := T.ow i
      rw [ex] at hi
      have hox : x.owes = 0 := by omega
      have hfree : ∀ q, tok ⟨ps, ca, an, dn⟩ i q = 0 := fun q => by have := le_SS (tok ⟨ps, ca, an, dn⟩ i) q; omega
      split
      · rename_i ht
        have hp := prc_set (ca := ca) (an := an) (dn := true) (ca' := ca) (an' := an) (dn' := dn) hx ⟨x.works, false, x.to, x.owes⟩
        have hi0 := T.rt i (by rw [ex]; exact hbx) (by rw [ex]; exact ht)
        have htok : ∀ a q, tok ⟨ps.set i.val ⟨x.works, false, x.to, x.owes⟩, ca, an, true⟩ a q = tok ⟨ps, ca, an, dn⟩ a q := fun a q => by
          unfold tok chd
          dsimp only
          rw [hp]
          by_cases eq : q = i
          · subst eq
            rw [if_pos (c := q.val = q.val) rfl, ex, if_neg (fun h => by cases h.1), if_neg (fun h => by rw [ht] at h; cases h.2)]
          · rw [if_neg (c := q.val = i.val) fun h => eq (Fin.ext h)]
        refine ⟨ow_keep T hp (by rw [ex]) htok, fun a h => ?_, fun a h => ?_, ?_, fun a h1 h2 => ?_, fun h => ?_, ?_⟩
        · by_cases e : a.val = i.val
          · rw [hp, if_pos e] at h; dsimp only at h; rw [hwx] at h; cases h
          · rw [hp, if_neg e] at h ⊢; exact T.wb a h
        · by_cases e : a.val = i.val
          · rw [hp, if_pos e]; exact hox
          · rw [hp, if_neg e] at h ⊢; exact T.ob a h
        · obtain ⟨r, K, hK, hr⟩ := T.rk
          refine ⟨r, K, hK, fun a p h1 h2 => ?_⟩
          by_cases e : a.val = i.val
          · rw [hp, if_pos e] at h1; cases h1
          · rw [hp, if_neg e] at h1 h2; exact hr a p h1 h2
        · by_cases e : a.val = i.val
          · rw [hp, if_pos e] at h1; cases h1
          · rw [hp, if_neg e] at h1 h2; exact T.rt a h1 h2
        · rw [hp, if_pos hi0.symm] at h; cases h
        · rw [hp, if_pos hi0.symm]; exact ⟨fun _ => rfl, fun _ => rfl⟩
      · rename_i k ht
        have hp := prc_set (ca := ca) (an := inc an (i, k)) (dn := dn) (ca' := ca) (an' := an) (dn' := dn) hx ⟨x.works, false, x.to, x.owes⟩
        have hi0 : i.val ≠ 0 := fun h => by
          have h1 := T.rz (by rw [← h, ex]; exact hbx)
          rw [← h, ex, ht] at h1; cases h1
        have htok : ∀ a q, tok ⟨ps.set i.val ⟨x.works, false, x.to, x.owes⟩, ca, inc an (i, k), dn⟩ a q = tok ⟨ps, ca, an, dn⟩ a q := fun a q => by
          unfold tok chd
          dsimp only
          rw [hp, cnt_inc]
          by_cases eq : q = i
          · subst eq
            rw [if_pos (c := q.val = q.val) rfl, ex]
            dsimp only
            rw [if_neg (c := false = true ∧ x.to = some a) (fun h => by cases h.1), ht]
            by_cases ea : a = k
            · subst ea
              rw [if_pos rfl, if_pos ⟨hbx, rfl⟩]; omega
            · rw [if_neg (c := (q, k) = (q, a)) fun h => ea (Prod.mk.inj h).2.symm, if_neg fun h => ea (Option.some.inj h.2).symm]
          · rw [if_neg (c := q.val = i.val) fun h => eq (Fin.ext h), if_neg (c := (i, k) = (q, a)) fun h => eq (Prod.mk.inj h).1.symm]
        refine ⟨ow_keep T hp (by rw [ex]) htok, fun a h => ?_, fun a h => ?_, ?_, fun a h1 h2 => ?_, fun h => ?_, ?_⟩
        · by_cases e : a.val = i.val
          · rw [hp, if_pos e] at h; dsimp only at h; rw [hwx] at h; cases h
          · rw [hp, if_neg e] at h ⊢; exact T.wb a h
        · by_cases e : a.val = i.val
          · rw [hp, if_pos e]; exact hox
          · rw [hp, if_neg e] at h ⊢; exact T.ob a h
        · obtain ⟨r, K, hK, hr⟩ := T.rk
          refine ⟨r, K, hK, fun a p h1 h2 => ?_⟩
          by_cases e : a.val = i.val
          · rw [hp, if_pos e] at h1; cases h1
          · rw [hp, if_neg e] at h1 h2; exact hr a p h1 h2
        · by_cases e : a.val = i.val
          · rw [hp, if_pos e] at h1; cases h1
          · rw [hp, if_neg e] at h1 h2; exact T.rt a h1 h2
        · rw [hp, if_neg fun h => hi0 h.symm] at h ⊢; exact T.rz h
        · rw [hp, if_neg fun h => hi0 h.symm]; exact T.dn

end Go.Proofs.Ytgnpngiecnkfiaa
