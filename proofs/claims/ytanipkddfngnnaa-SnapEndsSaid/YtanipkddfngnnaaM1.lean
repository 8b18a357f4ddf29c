/- What was noted, and is on its way ahead of the marks, is all the money. In plain words. No condition. -/
import Derived.Test.YtanipkddfngnnaaA7
namespace Go.Proofs.Ytanipkddfngnnaa
open Go.RowKit
set_option linter.unusedVariables false
set_option linter.unusedSimpArgs false
set_option maxRecDepth 100000

def ahead (l : List Int) : List Int := l.takeWhile fun x => decide (x ≠ -1)
theorem ahead_app {l : List Int} (h : l.count (-1) = 0) (l' : List Int) : ahead (l ++ l') = l ++ ahead l' := by
  unfold ahead
  rw [List.takeWhile_append_of_pos]
  intro x hx
  refine decide_eq_true fun e => ?_
  subst e
  exact (List.count_eq_zero.1 h) hx
theorem ahead_has : ∀ {l : List Int} (l' : List Int), l.count (-1) ≠ 0 → ahead (l ++ l') = ahead l
  | [], l', h => absurd rfl h
  | a :: l, l', h => by
    by_cases e : a = -1
    · subst e; rfl
    · have h2 : l.count (-1) ≠ 0 := by rw [List.count_cons_of_ne e] at h; exact h
      have ih := ahead_has (l := l) l' h2
      simp only [ahead, List.cons_append, List.takeWhile_cons, decide_eq_true (show a ≠ -1 from e)] at ih ⊢
      simp only [if_true]; rw [ih]
theorem ahead_none {l : List Int} (h : l.count (-1) = 0) : ahead l = l := by have := ahead_app h []; simpa [ahead] using this
theorem ahead_cons {a : Int} (l : List Int) (h : a ≠ -1) : ahead (a :: l) = a :: ahead l := by simp [ahead, h]
theorem ahead_mark (l : List Int) : ahead (-1 :: l) = [] := rfl
structure PairS (ne : Prop) (a b : Int) (w : Wm) : Prop where
  one : w.q.count (-1) ≤ 1
  no : a = -1 → w.q.count (-1) = 0 ∧ w.cl = false
  cl : w.cl = true → w.q.count (-1) = 0 ∧ b ≠ -1
  yes : ne → a ≠ -1 → w.cl = false → w.q.count (-1) = 1
def val (p : Pr) : Int := if p.ow = -1 then p.mo else p.ow
def cW (w : Wm) : Int := lsum w.nt + if w.cl = true then 0 else lsum (ahead w.q)
structure InvS (M : Int) (n : Nat) (s : SS) : Prop where
  len : s.ps.length = n
  ow : ∀ p ∈ s.ps, p.ow = -1 ∨ 0 ≤ p.ow
  pr : ∀ (i j : Nat) (p r : Pr), s.ps[i]? = some p → s.ps[j]? = some r → PairS (i ≠ j) p.ow r.ow (s.w (smN i, smN j))
  dg : ∀ i, (s.w (smN i, smN i)).nt = [] ∧ ∀ x ∈ (s.w (smN i, smN i)).q, x = -1
  sum : lsum (s.ps.map val) + sumP n (fun a => cW (s.w a)) = M
theorem InvS.idx {M : Int} {n i : Nat} {s : SS} {p : Pr} (h : InvS M n s) (hp : s.ps[i]? = some p) : i < n := by
  have := (List.getElem?_eq_some_iff.1 hp).1; rw [h.len] at this; exact this
theorem set_casesQ {l : List Pr} {i j : Nat} {x y : Pr} (h : (l.set i x)[j]? = some y) : (j = i ∧ y = x) ∨ (j ≠ i ∧ l[j]? = some y) := by
  by_cases e : i = j
  · subst e
    have hl := (List.getElem?_eq_some_iff.1 h).1
    rw [List.length_set] at hl
    rw [List.getElem?_set_self hl] at h; cases h; exact .inl ⟨rfl, rfl⟩
  · rw [List.getElem?_set_ne e] at h; exact .inr ⟨Ne.symm e, h⟩
theorem InvS.zero {money : List Int} : InvS (lsum money) money.length (ss0 money) := by
  have hg : ∀ (i : Nat) (p : Pr), (ss0 money).ps[i]? = some p → p.ow = -1 := fun i p h => by
    simp only [ss0, List.getElem?_map] at h
    cases e : money[i]? with
    | none => rw [e] at h; cases h
    | some x => rw [e] at h; cases h; rfl
  refine ⟨by simp [ss0], fun p hp => ?_, fun i j p r hp hr => ⟨Nat.zero_le _, fun _ => ⟨rfl, rfl⟩, fun h => (by cases h), fun _ h => absurd (hg i p hp) h⟩, fun i => ⟨rfl, fun x hx => (by cases hx)⟩, ?_⟩
  · obtain ⟨i, hi⟩ := List.getElem?_of_mem hp
    exact .inl (hg i p hi)
  · unfold ss0
    rw [List.map_map, show (val ∘ fun x : Int => (⟨x, -1⟩ : Pr)) = id from rfl, List.map_id, show (fun a : Sm × Sm => cW ⟨[], [], false⟩) = fun _ => 0 from rfl, sumP_zero]; omega
/-- one way, and one process's money, changed -/
theorem InvS.way {M M' : Int} {n f i k : Nat} {s : SS} {p p' : Pr} {x : Wm} (h : InvS M n s) (hn : n ≤ 6) (hf : f < n) (hi : i < n) (hfi : f ≠ i) (hp : s.ps[k]? = some p) (ho : p'.ow = p.ow)
    (hx : ∀ (a b : Pr), s.ps[f]? = some a → s.ps[i]? = some b → PairS (f ≠ i) a.ow b.ow (s.w (smN f, smN i)) → PairS (f ≠ i) a.ow b.ow x)
    (hs : M' = M + val p' - val p + cW x - cW (s.w (smN f, smN i))) : InvS M' n ⟨s.ps.set k p', upW s.w (smN f, smN i) x⟩ := by
  have hget : ∀ (j : Nat) (y : Pr), (s.ps.set k p')[j]? = some y → ∃ z, s.ps[j]? = some z ∧ y.ow = z.ow := fun j y hy => by
    rcases set_casesQ hy with ⟨rfl, rfl⟩ | ⟨_, hy⟩
    · exact ⟨p, hp, ho⟩
    · exact ⟨y, hy, rfl⟩
  refine ⟨by show (s.ps.set k p').length = n; rw [List.length_set]; exact h.len, fun y hy => ?_, fun a b y z hy hz => ?_, fun a => ?_, ?_⟩
  · obtain ⟨j, hj⟩ := List.getElem?_of_mem hy
    obtain ⟨z, hz, e⟩ := hget j y hj
    rw [e]; exact h.ow z (List.mem_of_getElem? hz)
  · obtain ⟨y', hy', e1⟩ := hget a y hy
    obtain ⟨z', hz', e2⟩ := hget b z hz
    rw [e1, e2]
    have g := h.pr a b y' z' hy' hz'
    have b1 := h.idx hy'
    have b2 := h.idx hz'
    show PairS (a ≠ b) y'.ow z'.ow (upW s.w (smN f, smN i) x (smN a, smN b))
    unfold upW
    by_cases e : a = f ∧ b = i
    · obtain ⟨rfl, rfl⟩ := e
      rw [if_pos rfl]; exact hx y' z' hy' hz' g
    · rw [if_neg (pair_ne (by omega) (by omega) (by omega) (by omega) e)]; exact g
  · show (upW s.w (smN f, smN i) x (smN a, smN a)).nt = [] ∧ ∀ y ∈ (upW s.w (smN f, smN i) x (smN a, smN a)).q, y = -1
    unfold upW
    rw [if_neg]
    · exact h.dg a
    · intro e
      have := Prod.ext_iff.1 e
      exact hfi (smN_inj (by omega) (by omega) (this.1.symm.trans this.2))
  · have h1 := lsum_set (f := val) (p' := p') hp
    have h2 := sumP_up hn hf hi (w := s.w) (x := x) cW
    have h3 := h.sum
    show lsum ((s.ps.set k p').map val) + sumP n (fun a => cW (upW s.w (smN f, smN i) x a)) = M'
    omega
theorem List.set_getElem?_self' {α : Type} {l : List α} {i : Nat} {a : α} (h : l[i]? = some a) : l.set i a = l := by
  obtain ⟨h1, rfl⟩ := List.getElem?_eq_some_iff.1 h
  exact List.set_getElem_self h1
theorem InvS.note {M : Int} {n i : Nat} {s : SS} (h : InvS M n s) (hn : n ≤ 6) (h0 : ∀ p ∈ s.ps, 0 ≤ p.mo) : InvS M n (noteS s i) := by
  unfold noteS
  split
  · rename_i p hp
    split
    · rename_i hc
      have hi := h.idx hp
      have hmo := h0 p (List.mem_of_getElem? hp)
      have hmk : ∀ a b, a < n → markW s.w i (smN a, b) = if a = i then { s.w (smN a, b) with q := (s.w (smN a, b)).q ++ [-1] } else s.w (smN a, b) := fun a b ha => by
        unfold markW
        by_cases e : a = i
        · subst e; rw [if_pos rfl, if_pos rfl]
        · rw [if_neg e, if_neg (fun q => e (smN_inj (by omega) (by omega) q))]
      refine ⟨by show (s.ps.set i _).length = n; rw [List.length_set]; exact h.len, fun y hy => ?_, fun a b y z hy hz => ?_, fun a => ?_, ?_⟩
      · rcases set_casesP hy with rfl | hy
        · exact .inr hmo
        · exact h.ow y hy
      · have b1 : a < n := by have := (List.getElem?_eq_some_iff.1 hy).1; rw [show ((s.ps.set i { p with ow := p.mo }).length) = n from by rw [List.length_set]; exact h.len] at this; exact this
        show PairS (a ≠ b) y.ow z.ow (markW s.w i (smN a, smN b))
        rw [hmk a _ b1]
        have hz' : ∃ z', s.ps[b]? = some z' ∧ (z'.ow ≠ -1 → z.ow ≠ -1) := by
          rcases set_casesQ hz with ⟨rfl, rfl⟩ | ⟨_, hz⟩
          · exact ⟨p, hp, fun q => absurd hc q⟩
          · exact ⟨z, hz, id⟩
        obtain ⟨z', hz', hzz⟩ := hz'
        rcases set_casesQ hy with ⟨rfl, rfl⟩ | ⟨hne, hy⟩
        · have g := h.pr _ b p z' hp hz'
          obtain ⟨g1, g2⟩ := g.no hc
          rw [if_pos rfl]
          have hcnt : ((s.w (smN a, smN b)).q ++ [-1]).count (-1) = 1 := by rw [List.count_append, g1]; rfl
          exact ⟨by dsimp only; omega, fun q => (by have q : p.mo = -1 := q; omega), fun q => (by rw [show _ = false from g2] at q; cases q), fun _ _ _ => hcnt⟩
        · rw [if_neg hne]
          have g := h.pr a b y z' hy hz'
          exact ⟨g.one, g.no, fun q => ⟨(g.cl q).1, hzz (g.cl q).2⟩, g.yes⟩
      · show (markW s.w i (smN a, smN a)).nt = [] ∧ ∀ x ∈ (markW s.w i (smN a, smN a)).q, x = -1
        have g := h.dg a
        unfold markW
        split
        · refine ⟨g.1, fun x hx => ?_⟩
          rcases List.mem_append.1 hx with q | q
          · exact g.2 x q
          · exact List.mem_singleton.1 q
        · exact g
      · have h1 := lsum_set (f := val) (p' := { p with ow := p.mo }) hp
        have h2 : sumP n (fun a => cW (markW s.w i a)) = sumP n (fun a => cW (s.w a)) := sumP_congr fun a b ha hb => by
          rw [hmk a _ ha]
          by_cases e : a = i
          · subst e
            rw [if_pos rfl]
            obtain ⟨z, hz⟩ := get_of_lt (xs := s.ps) (k := b) (by rw [h.len]; exact hb)
            obtain ⟨g1, g2⟩ := (h.pr _ b p z hp hz).no hc
            unfold cW; dsimp only
            rw [ahead_app g1, ahead_none g1]
            simp [ahead]
          · rw [if_neg e]
        have h3 := h.sum
        have hv : val { p with ow := p.mo } = val p := by unfold val; dsimp only; rw [if_neg (by omega), if_pos hc]
        show lsum ((s.ps.set i { p with ow := p.mo }).map val) + sumP n (fun a => cW (markW s.w i a)) = M
        omega
    · exact h
  · exact h
theorem take_mark_eq {s : SS} {f i : Nat} {l : List Int} {p : Pr} (hq : (s.w (smN f, smN i)).q = -1 :: l) (hp : s.ps[i]? = some p) (hne : smN f ≠ smN i) :
    takeS s i f = (0, ⟨(noteS s i).ps, upW (noteS s i).w (smN f, smN i) ⟨l, (s.w (smN f, smN i)).nt, true⟩⟩) := by
  unfold takeS
  rw [hq]; dsimp only; rw [hp]; dsimp only; rw [if_pos rfl]
  unfold noteS
  dsimp only
  rw [hp]; dsimp only
  split
  · refine congrArg (Prod.mk 0) (congrArg (SS.mk _) (funext fun a => ?_))
    unfold upW markW
    by_cases e : a = (smN f, smN i)
    · rw [if_pos e, if_pos e]
    · rw [if_neg e, if_neg e]; dsimp only; rw [if_neg e]
  · refine congrArg (Prod.mk 0) (congrArg (SS.mk _) (funext fun a => ?_))
    unfold upW
    by_cases e : a = (smN f, smN i)
    · rw [if_pos e, if_pos e]
    · rw [if_neg e, if_neg e]; dsimp only; rw [if_neg e]
theorem note_self {s : SS} {i : Nat} {p : Pr} (hp : s.ps[i]? = some p) (h0 : 0 ≤ p.mo) : ∃ p', (noteS s i).ps[i]? = some p' ∧ p'.ow ≠ -1 := by
  unfold noteS
  rw [hp]; dsimp only
  split
  · exact ⟨{ p with ow := p.mo }, List.getElem?_set_self (List.getElem?_eq_some_iff.1 hp).1, by dsimp only; omega⟩
  · exact ⟨p, hp, by assumption⟩
theorem InvS.take {M : Int} {n i f : Nat} {s : SS} (h : InvS M n s) (hn : n ≤ 6) (h0 : ∀ p ∈ s.ps, 0 ≤ p.mo) (hi : i < n) (hf : f < n) (hne : f ≠ i) : InvS M n (takeS s i f).2 := by
  have hnk : smN f ≠ smN i := fun e => hne (smN_inj (by omega) (by omega) e)
  obtain ⟨p, hp⟩ := get_of_lt (xs := s.ps) (k := i) (by rw [h.len]; exact hi)
  obtain ⟨pf, hpf⟩ := get_of_lt (xs := s.ps) (k := f) (by rw [h.len]; exact hf)
  cases hq : (s.w (smN f, smN i)).q with
  | nil => unfold takeS; rw [hq]; exact h
  | cons x l =>
    have g := h.pr f i pf p hpf hp
    by_cases hx : x = -1
    · subst hx
      rw [take_mark_eq hq hp hnk]
      have h1 := h.note (i := i) hn h0
      obtain ⟨p', hp', hpo⟩ := note_self hp (h0 p (List.mem_of_getElem? hp))
      have hw : (noteS s i).w (smN f, smN i) = s.w (smN f, smN i) := note_w hnk
      have hl : l.count (-1) = 0 := by have := g.one; rw [hq, List.count_cons_self] at this; omega
      have hcl : (s.w (smN f, smN i)).cl = false := by
        cases e : (s.w (smN f, smN i)).cl
        · rfl
        · have := (g.cl e).1; rw [hq, List.count_cons_self] at this; omega
      have h2 := h1.way (M' := M) (x := ⟨l, (s.w (smN f, smN i)).nt, true⟩) hn hf hi hne hp' rfl (fun a b ha hb q => by
        rw [hw] at q
        refine ⟨by dsimp only; omega, fun z => ?_, fun _ => ⟨hl, ?_⟩, fun _ _ z => (by cases z)⟩
        · have := (q.no z).1; rw [hq, List.count_cons_self] at this; omega
        · cases hp'.symm.trans hb; exact hpo) (by
        rw [hw]; unfold cW; rw [hcl, hq, ahead_mark]; simp [lsum])
      rw [List.set_getElem?_self' hp'] at h2
      exact h2
    · unfold takeS; rw [hq]; dsimp only; rw [hp]; dsimp only; rw [if_neg hx]
      refine h.way hn hf hi hne hp rfl (fun a b ha hb q => ?_) ?_
      · have hc : (s.w (smN f, smN i)).q.count (-1) = l.count (-1) := by rw [hq, List.count_cons_of_ne hx]
        exact ⟨by have := q.one; dsimp only; omega, fun z => ⟨by have := (q.no z).1; dsimp only; omega, (q.no z).2⟩, fun z => ⟨by have := (q.cl z).1; dsimp only; omega, (q.cl z).2⟩, fun z1 z2 z3 => by have := q.yes z1 z2 z3; dsimp only; omega⟩
      · unfold cW val; dsimp only
        rw [hq, ahead_cons l hx]
        have e1 : lsum (x :: ahead l) = x + lsum (ahead l) := by simp [lsum]
        have e2 : lsum ((s.w (smN f, smN i)).nt ++ [x]) = lsum (s.w (smN f, smN i)).nt + x := by simp [lsum]
        cases hc : (s.w (smN f, smN i)).cl
        · by_cases ho : p.ow = -1
          · rw [if_pos ho, if_pos ho, if_neg (fun q => q.1 ho), if_neg (by decide), if_neg (by decide), e1]; omega
          · rw [if_neg ho, if_neg ho, if_pos ⟨ho, rfl⟩, if_neg (by decide), if_neg (by decide), e1, e2]; omega
        · have ho := (g.cl hc).2
          rw [if_neg ho, if_neg ho, if_neg (fun q => by cases q.2), if_pos rfl, if_pos rfl]; omega
theorem InvS.send {M : Int} {n i j : Nat} {s : SS} (nn : Int) (h : InvS M n s) (hn : n ≤ 6) (hi : i < n) (hj : j < n) (hne : i ≠ j) : InvS M n (sendS s i j nn).2 := by
  unfold sendS
  split
  · exact h
  · rename_i p hp
    split
    · exact h
    · rename_i hc
      have hx : nn ≠ -1 := by omega
      obtain ⟨pj, hpj⟩ := get_of_lt (xs := s.ps) (k := j) (by rw [h.len]; exact hj)
      have g := h.pr i j p pj hp hpj
      have hcn : ((s.w (smN i, smN j)).q ++ [nn]).count (-1) = (s.w (smN i, smN j)).q.count (-1) := by rw [List.count_append, List.count_cons_of_ne hx]; rfl
      refine h.way hn hi hj hne hp rfl (fun a b ha hb q => ?_) ?_
      · exact ⟨by have := q.one; dsimp only; omega, fun z => ⟨by have := (q.no z).1; dsimp only; omega, (q.no z).2⟩, fun z => ⟨by have := (q.cl z).1; dsimp only; omega, (q.cl z).2⟩, fun z1 z2 z3 => by have := q.yes z1 z2 z3; dsimp only; omega⟩
      · unfold cW val; dsimp only
        by_cases ho : p.ow = -1
        · obtain ⟨g1, g2⟩ := g.no ho
          rw [if_pos ho, if_pos ho, g2, if_neg (by decide), if_neg (by decide), ahead_app g1, ahead_none g1, lsum_app, ahead_cons [] hx]
          have : lsum (nn :: ahead []) = nn := by simp [lsum, ahead]
          omega
        · rw [if_neg ho, if_neg ho]
          cases hcl : (s.w (smN i, smN j)).cl
          · rw [if_neg (by decide), if_neg (by decide), ahead_has _ (by have := g.yes hne ho hcl; omega)]; omega
          · rw [if_pos rfl, if_pos rfl]; omega
theorem InvS.step {M M2 : Int} {n m : Nat} {s : SS} (h : InvS M n s) (hb : BdS m M2 n s) (hn : n ≤ 6) (c : Mv) : InvS M n (stepS s c).2 := by
  unfold stepS
  split
  · exact h
  · split
    · exact h
    · rename_i h2
      have h6 : isN s.ps.length c.who = true := by
        cases e : isN s.ps.length c.who
        · exact absurd e h2
        · rfl
      obtain ⟨i, e1, e2⟩ := isN_yes h6
      rw [h.len] at e2
      split
      · split
        · split
          · exact h.note hn hb.mo
          · exact h
        · exact h
      · split
        · exact h
        · rename_i h3
          have h5 : isN s.ps.length c.oth = true := by
            cases e : isN s.ps.length c.oth
            · exact absurd (.inl e) h3
            · rfl
          obtain ⟨j, e3, e4⟩ := isN_yes h5
          rw [h.len] at e4
          have hne : j ≠ i := fun e => h3 (.inr (by rw [e1, e3, e]))
          rw [e1, e3, Int.toNat_natCast, Int.toNat_natCast]
          split
          · exact h.take hn hb.mo e2 e4 hne
          · exact h.send c.n hn e2 e4 (Ne.symm hne)
theorem InvS.run {M M2 : Int} {n : Nat} (hn : n ≤ 6) : ∀ (l : List Mv) {m : Nat} {s : SS}, InvS M n s → BdS m M2 n s → InvS M n (stS s l)
  | [], m, s, h, _ => h
  | c :: l, m, s, h, hb => InvS.run hn l (h.step hb hn c) (hb.step hn c)
/-- all that was noted is all the money -/
theorem keeps {M : Int} {n : Nat} {s : SS} (h : InvS M n s) (hn : n ≤ 6) (hd : DoneS s n) : lsum (s.ps.map Pr.ow) + sum1 (fun i => sum1 (fun j => if i = j then 0 else lsum (s.w (smN i, smN j)).nt) n) n = M := by
  have h1 : s.ps.map val = s.ps.map Pr.ow := List.map_congr_left fun p hp => by unfold val; rw [if_neg (hd.1 p hp)]
  have h2 : sumP n (fun a => cW (s.w a)) = sum1 (fun i => sum1 (fun j => if i = j then 0 else lsum (s.w (smN i, smN j)).nt) n) n := by
    refine sum1_congr fun i hi => sum1_congr fun j hj => ?_
    show cW (s.w (smN i, smN j)) = _
    by_cases e : i = j
    · subst e
      rw [if_pos rfl]
      obtain ⟨g1, g2⟩ := h.dg i
      unfold cW
      rw [g1]
      split
      · rfl
      · cases hq : (s.w (smN i, smN i)).q with
        | nil => rfl
        | cons x l => rw [g2 x (by rw [hq]; simp), ahead_mark]; rfl
    · rw [if_neg e]; unfold cW; rw [if_pos (hd.2 i j hi hj e)]; omega
  rw [← h1, ← h2]; exact h.sum
end Go.Proofs.Ytanipkddfngnnaa
