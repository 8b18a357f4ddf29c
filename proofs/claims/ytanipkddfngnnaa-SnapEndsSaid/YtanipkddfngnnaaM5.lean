/- In some turns all that is on its way comes. In plain words. No condition. -/
import Derived.Test.YtanipkddfngnnaaM4
namespace Go.Proofs.Ytanipkddfngnnaa
open Go.RowKit
set_option linter.unusedVariables false
set_option linter.unusedSimpArgs false
set_option maxRecDepth 100000

def bonus (s : SS) (f : Nat) : Nat := match s.ps[f]? with
  | some p => if p.ow = -1 then 1 else 0
  | none => 0
def pot (s : SS) (f i : Nat) : Nat := (s.w (smN f, smN i)).q.length + bonus s f
def bd (t f : Nat) : Nat := if 14 ≤ t then 0 else if t = 13 ∧ f = 0 then 0 else max (13 - t) 1
theorem bonus_at {s : SS} {f : Nat} {p : Pr} (h : s.ps[f]? = some p) : bonus s f = if p.ow = -1 then 1 else 0 := by unfold bonus; rw [h]
theorem bonus_le (s : SS) (f : Nat) : bonus s f ≤ 1 := by unfold bonus; split <;> (try split) <;> omega
theorem pot_note {M : Int} {n m i a b : Nat} {s : SS} (hb : BdS m M n s) (hi : i < 2048) (ha : a < 2048) : pot (noteS s i) a b = pot s a b ∧ (a ≠ i → bonus (noteS s i) a = bonus s a) ∧ bonus (noteS s i) a ≤ bonus s a := by
  unfold noteS
  split
  · rename_i p hp
    split
    · rename_i hc
      have hmo := hb.mo p (List.mem_of_getElem? hp)
      have hm : (markW s.w i (smN a, smN b)).q.length = (s.w (smN a, smN b)).q.length + if a = i then 1 else 0 := by
        unfold markW
        by_cases e : a = i
        · subst e; rw [if_pos rfl, if_pos rfl]; simp
        · rw [if_neg (fun q => e (smN_inj ha hi q)), if_neg e]; rfl
      have hbn : bonus ⟨s.ps.set i { p with ow := p.mo }, markW s.w i⟩ a = if a = i then 0 else bonus s a := by
        by_cases e : a = i
        · subst e
          rw [bonus_at (p := { p with ow := p.mo }) (List.getElem?_set_self (List.getElem?_eq_some_iff.1 hp).1), if_pos rfl, if_neg (by dsimp only; omega)]
        · rw [if_neg e]; unfold bonus; dsimp only; rw [List.getElem?_set_ne (Ne.symm e)]
      refine ⟨?_, fun e => by rw [hbn, if_neg e], by rw [hbn]; split <;> omega⟩
      show (markW s.w i (smN a, smN b)).q.length + _ = _
      rw [hm, hbn]
      unfold pot
      by_cases e : a = i
      · subst e; rw [if_pos rfl, if_pos rfl, bonus_at hp, if_pos hc]
      · rw [if_neg e, if_neg e]; omega
    · exact ⟨rfl, fun _ => rfl, Nat.le_refl _⟩
  · exact ⟨rfl, fun _ => rfl, Nat.le_refl _⟩
theorem pot_way {s : SS} {k f i a b : Nat} {p p' : Pr} {x : Wm} (hp : s.ps[k]? = some p) (ho : p'.ow = p.ow) (h1 : f < 2048) (h2 : i < 2048) (h3 : a < 2048) (h4 : b < 2048) :
    pot ⟨s.ps.set k p', upW s.w (smN f, smN i) x⟩ a b = (if a = f ∧ b = i then x.q.length + bonus s a else pot s a b) ∧ bonus ⟨s.ps.set k p', upW s.w (smN f, smN i) x⟩ a = bonus s a := by
  have hbn : bonus ⟨s.ps.set k p', upW s.w (smN f, smN i) x⟩ a = bonus s a := by
    by_cases e : k = a
    · subst e; rw [bonus_at (p := p') (List.getElem?_set_self (List.getElem?_eq_some_iff.1 hp).1), bonus_at hp, ho]
    · unfold bonus; dsimp only; rw [List.getElem?_set_ne e]
  refine ⟨?_, hbn⟩
  show (upW s.w (smN f, smN i) x (smN a, smN b)).q.length + _ = _
  rw [hbn]
  unfold upW
  by_cases e : a = f ∧ b = i
  · obtain ⟨rfl, rfl⟩ := e; rw [if_pos rfl, if_pos ⟨rfl, rfl⟩]
  · rw [if_neg (pair_ne h3 h4 h1 h2 e), if_neg e]; rfl
theorem pot_take {M : Int} {n m i f a b : Nat} {s : SS} (hb : BdS m M n s) (hn : n ≤ 6) (hi : i < n) (hf : f < n) (hne : f ≠ i) (ha : a < n) (hbn : b < n) :
    (pot (takeS s i f).2 a b = if a = f ∧ b = i ∧ (s.w (smN f, smN i)).q ≠ [] then pot s a b - 1 else pot s a b) ∧ bonus (takeS s i f).2 a ≤ bonus s a := by
  have hnk : smN f ≠ smN i := fun e => hne (smN_inj (by omega) (by omega) e)
  obtain ⟨p, hp⟩ := get_of_lt (xs := s.ps) (k := i) (by rw [hb.len]; exact hi)
  cases hq : (s.w (smN f, smN i)).q with
  | nil => unfold takeS; rw [hq]; exact ⟨by rw [if_neg (fun q => q.2.2 rfl)], Nat.le_refl _⟩
  | cons x l =>
    have key : ∀ (t : SS) (k : Nat) (q q' : Pr) (y : Wm), t.ps[k]? = some q → q'.ow = q.ow → y.q = l → (∀ a b, a < n → b < n → pot t a b = pot s a b) → (∀ a, a < n → bonus t a ≤ bonus s a) → (bonus t f = bonus s f) →
        (pot ⟨t.ps.set k q', upW t.w (smN f, smN i) y⟩ a b = if a = f ∧ b = i ∧ (x :: l : List Int) ≠ [] then pot s a b - 1 else pot s a b) ∧ bonus ⟨t.ps.set k q', upW t.w (smN f, smN i) y⟩ a ≤ bonus s a := fun t k q q' y g1 g2 g3 g4 g5 g6 => by
      obtain ⟨w1, w2⟩ := pot_way (x := y) (a := a) (b := b) (f := f) (i := i) g1 g2 (by omega) (by omega) (by omega) (by omega)
      rw [w1, w2]
      refine ⟨?_, g5 a ha⟩
      by_cases e : a = f ∧ b = i
      · obtain ⟨rfl, rfl⟩ := e
        rw [if_pos ⟨rfl, rfl⟩, if_pos ⟨rfl, rfl, by simp⟩, g3, g6]
        unfold pot; rw [hq]; simp
      · rw [if_neg e, if_neg (fun q => e ⟨q.1, q.2.1⟩), g4 a b ha hbn]
    by_cases hx : x = -1
    · subst hx
      rw [take_mark_eq hq hp hnk]
      obtain ⟨p', hp'⟩ := get_of_lt (xs := (noteS s i).ps) (k := i) (by rw [(hb.note (i := i)).len]; exact hi)
      have h9 := key (noteS s i) i p' p' ⟨l, (s.w (smN f, smN i)).nt, true⟩ hp' rfl rfl (fun a b ha _ => (pot_note hb (by omega) (by omega)).1) (fun a ha => (pot_note (b := 0) hb (by omega) (by omega)).2.2) ((pot_note (b := 0) hb (by omega) (by omega)).2.1 hne)
      rw [List.set_getElem?_self' hp'] at h9; exact h9
    · have ht : takeS s i f = (0, ⟨s.ps.set i { p with mo := p.mo + x }, upW s.w (smN f, smN i) ⟨l, if p.ow ≠ -1 ∧ (s.w (smN f, smN i)).cl = false then (s.w (smN f, smN i)).nt ++ [x] else (s.w (smN f, smN i)).nt, (s.w (smN f, smN i)).cl⟩⟩) := by
        unfold takeS; rw [hq]; dsimp only; rw [hp]; dsimp only; rw [if_neg hx]
      rw [ht]
      exact key s i p { p with mo := p.mo + x } _ hp rfl rfl (fun _ _ _ _ => rfl) (fun _ _ => Nat.le_refl _) rfl
structure Turn (n t i j : Nat) (s : SS) : Prop where
  zero : bonus s 0 = 0
  pots : ∀ f b, f < n → b < n → f ≠ b → pot s f b ≤ if b < i ∨ (b = i ∧ f < j) then bd (t + 1) f else bd t f
theorem Turn.skip {n t i : Nat} {s : SS} (h : Turn n t i i s) : Turn n t i (i + 1) s :=
  ⟨h.zero, fun f b h1 h2 h3 => by
    have := h.pots f b h1 h2 h3
    by_cases e : b < i ∨ (b = i ∧ f < i)
    · rw [if_pos e] at this; rw [if_pos (by omega)]; exact this
    · rw [if_neg e] at this; rw [if_neg (by omega)]; exact this⟩
theorem Turn.row {n t i : Nat} {s : SS} (h : Turn n t i n s) : Turn n t (i + 1) 0 s :=
  ⟨h.zero, fun f b h1 h2 h3 => by
    have := h.pots f b h1 h2 h3
    by_cases e : b < i ∨ (b = i ∧ f < n)
    · rw [if_pos e] at this; rw [if_pos (by omega)]; exact this
    · rw [if_neg e] at this; rw [if_neg (by omega)]; exact this⟩
theorem Turn.next {n t : Nat} {s : SS} (h : Turn n t n 0 s) : Turn n (t + 1) 0 0 s :=
  ⟨h.zero, fun f b h1 h2 h3 => by have := h.pots f b h1 h2 h3; rw [if_pos (by omega)] at this; rw [if_neg (by omega)]; exact this⟩
theorem Turn.all {M : Int} {n t i j : Nat} {s : SS} (h : Turn n t i j s) (inv : InvS M n s) (ht : 13 ≤ t) {f : Nat} (hf : f < n) : bonus s f = 0 := by
  by_cases e : f = 0
  · subst e; exact h.zero
  · obtain ⟨p0, hp0⟩ := get_of_lt (xs := s.ps) (k := 0) (by rw [inv.len]; omega)
    obtain ⟨pf, hpf⟩ := get_of_lt (xs := s.ps) (k := f) (by rw [inv.len]; exact hf)
    have g := inv.pr 0 f p0 pf hp0 hpf
    have hz := h.zero
    rw [bonus_at hp0] at hz
    have h0 : p0.ow ≠ -1 := fun q => by rw [if_pos q] at hz; omega
    have hp := h.pots 0 f (by omega) hf (Ne.symm e)
    have hb1 : bd (t + 1) 0 = 0 := by unfold bd; rw [if_pos (by omega)]
    have hb2 : bd t 0 = 0 := by unfold bd; split
                                · rfl
                                · rw [if_pos ⟨by omega, rfl⟩]
    rw [hb1, hb2] at hp
    have hq : (s.w (smN 0, smN f)).q.length = 0 := by unfold pot at hp; split at hp <;> omega
    have hq := List.eq_nil_of_length_eq_zero hq
    have hcl : (s.w (smN 0, smN f)).cl = true := by
      cases c : (s.w (smN 0, smN f)).cl
      · have := g.yes (Ne.symm e) h0 c; rw [hq] at this; cases this
      · rfl
    rw [bonus_at hpf, if_neg (g.cl hcl).2]
theorem Turn.take {M M2 : Int} {n m t i j : Nat} {s : SS} (h : Turn n t i j s) (inv : InvS M n s) (hb : BdS m M2 n s) (hn : n ≤ 6) (hi : i < n) (hj : j < n) (hne : j ≠ i) : Turn n t i (j + 1) (takeS s i j).2 := by
  refine ⟨?_, fun f b h1 h2 h3 => ?_⟩
  · have := (pot_take (a := 0) (b := 0) hb hn hi hj hne (by omega) (by omega)).2
    have := h.zero; omega
  · rw [(pot_take hb hn hi hj hne h1 h2).1]
    have hp := h.pots f b h1 h2 h3
    by_cases e : f = j ∧ b = i
    · obtain ⟨rfl, rfl⟩ := e
      rw [if_neg (by omega)] at hp
      rw [if_pos (show b < b ∨ (b = b ∧ f < f + 1) by omega)]
      by_cases hq : (s.w (smN f, smN b)).q = []
      · rw [if_neg (fun q => q.2.2 hq)]
        have hpt : pot s f b = bonus s f := by unfold pot; rw [hq]; simp
        rw [hpt]
        have hbl := bonus_le s f
        by_cases h0 : bd (t + 1) f = 0
        · rw [h0]
          unfold bd at h0
          split at h0
          · exact Nat.le_of_eq (h.all inv (by omega) h1)
          · split at h0
            · rename_i q; rw [q.2]; exact Nat.le_of_eq h.zero
            · omega
        · omega
      · rw [if_pos ⟨rfl, rfl, hq⟩]
        have : bd t f - 1 ≤ bd (t + 1) f := by unfold bd; (repeat' split) <;> omega
        omega
    · rw [if_neg (fun q => e ⟨q.1, q.2.1⟩)]
      by_cases e2 : b < i ∨ (b = i ∧ f < j)
      · rw [if_pos e2] at hp; rw [if_pos (by omega)]; exact hp
      · rw [if_neg e2] at hp; rw [if_neg (by omega)]; exact hp
theorem pot_step {M : Int} {n m a b : Nat} {s : SS} (hb : BdS m M n s) (hn : n ≤ 6) (c : Mv) (ha : a < n) (hbn : b < n) : pot (stepS s c).2 a b ≤ pot s a b + 1 := by
  unfold stepS
  split
  · exact Nat.le_succ _
  · split
    · exact Nat.le_succ _
    · rename_i h2
      have h6 : isN s.ps.length c.who = true := by
        cases e : isN s.ps.length c.who
        · exact absurd e h2
        · rfl
      obtain ⟨i, e1, e2⟩ := isN_yes h6
      have e2' := e2
      rw [hb.len] at e2'
      split
      · rw [e1, Int.toNat_natCast]
        split
        · split
          · show pot (noteS s i) a b ≤ _
            rw [(pot_note hb (by omega) (by omega)).1]; exact Nat.le_succ _
          · exact Nat.le_succ _
        · exact Nat.le_succ _
      · split
        · exact Nat.le_succ _
        · rename_i h3
          have h5 : isN s.ps.length c.oth = true := by
            cases e : isN s.ps.length c.oth
            · exact absurd (.inl e) h3
            · rfl
          obtain ⟨j, e3, e4⟩ := isN_yes h5
          rw [hb.len] at e4
          have hne : j ≠ i := fun e => h3 (.inr (by rw [e1, e3, e]))
          rw [e1, e3, Int.toNat_natCast, Int.toNat_natCast]
          split
          · rw [(pot_take hb hn e2' e4 hne ha hbn).1]; split <;> omega
          · obtain ⟨p, hp⟩ := get_of_lt (xs := s.ps) e2
            unfold sendS; rw [hp]; dsimp only
            split
            · exact Nat.le_succ _
            · show pot ⟨s.ps.set i { p with mo := p.mo - c.n }, upW s.w (smN i, smN j) { s.w (smN i, smN j) with q := (s.w (smN i, smN j)).q ++ [c.n] }⟩ a b ≤ _
              have h9 := (pot_way (p' := { p with mo := p.mo - c.n }) (x := { s.w (smN i, smN j) with q := (s.w (smN i, smN j)).q ++ [c.n] }) (f := i) (i := j) (a := a) (b := b) hp rfl (by omega) (by omega) (by omega) (by omega)).1
              rw [h9]
              split
              · rename_i e; obtain ⟨rfl, rfl⟩ := e
                unfold pot; simp; omega
              · exact Nat.le_succ _
theorem pot_run {M : Int} {n a b : Nat} (hn : n ≤ 6) (ha : a < n) (hbn : b < n) : ∀ (l : List Mv) {m : Nat} {s : SS}, BdS m M n s → pot (stS s l) a b ≤ pot s a b + l.length
  | [], m, s, _ => Nat.le_refl _
  | c :: l, m, s, hb => by
    have h1 := pot_run hn ha hbn l (hb.step hn c)
    have h2 := pot_step hb hn c ha hbn
    show pot (stS (stepS s c).2 l) a b ≤ _
    simp only [List.length_cons]; omega
abbrev beg : Mv := ⟨3, 0, 0, 0⟩
theorem Turn.start {money : List Int} {cs : List Mv} (h1 : 1 ≤ money.length) (h6 : money.length ≤ 6) (hm0 : ∀ x ∈ money, 0 ≤ x) (hc : cs.length ≤ 12) : Turn money.length 0 0 0 (stS (ss0 money) (cs ++ [beg])) := by
  have hb := (BdS.zero hm0).run h6 cs
  have e : stS (ss0 money) (cs ++ [beg]) = noteS (stS (ss0 money) cs) 0 := by
    rw [stS_app]
    show (stepS (stS (ss0 money) cs) beg).2 = _
    obtain ⟨p, hp⟩ := get_of_lt (xs := (stS (ss0 money) cs).ps) (k := 0) (by rw [hb.len]; omega)
    unfold stepS
    rw [if_neg (by decide), if_neg (by rw [show isN (stS (ss0 money) cs).ps.length beg.who = true from decide_eq_true (by rw [hb.len]; show (0:Int) ≤ 0 ∧ (0:Int) < _; omega)]; decide), if_pos rfl]
    rw [show beg.who.toNat = 0 from rfl]
    rw [hp]; dsimp only
    by_cases ho : p.ow = -1
    · rw [if_pos ho]
    · rw [if_neg ho]; unfold noteS; rw [hp]; dsimp only; rw [if_neg ho]
  rw [e]
  refine ⟨?_, fun f b hf hbn hne => ?_⟩
  · obtain ⟨p, hp⟩ := get_of_lt (xs := (stS (ss0 money) cs).ps) (k := 0) (by rw [hb.len]; omega)
    obtain ⟨p', hp', ho⟩ := note_self hp (hb.mo p (List.mem_of_getElem? hp))
    rw [bonus_at hp', if_neg ho]
  · rw [(pot_note hb (by omega) (by omega)).1, if_neg (by omega)]
    have := pot_run h6 hf hbn cs (BdS.zero hm0)
    have h0 : pot (ss0 money) f b ≤ 1 := by have := bonus_le (ss0 money) f; unfold pot; show 0 + _ ≤ 1; omega
    unfold bd
    rw [if_neg (by omega), if_neg (by omega)]; omega
theorem Turn.done {M M2 : Int} {n m t : Nat} {s : SS} (h : Turn n t 0 0 s) (ht : 14 ≤ t) (inv : InvS M n s) (hb : BdS m M2 n s) : DoneS s n ∧ lsum (s.ps.map Pr.mo) = M2 := by
  have hq : ∀ f b, f < n → b < n → f ≠ b → (s.w (smN f, smN b)).q = [] := fun f b h1 h2 h3 => by
    have := h.pots f b h1 h2 h3
    rw [if_neg (by omega), show bd t f = 0 from by unfold bd; rw [if_pos ht]] at this
    exact List.eq_nil_of_length_eq_zero (by unfold pot at this; omega)
  have ho : ∀ (f : Nat) (p : Pr), s.ps[f]? = some p → p.ow ≠ -1 := fun f p hp q => by
    have := h.all inv (by omega) (inv.idx hp)
    rw [bonus_at hp, if_pos q] at this; omega
  refine ⟨⟨fun p hp => ?_, fun i j hi hj hne => ?_⟩, ?_⟩
  · obtain ⟨f, hf⟩ := List.getElem?_of_mem hp; exact ho f p hf
  · obtain ⟨p, hp⟩ := get_of_lt (xs := s.ps) (k := i) (by rw [inv.len]; exact hi)
    obtain ⟨r, hr⟩ := get_of_lt (xs := s.ps) (k := j) (by rw [inv.len]; exact hj)
    have g := inv.pr i j p r hp hr
    cases c : (s.w (smN i, smN j)).cl
    · have := g.yes hne (ho i p hp) c; rw [hq i j hi hj hne] at this; cases this
    · rfl
  · have h2 : sumP n (fun a => qs (s.w a).q) = 0 := by
      rw [sumP_congr (g := fun _ => 0) fun i j hi hj => ?_]
      · exact sumP_zero n
      · by_cases e : i = j
        · subst e
          have g := (inv.dg i).2
          have : ∀ l : List Int, (∀ x ∈ l, x = -1) → qs l = 0 := fun l => by
            induction l with
            | nil => intro _; rfl
            | cons x l ih => intro hl; rw [qs_cons, if_pos (hl x (by simp)), ih fun y hy => hl y (by simp [hy])]; rfl
          exact this _ g
        · rw [hq i j hi hj e]; rfl
    have h3 := hb.tot; unfold totS at h3; omega
end Go.Proofs.Ytanipkddfngnnaa
