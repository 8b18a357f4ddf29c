/- Where nobody begins nothing is noted. In plain words. No condition. -/
import Derived.Test.YtanipkddfngnnaaM3
namespace Go.Proofs.Ytanipkddfngnnaa
open Go.RowKit
set_option linter.unusedVariables false
set_option linter.unusedSimpArgs false
set_option maxRecDepth 100000

theorem none_step {M : Int} {n m : Nat} {s : SS} (h : InvS M n s) (hb : BdS m M n s) (hn : n ≤ 6) (hall : ∀ p ∈ s.ps, p.ow = -1) {c : Mv} (hc : c.kind ≠ 3) :
    (∀ p ∈ (stepS s c).2.ps, p.ow = -1) ∧ (∀ (i : Nat) (p r : Pr), s.ps[i]? = some p → (stepS s c).2.ps[i]? = some r → p.mo - (if (stepS s c).1 = 0 ∧ c.kind = 1 ∧ c.who = (i : Int) then c.n else 0) ≤ r.mo) ∧ ((stepS s c).1 = 0 ∧ c.kind = 1 → 1 ≤ c.n ∧ c.n ≤ M) := by
  have same : ∀ z : Int, z ≠ 0 → (∀ p ∈ (z, s).2.ps, p.ow = -1) ∧ (∀ (i : Nat) (p r : Pr), s.ps[i]? = some p → (z, s).2.ps[i]? = some r → p.mo - (if (z, s).1 = 0 ∧ c.kind = 1 ∧ c.who = (i : Int) then c.n else 0) ≤ r.mo) ∧ ((z, s).1 = 0 ∧ c.kind = 1 → 1 ≤ c.n ∧ c.n ≤ M) := fun z hz =>
    ⟨hall, fun i p r h1 h2 => by cases h1.symm.trans h2; rw [if_neg (fun q => hz q.1)]; omega, fun q => absurd q.1 hz⟩
  unfold stepS
  split
  · exact same 4 (by decide)
  · split
    · exact same 2 (by decide)
    · rename_i h2
      have h6 : isN s.ps.length c.who = true := by
        cases e : isN s.ps.length c.who
        · exact absurd e h2
        · rfl
      obtain ⟨i, e1, e2⟩ := isN_yes h6
      have e2' := e2
      rw [h.len] at e2'
      · split
        · exact same 2 (by decide)
        · rename_i h3
          have h5 : isN s.ps.length c.oth = true := by
            cases e : isN s.ps.length c.oth
            · exact absurd (.inl e) h3
            · rfl
          obtain ⟨j, e3, e4⟩ := isN_yes h5
          have e4' := e4
          rw [h.len] at e4'
          have hne : j ≠ i := fun e => h3 (.inr (by rw [e1, e3, e]))
          rw [e1, e3, Int.toNat_natCast, Int.toNat_natCast]
          obtain ⟨p, hp⟩ := get_of_lt (xs := s.ps) e2
          obtain ⟨pj, hpj⟩ := get_of_lt (xs := s.ps) e4
          split
          · rename_i hk
            have hk1 : ¬ c.kind = 1 := by omega
            cases hq : (s.w (smN j, smN i)).q with
            | nil => unfold takeS; rw [hq]; exact ⟨hall, fun a y r h1 h2 => by cases h1.symm.trans h2; rw [if_neg (fun q => hk1 q.2.1)]; omega, fun q => absurd q.2 hk1⟩
            | cons x l =>
              have hx : x ≠ -1 := fun e => by
                have := ((h.pr j i pj p hpj hp).no (hall pj (List.mem_of_getElem? hpj))).1
                rw [hq, e, List.count_cons_self] at this; omega
              have hx0 := hb.v (smN j, smN i) x (by rw [hq]; simp)
              have ht : takeS s i j = (0, ⟨s.ps.set i { p with mo := p.mo + x }, upW s.w (smN j, smN i) ⟨l, if p.ow ≠ -1 ∧ (s.w (smN j, smN i)).cl = false then (s.w (smN j, smN i)).nt ++ [x] else (s.w (smN j, smN i)).nt, (s.w (smN j, smN i)).cl⟩⟩) := by
                unfold takeS; rw [hq]; dsimp only; rw [hp]; dsimp only; rw [if_neg hx]
              rw [ht]
              refine ⟨fun y hy => ?_, fun a y r h1 h2 => ?_, fun q => absurd q.2 hk1⟩
              · rcases set_casesP hy with rfl | hy
                · exact hall p (List.mem_of_getElem? hp)
                · exact hall y hy
              · rw [if_neg (fun q => hk1 q.2.1)]
                rcases set_casesQ h2 with ⟨rfl, rfl⟩ | ⟨_, h2⟩
                · cases hp.symm.trans h1; dsimp only; omega
                · cases h1.symm.trans h2; omega
          · rename_i hk
            have hk1 : c.kind = 1 := by omega
            unfold sendS; rw [hp]; dsimp only
            split
            · have := same 2 (by decide); rw [e1] at this; exact this
            · rename_i hs
              refine ⟨fun y hy => ?_, fun a y r h1 h2 => ?_, fun q => ⟨by omega, by have := hb.mo_le (List.mem_of_getElem? hp); omega⟩⟩
              · rcases set_casesP hy with rfl | hy
                · exact hall p (List.mem_of_getElem? hp)
                · exact hall y hy
              · rcases set_casesQ h2 with ⟨rfl, rfl⟩ | ⟨hna, h2⟩
                · cases hp.symm.trans h1; rw [if_pos ⟨rfl, hk1, rfl⟩]; dsimp only; omega
                · cases h1.symm.trans h2; rw [if_neg (fun q => hna (by have := q.2.2; omega))]; omega
def hasN (x : Int) (i : Int) (cs : List Mv) (ks : List Int) : Nat → Int
  | 0 => x
  | k + 1 => match cs[k]?, ks[k]? with
    | some c, some z => if z = 0 ∧ c.kind = 1 ∧ c.who = i then hasN x i cs ks k - c.n else hasN x i cs ks k
    | _, _ => hasN x i cs ks k
theorem hasN_succ {x i : Int} {cs : List Mv} {ks : List Int} {k : Nat} {c : Mv} {z : Int} (h1 : cs[k]? = some c) (h2 : ks[k]? = some z) : hasN x i cs ks (k + 1) = if z = 0 ∧ c.kind = 1 ∧ c.who = i then hasN x i cs ks k - c.n else hasN x i cs ks k := by simp only [hasN]; rw [h1, h2]
theorem codes_take (s : SS) (cs : List Mv) (k : Nat) : codesS s (cs.take k) = (codesS s cs).take k := by
  have e : codesS s cs = codesS s (cs.take k) ++ codesS (stS s (cs.take k)) (cs.drop k) := by rw [← codesS_app, List.take_append_drop]
  have hl := codesS_len (cs.take k) s
  rw [List.length_take] at hl
  rcases Nat.le_total k cs.length with h | h
  · rw [Nat.min_eq_left h] at hl
    rw [e, List.take_append_of_le_length (by omega)]
    exact (List.take_of_length_le (by omega)).symm
  · rw [List.take_of_length_le h, List.take_of_length_le (by rw [codesS_len]; exact h)]
theorem codes_at {s : SS} {cs : List Mv} {i : Nat} {c : Mv} (h : cs[i]? = some c) : (codesS s cs)[i]? = some (stepS (stS s (cs.take i)) c).1 := by
  have hl : i < cs.length := (List.getElem?_eq_some_iff.1 h).1
  have e : (codesS s cs)[i]? = ((codesS s cs).take (i + 1))[i]? := by rw [List.getElem?_take_of_lt (by omega)]
  rw [e, ← codes_take, codesS_snoc h, List.getElem?_append_right (by rw [codesS_len, List.length_take]; omega), codesS_len, List.length_take, Nat.min_eq_left (by omega), Nat.sub_self]; rfl
theorem none_run {money : List Int} {cs : List Mv} (h6 : money.length ≤ 6) (hm0 : ∀ x ∈ money, 0 ≤ x) (hc : ∀ c ∈ cs, c.kind ≠ 3) : ∀ k, k ≤ cs.length →
    (∀ p ∈ (stS (ss0 money) (cs.take k)).ps, p.ow = -1) ∧ ∀ (i : Nat) (x : Int) (r : Pr), money[i]? = some x → (stS (ss0 money) (cs.take k)).ps[i]? = some r → hasN x i cs (codesS (ss0 money) cs) k ≤ r.mo
  | 0, _ => by
    refine ⟨fun p hp => ?_, fun i x r hx hr => ?_⟩
    · have hp : p ∈ (ss0 money).ps := hp
      simp only [ss0, List.mem_map] at hp
      obtain ⟨x, _, rfl⟩ := hp; rfl
    · have hr : (ss0 money).ps[i]? = some r := hr
      simp only [ss0, List.getElem?_map, hx] at hr
      cases hr; exact Int.le_refl _
  | k + 1, hk => by
    obtain ⟨c, hcc⟩ := get_of_lt (xs := cs) (k := k) (by omega)
    obtain ⟨h1, h2⟩ := none_run h6 hm0 hc k (by omega)
    have inv := (InvS.zero (money := money)).run h6 (cs.take k) (BdS.zero hm0)
    have bd := (BdS.zero hm0).run h6 (cs.take k)
    obtain ⟨g1, g2, g3⟩ := none_step inv bd h6 h1 (hc c (List.mem_of_getElem? hcc))
    rw [stS_snoc hcc]
    refine ⟨g1, fun i x r hx hr => ?_⟩
    obtain ⟨p, hp⟩ := get_of_lt (xs := (stS (ss0 money) (cs.take k)).ps) (k := i) (by rw [bd.len]; exact (List.getElem?_eq_some_iff.1 hx).1)
    have a1 := h2 i x p hx hp
    have a2 := g2 i p r hp hr
    rw [hasN_succ hcc (codes_at hcc)]
    split at a2
    · rename_i q; rw [if_pos q]; omega
    · rename_i q; rw [if_neg q]; omega
theorem none_send {money : List Int} {cs : List Mv} (h6 : money.length ≤ 6) (hm0 : ∀ x ∈ money, 0 ≤ x) (hc : ∀ c ∈ cs, c.kind ≠ 3) {k : Nat} {c : Mv} {z : Int} (h1 : cs[k]? = some c) (h2 : (codesS (ss0 money) cs)[k]? = some z) (h3 : z = 0) (h4 : c.kind = 1) : 1 ≤ c.n ∧ c.n ≤ lsum money := by
  have hk := (List.getElem?_eq_some_iff.1 h1).1
  obtain ⟨g1, _⟩ := none_run h6 hm0 hc k (by omega)
  have inv := (InvS.zero (money := money)).run h6 (cs.take k) (BdS.zero hm0)
  have bd := (BdS.zero hm0).run h6 (cs.take k)
  have := (none_step inv bd h6 g1 (hc c (List.mem_of_getElem? h1))).2.2
  rw [codes_at h1] at h2; cases h2
  exact this ⟨h3, h4⟩
theorem hasN_bd {x i : Int} {cs : List Mv} {ks : List Int} {M : Int} (h : ∀ (k : Nat) (c : Mv) (z : Int), cs[k]? = some c → ks[k]? = some z → z = 0 → c.kind = 1 → 1 ≤ c.n ∧ c.n ≤ M) (hM : 0 ≤ M) (hM6 : M ≤ 6000) : ∀ k : Nat, x - 6000 * k ≤ hasN x i cs ks k ∧ hasN x i cs ks k ≤ x
  | 0 => by simp [hasN]
  | k + 1 => by
    have ih := hasN_bd (x := x) (i := i) h hM hM6 k
    simp only [hasN]
    split
    · rename_i c z e1 e2
      split
      · rename_i q; have := h k c z e1 e2 q.1 q.2.1; omega
      · omega
    · omega
end Go.Proofs.Ytanipkddfngnnaa
