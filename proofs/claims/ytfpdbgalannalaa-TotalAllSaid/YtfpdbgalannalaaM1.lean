/- Keys: what holds at each step. Plain words. No condition. -/
import Derived.Test.YtfpdbgalannalaaA3
namespace Go.Proofs.Ytfpdbgalannalaa
open Go.RowKit
set_option linter.unusedVariables false
set_option linter.unusedSimpArgs false
set_option maxRecDepth 100000

theorem set_cases' {α : Type} {l : List α} {i j : Nat} {x y : α} (h : (l.set i x)[j]? = some y) : (j = i ∧ y = x) ∨ (j ≠ i ∧ l[j]? = some y) := by
  by_cases e : i = j
  · subst e
    have hl := (List.getElem?_eq_some_iff.1 h).1
    rw [List.length_set] at hl
    rw [List.getElem?_set_self hl] at h; cases h; exact .inl ⟨rfl, rfl⟩
  · rw [List.getElem?_set_ne e] at h; exact .inr ⟨Ne.symm e, h⟩
theorem upG_self (g : Nat → Option Ent) (m : Nat) (e : Ent) : upG g m e m = some e := if_pos rfl
theorem upG_ne {g : Nat → Option Ent} {m m' : Nat} {e : Ent} (h : m' ≠ m) : upG g m e m' = g m' := if_neg h
theorem upG_cases {g : Nat → Option Ent} {m m' : Nat} {e e' : Ent} (h : upG g m e m' = some e') : (m' = m ∧ e' = e) ∨ (m' ≠ m ∧ g m' = some e') := by
  by_cases c : m' = m
  · subst c; rw [upG_self] at h; exact .inl ⟨rfl, (Option.some.inj h).symm⟩
  · rw [upG_ne c] at h; exact .inr ⟨c, h⟩
theorem fin_iff {m k : Nat} : ∀ {l : List Pt} {b : Nat}, finalT l m b = some k ↔ ((∀ p ∈ l, ∃ e, p.got m = some e ∧ e.k ≤ k) ∧ b ≤ k ∧ (k = b ∨ ∃ p ∈ l, ∃ e, p.got m = some e ∧ e.k = k))
  | [], b => by
    simp only [finalT]
    constructor
    · intro h; cases h; exact ⟨fun p hp => by simp at hp, Nat.le_refl _, .inl rfl⟩
    · rintro ⟨_, _, h | ⟨p, hp, _⟩⟩
      · rw [h]
      · simp at hp
  | p :: l, b => by
    simp only [finalT]
    cases hg : p.got m with
    | none =>
      simp only
      constructor
      · intro h; cases h
      · rintro ⟨h, _⟩
        obtain ⟨e, he, _⟩ := h p (by simp)
        rw [hg] at he; cases he
    | some e =>
      simp only
      rw [fin_iff (l := l) (b := max b e.k)]
      constructor
      · rintro ⟨h1, h2, h3⟩
        refine ⟨fun q hq => ?_, by omega, ?_⟩
        · rcases List.mem_cons.1 hq with rfl | hq
          · exact ⟨e, hg, by omega⟩
          · exact h1 q hq
        · rcases h3 with h3 | ⟨q, hq, e2, h4, h5⟩
          · rcases Nat.le_total b e.k with c | c
            · exact .inr ⟨p, by simp, e, hg, by omega⟩
            · exact .inl (by omega)
          · exact .inr ⟨q, by simp [hq], e2, h4, h5⟩
      · rintro ⟨h1, h2, h3⟩
        obtain ⟨e0, he0, hk0⟩ := h1 p (by simp)
        cases hg.symm.trans he0
        refine ⟨fun q hq => h1 q (by simp [hq]), by omega, ?_⟩
        rcases h3 with h3 | ⟨q, hq, e2, h4, h5⟩
        · exact .inl (by omega)
        · rcases List.mem_cons.1 hq with rfl | hq
          · cases hg.symm.trans h4; exact .inl (by omega)
          · exact .inr ⟨q, hq, e2, h4, h5⟩
theorem fin_congr {m : Nat} : ∀ {l : List Pt} {i b : Nat} {p y : Pt}, l[i]? = some p → (y.got m).map Ent.k = (p.got m).map Ent.k → finalT (l.set i y) m b = finalT l m b
  | [], i, b, p, y, h, _ => by simp at h
  | q :: l, 0, b, p, y, h, he => by
    simp at h; subst h
    simp only [List.set_cons_zero, finalT]
    cases h1 : y.got m <;> cases h2 : q.got m <;> rw [h1, h2] at he <;> simp at he
    all_goals first | rfl | simp only [he]
  | q :: l, i + 1, b, p, y, h, he => by
    simp only [List.set_cons_succ, finalT]
    cases q.got m with
    | none => rfl
    | some e => exact fin_congr (l := l) (by simpa using h) he
def kof (p : Pt) (m : Nat) : Nat := match p.got m with
  | some e => e.k
  | none => 0
theorem kof_eq {p : Pt} {m : Nat} {e : Ent} (h : p.got m = some e) : kof p m = e.k := by unfold kof; rw [h]
structure PI (B : Nat) (p : Pt) : Prop where
  msg : ∀ m e, p.got m = some e → m < B
  hf : ∀ m e, p.got m = some e → e.hrd = true → e.fin = true
  hl : ∀ m, m ∈ p.lst ↔ ∃ e, p.got m = some e ∧ e.hrd = true
  od : ∀ m e m' e', p.got m = some e → e.hrd = true → p.got m' = some e' → e'.hrd = false → e.k < e'.k
  so : p.lst.Pairwise (fun a b => kof p a < kof p b)
  kC : ∀ m e, p.got m = some e → e.k / 8 ≤ p.n
theorem PI.mono {B B' : Nat} {p : Pt} (h : PI B p) (hb : B ≤ B') : PI B' p := ⟨fun m e he => Nat.lt_of_lt_of_le (h.msg m e he) hb, h.hf, h.hl, h.od, h.so, h.kC⟩
theorem nodup_le : ∀ (n : Nat) (l : List Nat), l.Nodup → (∀ x ∈ l, x < n) → l.length ≤ n
  | 0, [], _, _ => Nat.le_refl _
  | 0, x :: l, _, h => absurd (h x (by simp)) (Nat.not_lt_zero _)
  | n + 1, l, hn, h => by
    have h1 := nodup_le n (l.filter (fun x => decide (x ≠ n))) (hn.filter _) (fun x hx => by
      have := List.mem_filter.1 hx
      have h2 := h x this.1
      have h3 := of_decide_eq_true this.2
      omega)
    have h2 : l.length ≤ (l.filter (fun x => decide (x ≠ n))).length + 1 := by
      clear h h1
      induction l with
      | nil => simp
      | cons a l ih =>
        obtain ⟨n1, n2⟩ := List.nodup_cons.1 hn
        by_cases c : a = n
        · subst c
          have : l.filter (fun x => decide (x ≠ a)) = l := List.filter_eq_self.2 fun x hx => decide_eq_true fun e => n1 (e ▸ hx)
          simp only [List.filter_cons, this]; simp
        · have := ih n2
          rw [List.filter_cons_of_pos (by simpa using c)]
          simp only [List.length_cons]; omega
    omega
theorem PI.nodup {B : Nat} {p : Pt} (h : PI B p) : p.lst.Nodup := h.so.imp fun h e => by rw [e] at h; omega
theorem PI.len {B : Nat} {p : Pt} (h : PI B p) : p.lst.length ≤ B := nodup_le B p.lst h.nodup fun m hm => by
  obtain ⟨e, he, _⟩ := (h.hl m).1 hm
  exact h.msg m e he
theorem PI.hear {B : Nat} {p : Pt} {m : Nat} {e : Ent} (h : PI B p) (hm : UnhMin p m e) (hf : e.fin = true) : PI B (hear p m e) := by
  obtain ⟨g1, g2, g3⟩ := hm
  have hk : ∀ a, kof (Go.Proofs.Ytfpdbgalannalaa.hear p m e) a = kof p a := fun a => by
    by_cases c : a = m
    · subst c; rw [kof_eq (upG_self _ _ _), kof_eq g1]
    · unfold kof; rw [show (Go.Proofs.Ytfpdbgalannalaa.hear p m e).got a = p.got a from upG_ne c]
  refine ⟨fun m' e' he => ?_, fun m' e' he hh => ?_, fun m' => ?_, fun m1 e1 m2 e2 h1 h2 h3 h4 => ?_, ?_, fun m' e' he => ?_⟩
  · rcases upG_cases he with ⟨rfl, rfl⟩ | ⟨_, he⟩
    · exact h.msg _ _ g1
    · exact h.msg _ _ he
  · rcases upG_cases he with ⟨rfl, rfl⟩ | ⟨_, he⟩
    · exact hf
    · exact h.hf _ _ he hh
  · show m' ∈ p.lst ++ [m] ↔ _
    rw [List.mem_append, List.mem_singleton, h.hl]
    constructor
    · rintro (⟨e', he, hh⟩ | rfl)
      · have c : m' ≠ m := fun c => by subst c; rw [g1] at he; cases he; rw [g2] at hh; cases hh
        exact ⟨e', (upG_ne c).trans he, hh⟩
      · exact ⟨_, upG_self _ _ _, rfl⟩
    · rintro ⟨e', he, hh⟩
      rcases upG_cases he with ⟨rfl, rfl⟩ | ⟨_, he⟩
      · exact .inr rfl
      · exact .inl ⟨e', he, hh⟩
  · rcases upG_cases h3 with ⟨rfl, rfl⟩ | ⟨c3, h3'⟩
    · cases h4
    · rcases upG_cases h1 with ⟨rfl, rfl⟩ | ⟨c1, h1'⟩
      · exact g3 m2 e2 h3' h4 c3
      · exact h.od m1 e1 m2 e2 h1' h2 h3' h4
  · show List.Pairwise _ (p.lst ++ [m])
    rw [List.pairwise_append]
    refine ⟨h.so.imp fun hh => by rw [hk, hk]; exact hh, List.pairwise_singleton .., fun a ha b hb => ?_⟩
    rw [List.mem_singleton] at hb; subst hb
    obtain ⟨ea, hea, hha⟩ := (h.hl a).1 ha
    rw [hk, hk, kof_eq hea, kof_eq g1]
    exact h.od a ea b e hea hha g1 g2
  · rcases upG_cases he with ⟨rfl, rfl⟩ | ⟨_, he⟩
    · exact (show e.k / 8 ≤ p.n from h.kC _ _ g1)
    · exact h.kC _ _ he
theorem PI.take {B m i : Nat} {p : Pt} (h : PI B p) (hg : p.got m = none) (hm : m < B) (hi : i < 8) : PI B ⟨p.n + 1, upG p.got m ⟨(p.n + 1) * 8 + i, false, false⟩, p.lst⟩ := by
  refine ⟨fun m' e' he => ?_, fun m' e' he hh => ?_, fun m' => ?_, fun m1 e1 m2 e2 h1 h2 h3 h4 => ?_, ?_, fun m' e' he => ?_⟩
  · rcases upG_cases he with ⟨rfl, rfl⟩ | ⟨_, he⟩
    · exact hm
    · exact h.msg _ _ he
  · rcases upG_cases he with ⟨rfl, rfl⟩ | ⟨_, he⟩
    · cases hh
    · exact h.hf _ _ he hh
  · show m' ∈ p.lst ↔ _
    rw [h.hl]
    constructor
    · rintro ⟨e', he, hh⟩
      have c : m' ≠ m := fun c => by subst c; rw [hg] at he; cases he
      exact ⟨e', (upG_ne c).trans he, hh⟩
    · rintro ⟨e', he, hh⟩
      rcases upG_cases he with ⟨rfl, rfl⟩ | ⟨_, he⟩
      · cases hh
      · exact ⟨e', he, hh⟩
  · rcases upG_cases h1 with ⟨rfl, rfl⟩ | ⟨c1, h1'⟩
    · cases h2
    · rcases upG_cases h3 with ⟨rfl, rfl⟩ | ⟨c3, h3'⟩
      · have := h.kC _ _ h1'
        dsimp only; omega
      · exact h.od m1 e1 m2 e2 h1' h2 h3' h4
  · refine h.so.imp_of_mem fun {a b} ha hb hh => ?_
    have hk : ∀ a, a ∈ p.lst → kof ⟨p.n + 1, upG p.got m ⟨(p.n + 1) * 8 + i, false, false⟩, p.lst⟩ a = kof p a := fun a ha => by
      obtain ⟨ea, hea, _⟩ := (h.hl a).1 ha
      have c : a ≠ m := fun c => by subst c; rw [hg] at hea; cases hea
      unfold kof
      rw [show (⟨p.n + 1, upG p.got m ⟨(p.n + 1) * 8 + i, false, false⟩, p.lst⟩ : Pt).got a = p.got a from upG_ne c]
    rw [hk a ha, hk b hb]; exact hh
  · rcases upG_cases he with ⟨rfl, rfl⟩ | ⟨_, he⟩
    · dsimp only; omega
    · have := h.kC _ _ he
      exact Nat.le_succ_of_le this
theorem PI.tell {B m k : Nat} {p : Pt} {e : Ent} (h : PI B p) (hg : p.got m = some e) (hnf : e.fin = false) (hk : e.k ≤ k) : PI B ⟨max p.n (k / 8), upG p.got m ⟨k, true, e.hrd⟩, p.lst⟩ := by
  have hnh : e.hrd = false := by
    cases c : e.hrd with
    | false => rfl
    | true => rw [h.hf m e hg c] at hnf; cases hnf
  rw [hnh]
  refine ⟨fun m' e' he => ?_, fun m' e' he hh => ?_, fun m' => ?_, fun m1 e1 m2 e2 h1 h2 h3 h4 => ?_, ?_, fun m' e' he => ?_⟩
  · rcases upG_cases he with ⟨rfl, rfl⟩ | ⟨_, he⟩
    · exact h.msg _ _ hg
    · exact h.msg _ _ he
  · rcases upG_cases he with ⟨rfl, rfl⟩ | ⟨_, he⟩
    · rfl
    · exact h.hf _ _ he hh
  · show m' ∈ p.lst ↔ _
    rw [h.hl]
    constructor
    · rintro ⟨e', he, hh⟩
      have c : m' ≠ m := fun c => by subst c; rw [hg] at he; cases he; rw [hnh] at hh; cases hh
      exact ⟨e', (upG_ne c).trans he, hh⟩
    · rintro ⟨e', he, hh⟩
      rcases upG_cases he with ⟨rfl, rfl⟩ | ⟨_, he⟩
      · cases hh
      · exact ⟨e', he, hh⟩
  · rcases upG_cases h1 with ⟨rfl, rfl⟩ | ⟨c1, h1'⟩
    · cases h2
    · rcases upG_cases h3 with ⟨rfl, rfl⟩ | ⟨c3, h3'⟩
      · have := h.od m1 e1 _ e h1' h2 hg hnh
        dsimp only; omega
      · exact h.od m1 e1 m2 e2 h1' h2 h3' h4
  · refine h.so.imp_of_mem fun {a b} ha hb hh => ?_
    have hk : ∀ a, a ∈ p.lst → kof ⟨max p.n (k / 8), upG p.got m ⟨k, true, false⟩, p.lst⟩ a = kof p a := fun a ha => by
      obtain ⟨ea, hea, hha⟩ := (h.hl a).1 ha
      have c : a ≠ m := fun c => by subst c; rw [hg] at hea; cases hea; rw [hnh] at hha; cases hha
      unfold kof
      rw [show (⟨max p.n (k / 8), upG p.got m ⟨k, true, false⟩, p.lst⟩ : Pt).got a = p.got a from upG_ne c]
    rw [hk a ha, hk b hb]; exact hh
  · rcases upG_cases he with ⟨rfl, rfl⟩ | ⟨_, he⟩
    · dsimp only; omega
    · have := h.kC _ _ he
      exact Nat.le_trans this (Nat.le_max_left ..)
structure InvT (t : Nat) (s : TS) : Prop where
  nb : ∀ p ∈ s.ps, p.n ≤ t
  many : s.many ≤ t
  pi : ∀ (i : Nat) (p : Pt), s.ps[i]? = some p → PI s.many p
  own : ∀ (i : Nat) (p : Pt) (m : Nat) (e : Ent), s.ps[i]? = some p → p.got m = some e → 1 ≤ e.k / 8 ∧ ∃ q, s.ps[e.k % 8]? = some q ∧ e.k / 8 ≤ q.n
  dist : ∀ (i : Nat) (p : Pt) (j : Nat) (q : Pt) (m m' : Nat) (e e' : Ent), s.ps[i]? = some p → s.ps[j]? = some q → p.got m = some e → q.got m' = some e' → m ≠ m' → e.k ≠ e'.k
  fF : ∀ (i : Nat) (p : Pt) (m : Nat) (e : Ent), s.ps[i]? = some p → p.got m = some e → e.fin = true → finalT s.ps m 0 = some e.k
theorem InvT.zero (n : Nat) : InvT 0 (ts0 n) := by
  have h0 : ∀ (i : Nat) (p : Pt), (ts0 n).ps[i]? = some p → p = ⟨0, fun _ => none, []⟩ := fun i p h => by
    simp only [ts0, List.getElem?_replicate] at h; split at h
    · cases h; rfl
    · cases h
  refine ⟨fun p hp => ?_, Nat.le_refl _, fun i p h => ?_, fun i p m e h he => ?_, fun i p j q m m' e e' h _ he => ?_, fun i p m e h he => ?_⟩
  · rw [List.eq_of_mem_replicate hp]; exact Nat.le_refl _
  · cases h0 i p h
    exact ⟨fun m e h => (by cases h), fun m e h => (by cases h), fun m => ⟨fun h => (by cases h), fun ⟨e, h, _⟩ => (by cases h)⟩, fun m e m' e' h => (by cases h), List.Pairwise.nil, fun m e h => (by cases h)⟩
  · cases h0 i p h; cases he
  · cases h0 i p h; cases he
  · cases h0 i p h; cases he
theorem InvT.mono {t t' : Nat} {s : TS} (h : InvT t s) (ht : t ≤ t') : InvT t' s := ⟨fun p hp => Nat.le_trans (h.nb p hp) ht, Nat.le_trans h.many ht, h.pi, h.own, h.dist, h.fF⟩
theorem InvT.send {t : Nat} {s : TS} (h : InvT t s) : InvT (t + 1) ⟨s.ps, s.many + 1⟩ :=
  ⟨fun p hp => Nat.le_succ_of_le (h.nb p hp), Nat.succ_le_succ h.many, fun i p hp => (h.pi i p hp).mono (Nat.le_succ _), h.own, h.dist, h.fF⟩
theorem own_set {l : List Pt} {i j : Nat} {p q y : Pt} (hp : l[i]? = some p) (hn : p.n ≤ y.n) (hq : l[j]? = some q) : ∃ q', (l.set i y)[j]? = some q' ∧ q.n ≤ q'.n := by
  by_cases c : i = j
  · subst c; cases hp.symm.trans hq
    exact ⟨y, List.getElem?_set_self (List.getElem?_eq_some_iff.1 hp).1, hn⟩
  · exact ⟨q, by rw [List.getElem?_set_ne c]; exact hq, Nat.le_refl _⟩
theorem nb_set {l : List Pt} {i t : Nat} {y : Pt} (h : ∀ p ∈ l, p.n ≤ t) (hy : y.n ≤ t) : ∀ p ∈ l.set i y, p.n ≤ t := fun p hp => by
  rcases List.mem_or_eq_of_mem_set hp with h1 | rfl
  · exact h p h1
  · exact hy
/-- an entry of the new state is the new one or an old one -/
theorem new_or {l : List Pt} {i j m m' : Nat} {p y q : Pt} {ent e : Ent} (hp : l[i]? = some p) (hy : y.got = upG p.got m ent) (hq : (l.set i y)[j]? = some q) (he : q.got m' = some e) : (j = i ∧ m' = m ∧ e = ent) ∨ ∃ q0, l[j]? = some q0 ∧ q0.got m' = some e ∧ (j = i → m' ≠ m) := by
  rcases set_cases' hq with ⟨rfl, rfl⟩ | ⟨c, hq⟩
  · rw [hy] at he
    rcases upG_cases he with ⟨rfl, rfl⟩ | ⟨c, he⟩
    · exact .inl ⟨rfl, rfl, rfl⟩
    · exact .inr ⟨p, hp, he, fun _ => c⟩
  · exact .inr ⟨q, hq, he, fun e => absurd e c⟩
theorem InvT.take {t i m : Nat} {s : TS} {p : Pt} (h : InvT t s) (hp : s.ps[i]? = some p) (hg : p.got m = none) (hm : m < s.many) (hi : i < 8) : InvT (t + 1) ⟨s.ps.set i ⟨p.n + 1, upG p.got m ⟨(p.n + 1) * 8 + i, false, false⟩, p.lst⟩, s.many⟩ := by
  have hfr : ∀ (j : Nat) (q : Pt) (m' : Nat) (e' : Ent), s.ps[j]? = some q → q.got m' = some e' → e'.k ≠ (p.n + 1) * 8 + i := fun j q m' e' hq he c => by
    obtain ⟨h1, q2, h2, h3⟩ := h.own j q m' e' hq he
    rw [c, show ((p.n + 1) * 8 + i) % 8 = i from by omega, hp] at h2
    cases h2; omega
  refine ⟨nb_set (fun p hp => Nat.le_succ_of_le (h.nb p hp)) (Nat.succ_le_succ (h.nb p (List.mem_of_getElem? hp))), Nat.le_succ_of_le h.many, fun j q hq => ?_, fun j q m' e' hq he => ?_, fun j q j2 q2 m1 m2 e1 e2 hq hq2 he1 he2 hne => ?_, fun j q m' e' hq he hf => ?_⟩
  · rcases set_cases' hq with ⟨rfl, rfl⟩ | ⟨c, hq⟩
    · exact (h.pi _ p hp).take hg hm hi
    · exact h.pi j q hq
  · rcases new_or hp rfl hq he with ⟨rfl, rfl, rfl⟩ | ⟨q0, hq0, he0, _⟩
    · have h9 : (s.ps.set j ⟨p.n + 1, upG p.got m' ⟨(p.n + 1) * 8 + j, false, false⟩, p.lst⟩)[((p.n + 1) * 8 + j) % 8]? = some ⟨p.n + 1, upG p.got m' ⟨(p.n + 1) * 8 + j, false, false⟩, p.lst⟩ := by
        rw [show ((p.n + 1) * 8 + j) % 8 = j from by omega]
        exact List.getElem?_set_self (List.getElem?_eq_some_iff.1 hp).1
      exact ⟨by dsimp only; omega, _, h9, by dsimp only; omega⟩
    · obtain ⟨h1, q2, h2, h3⟩ := h.own j q0 m' e' hq0 he0
      obtain ⟨q3, h4, h5⟩ := own_set (y := ⟨p.n + 1, upG p.got m ⟨(p.n + 1) * 8 + i, false, false⟩, p.lst⟩) hp (Nat.le_succ _) h2
      exact ⟨h1, q3, h4, Nat.le_trans h3 h5⟩
  · rcases new_or hp rfl hq he1 with ⟨rfl, rfl, rfl⟩ | ⟨q0, hq0, he0, _⟩
    · rcases new_or hp rfl hq2 he2 with ⟨rfl, rfl, rfl⟩ | ⟨q4, hq4, he4, _⟩
      · exact absurd rfl hne
      · exact (hfr _ _ _ _ hq4 he4).symm
    · rcases new_or hp rfl hq2 he2 with ⟨rfl, rfl, rfl⟩ | ⟨q4, hq4, he4, _⟩
      · exact hfr _ _ _ _ hq0 he0
      · exact h.dist _ _ _ _ _ _ _ _ hq0 hq4 he0 he4 hne
  · rcases new_or hp rfl hq he with ⟨rfl, rfl, rfl⟩ | ⟨q0, hq0, he0, _⟩
    · cases hf
    · have h1 := h.fF j q0 m' e' hq0 he0 hf
      have c : m' ≠ m := fun c => by
        subst c
        exact (fin_iff.1 h1).1 p (List.mem_of_getElem? hp) |>.elim fun e2 h2 => by rw [hg] at h2; cases h2.1
      rw [← h1]
      exact fin_congr hp (by rw [show (⟨p.n + 1, upG p.got m ⟨(p.n + 1) * 8 + i, false, false⟩, p.lst⟩ : Pt).got m' = p.got m' from upG_ne c])
/-- the greatest key is some process's -/
theorem InvT.top {t m k : Nat} {s : TS} {i : Nat} {p : Pt} {e : Ent} (h : InvT t s) (hp : s.ps[i]? = some p) (hg : p.got m = some e) (hk : finalT s.ps m 0 = some k) : e.k ≤ k ∧ ∃ (j : Nat) (q : Pt) (e2 : Ent), s.ps[j]? = some q ∧ q.got m = some e2 ∧ e2.k = k := by
  obtain ⟨h1, h2, h3⟩ := fin_iff.1 hk
  obtain ⟨e0, he0, hk0⟩ := h1 p (List.mem_of_getElem? hp)
  cases hg.symm.trans he0
  refine ⟨hk0, ?_⟩
  rcases h3 with rfl | ⟨q, hq, e2, h4, h5⟩
  · have := (h.own i p m e hp hg).1; omega
  · obtain ⟨j, hj⟩ := List.getElem?_of_mem hq
    exact ⟨j, q, e2, hj, h4, h5⟩
theorem InvT.dk {t m k : Nat} {s : TS} {i : Nat} {p : Pt} {e : Ent} (h : InvT t s) (hp : s.ps[i]? = some p) (hg : p.got m = some e) (hk : finalT s.ps m 0 = some k) : DK (upG p.got m ⟨k, true, e.hrd⟩) := by
  obtain ⟨_, j, q, e2, hq, he2, rfl⟩ := h.top hp hg hk
  intro m1 e1 m2 e3 h1 h2 hne
  rcases upG_cases h1 with ⟨a1, a2⟩ | ⟨c1, h1'⟩
  · rcases upG_cases h2 with ⟨b1, b2⟩ | ⟨c2, h2'⟩
    · exact absurd (a1.trans b1.symm) hne
    · have := h.dist j q i p m m2 e2 e3 hq hp he2 h2' (Ne.symm c2)
      rw [a2]; exact this
  · rcases upG_cases h2 with ⟨b1, b2⟩ | ⟨c2, h2'⟩
    · have := h.dist i p j q m1 m e1 e2 hp hq h1' he2 c1
      rw [b2]; exact this
    · exact h.dist _ _ _ _ _ _ _ _ hp hp h1' h2' hne
theorem InvT.tell0 {t i m k : Nat} {s : TS} {p : Pt} {e : Ent} (h : InvT t s) (hp : s.ps[i]? = some p) (hg : p.got m = some e) (hnf : e.fin = false) (hk : finalT s.ps m 0 = some k) : InvT t ⟨s.ps.set i ⟨max p.n (k / 8), upG p.got m ⟨k, true, e.hrd⟩, p.lst⟩, s.many⟩ := by
  obtain ⟨hle, jt, qt, et, hqt, het, hkt⟩ := h.top hp hg hk
  have hnn : max p.n (k / 8) ≤ t := by
    obtain ⟨_, q2, h2, h3⟩ := h.own jt qt m et hqt het
    have h4 := h.nb q2 (List.mem_of_getElem? h2)
    have h5 := h.nb p (List.mem_of_getElem? hp)
    rw [hkt] at h3; omega
  refine ⟨nb_set h.nb hnn, h.many, fun j q hq => ?_, fun j q m' e' hq he => ?_, fun j q j2 q2 m1 m2 e1 e2 hq hq2 he1 he2 hne => ?_, fun j q m' e' hq he hf => ?_⟩
  · rcases set_cases' hq with ⟨rfl, rfl⟩ | ⟨c, hq⟩
    · exact (h.pi _ p hp).tell hg hnf hle
    · exact h.pi j q hq
  · have : 1 ≤ e'.k / 8 ∧ ∃ q, s.ps[e'.k % 8]? = some q ∧ e'.k / 8 ≤ q.n := by
      rcases new_or hp rfl hq he with ⟨rfl, rfl, rfl⟩ | ⟨q0, hq0, he0, _⟩
      · have := h.own jt qt _ et hqt het
        rw [hkt] at this; exact this
      · exact h.own j q0 m' e' hq0 he0
    obtain ⟨h1, q2, h2, h3⟩ := this
    obtain ⟨q3, h4, h5⟩ := own_set (y := ⟨max p.n (k / 8), upG p.got m ⟨k, true, e.hrd⟩, p.lst⟩) hp (Nat.le_max_left ..) h2
    exact ⟨h1, q3, h4, Nat.le_trans h3 h5⟩
  · rcases new_or hp rfl hq he1 with ⟨rfl, rfl, rfl⟩ | ⟨q0, hq0, he0, _⟩
    · rcases new_or hp rfl hq2 he2 with ⟨rfl, rfl, rfl⟩ | ⟨q4, hq4, he4, _⟩
      · exact absurd rfl hne
      · have := h.dist _ _ _ _ _ _ _ _ hqt hq4 het he4 hne
        rw [hkt] at this; exact this
    · rcases new_or hp rfl hq2 he2 with ⟨rfl, rfl, rfl⟩ | ⟨q4, hq4, he4, _⟩
      · have := h.dist _ _ _ _ _ _ _ _ hq0 hqt he0 het hne
        rw [hkt] at this; exact this
      · exact h.dist _ _ _ _ _ _ _ _ hq0 hq4 he0 he4 hne
  · have hsame : finalT (s.ps.set i ⟨max p.n (k / 8), upG p.got m ⟨k, true, e.hrd⟩, p.lst⟩) m 0 = some k := by
      obtain ⟨h1, h2, h3⟩ := fin_iff.1 hk
      refine fin_iff.2 ⟨fun q hq => ?_, h2, .inr ⟨_, List.mem_of_getElem? (List.getElem?_set_self (List.getElem?_eq_some_iff.1 hp).1), _, upG_self _ _ _, rfl⟩⟩
      rcases List.mem_or_eq_of_mem_set hq with hq | rfl
      · exact h1 q hq
      · exact ⟨_, upG_self _ _ _, Nat.le_refl _⟩
    rcases new_or hp rfl hq he with ⟨rfl, rfl, rfl⟩ | ⟨q0, hq0, he0, _⟩
    · exact hsame
    · have h1 := h.fF j q0 m' e' hq0 he0 hf
      by_cases c : m' = m
      · subst c
        rw [hk] at h1
        dsimp only; rw [hsame]; exact h1
      · rw [← h1]
        exact fin_congr hp (by rw [show (⟨max p.n (k / 8), upG p.got m ⟨k, true, e.hrd⟩, p.lst⟩ : Pt).got m' = p.got m' from upG_ne c])
theorem InvT.hear {t i m : Nat} {s : TS} {p : Pt} {e : Ent} (h : InvT t s) (hp : s.ps[i]? = some p) (hm : UnhMin p m e) (hf : e.fin = true) : InvT t ⟨s.ps.set i (hear p m e), s.many⟩ := by
  have hold : ∀ (j : Nat) (q : Pt) (m' : Nat) (e' : Ent), (s.ps.set i (Go.Proofs.Ytfpdbgalannalaa.hear p m e))[j]? = some q → q.got m' = some e' → ∃ q0 e0, s.ps[j]? = some q0 ∧ q0.got m' = some e0 ∧ e0.k = e'.k ∧ e0.fin = e'.fin := fun j q m' e' hq he => by
    rcases new_or hp rfl hq he with ⟨rfl, rfl, rfl⟩ | ⟨q0, hq0, he0, _⟩
    · exact ⟨p, e, hp, hm.1, rfl, rfl⟩
    · exact ⟨q0, e', hq0, he0, rfl, rfl⟩
  refine ⟨nb_set h.nb (h.nb p (List.mem_of_getElem? hp)), h.many, fun j q hq => ?_, fun j q m' e' hq he => ?_, fun j q j2 q2 m1 m2 e1 e2 hq hq2 he1 he2 hne => ?_, fun j q m' e' hq he hff => ?_⟩
  · rcases set_cases' hq with ⟨rfl, rfl⟩ | ⟨c, hq⟩
    · exact (h.pi _ p hp).hear hm hf
    · exact h.pi j q hq
  · obtain ⟨q0, e0, a1, a2, a3, a4⟩ := hold j q m' e' hq he
    rw [← a3]
    obtain ⟨h1, q2, h2, h3⟩ := h.own j q0 m' e0 a1 a2
    obtain ⟨q3, h4, h5⟩ := own_set (y := Go.Proofs.Ytfpdbgalannalaa.hear p m e) hp (Nat.le_refl _) h2
    exact ⟨h1, q3, h4, Nat.le_trans h3 h5⟩
  · obtain ⟨q0, e0, a1, a2, a3, a4⟩ := hold j q m1 e1 hq he1
    obtain ⟨q4, e4, b1, b2, b3, b4⟩ := hold j2 q2 m2 e2 hq2 he2
    rw [← a3, ← b3]; exact h.dist _ _ _ _ _ _ _ _ a1 b1 a2 b2 hne
  · obtain ⟨q0, e0, a1, a2, a3, a4⟩ := hold j q m' e' hq he
    have h1 := h.fF j q0 m' e0 a1 a2 (a4.trans hff)
    rw [← a3, ← h1]
    refine fin_congr hp ?_
    by_cases c : m' = m
    · subst c
      rw [show (Go.Proofs.Ytfpdbgalannalaa.hear p m' e).got m' = some _ from upG_self _ _ _, hm.1]; rfl
    · rw [show (Go.Proofs.Ytfpdbgalannalaa.hear p m e).got m' = p.got m' from upG_ne c]
theorem InvT.stl {t i : Nat} {p q : Pt} (hs : Stl p q) : ∀ {s : TS}, InvT t s → s.ps[i]? = some p → InvT t ⟨s.ps.set i q, s.many⟩ := by
  induction hs with
  | @stop p _ =>
    intro s h hp
    have : s.ps.set i p = s.ps := by obtain ⟨h1, rfl⟩ := List.getElem?_eq_some_iff.1 hp; exact List.set_getElem_self h1
    rw [this]; exact h
  | @go p p' m e hm hf _ ih =>
    intro s h hp
    have := ih (h.hear hp hm hf) (List.getElem?_set_self (List.getElem?_eq_some_iff.1 hp).1)
    rw [List.set_set] at this; exact this
theorem settle_cases (p : Pt) : settle p = p ∨ Stl p (settle p) := by
  by_cases h : ∃ p', Stl p p'
  · obtain ⟨p', h⟩ := h
    rw [settle_of h]; exact .inr h
  · left; unfold settle; rw [dif_neg h]
theorem InvT.settle {t i : Nat} {p : Pt} {s : TS} (h : InvT t s) (hp : s.ps[i]? = some p) : InvT t ⟨s.ps.set i (settle p), s.many⟩ := by
  rcases settle_cases p with e | e
  · rw [e]
    have : s.ps.set i p = s.ps := by obtain ⟨h1, rfl⟩ := List.getElem?_eq_some_iff.1 hp; exact List.set_getElem_self h1
    rw [this]; exact h
  · exact InvT.stl e h hp
theorem InvT.step {t : Nat} {s : TS} (c : Mv) (h : InvT t s) (hn : s.ps.length ≤ 6) : InvT (t + 1) (stepT s c).2 := by
  have h1 := h.mono (Nat.le_succ t)
  unfold stepT
  split
  · exact h1
  split
  · exact h1
  split
  · exact h.send
  split
  · exact h1
  rename_i hk hw hs hms
  have hmm : c.msg.toNat < s.many := by
    simp only [isN, Bool.not_eq_false, decide_eq_true_eq] at hms; omega
  split
  · exact h1
  rename_i p hp
  have hi := (List.getElem?_eq_some_iff.1 hp).1
  split
  · split
    · exact h1
    · rename_i hg; exact h.take hp hg hmm (by omega)
  · split
    · exact h1
    rename_i k hfk
    split
    · exact h1
    rename_i e hg
    split
    · exact h1
    rename_i hnf
    have h2 := (h.tell0 hp hg (by simpa using hnf) hfk).settle (List.getElem?_set_self hi)
    rw [List.set_set] at h2
    exact h2.mono (Nat.le_succ t)
theorem stepT_len (s : TS) (c : Mv) : (stepT s c).2.ps.length = s.ps.length := by
  unfold stepT
  repeat' split
  all_goals first | rfl | exact List.length_set
theorem stT_plen : ∀ (l : List Mv) (s : TS), (stT s l).ps.length = s.ps.length
  | [], s => rfl
  | c :: l, s => by simp only [stT]; rw [stT_plen l, stepT_len]
theorem InvT.run : ∀ (l : List Mv) {t : Nat} {s : TS}, InvT t s → s.ps.length ≤ 6 → InvT (t + l.length) (stT s l)
  | [], t, s, h, _ => h
  | c :: l, t, s, h, hn => (InvT.run l (h.step c hn) (by rw [stepT_len]; exact hn)).mono (by simp; omega)
end Go.Proofs.Ytfpdbgalannalaa
