/- Lists that agree. Plain words. No condition. -/
import Derived.Test.YtfpdbgalannalaaA5
namespace Go.Proofs.Ytfpdbgalannalaa
open Go.RowKit
set_option linter.unusedVariables false
set_option linter.unusedSimpArgs false
set_option maxRecDepth 100000

theorem pre_of (φ : Nat → Nat) : ∀ (a b : List Nat), a.Pairwise (fun x y => φ x < φ y) → b.Pairwise (fun x y => φ x < φ y) → (∀ m ∈ a, ∀ m' ∈ b, φ m' < φ m → m' ∈ a) → (∀ m ∈ b, ∀ m' ∈ a, φ m' < φ m → m' ∈ b) → (∀ m ∈ a, ∀ m' ∈ b, φ m = φ m' → m = m') → a <+: b ∨ b <+: a
  | [], b, _, _, _, _, _ => .inl (List.nil_prefix ..)
  | x :: a, [], _, _, _, _, _ => .inr (List.nil_prefix ..)
  | x :: a, y :: b, ha, hb, h1, h2, h3 => by
    obtain ⟨a1, a2⟩ := List.pairwise_cons.1 ha
    obtain ⟨b1, b2⟩ := List.pairwise_cons.1 hb
    have e : x = y := by
      rcases Nat.lt_trichotomy (φ x) (φ y) with c | c | c
      · rcases List.mem_cons.1 (h2 y (by simp) x (by simp) c) with e | e
        · exact e
        · have := b1 x e; omega
      · exact h3 x (by simp) y (by simp) c
      · rcases List.mem_cons.1 (h1 x (by simp) y (by simp) c) with e | e
        · exact e.symm
        · have := a1 y e; omega
    subst e
    have := pre_of φ a b a2 b2 (fun m hm m' hm' hl => by
      rcases List.mem_cons.1 (h1 m (by simp [hm]) m' (by simp [hm']) hl) with e | e
      · have := b1 m' hm'; rw [e] at this; omega
      · exact e) (fun m hm m' hm' hl => by
      rcases List.mem_cons.1 (h2 m (by simp [hm]) m' (by simp [hm']) hl) with e | e
      · have := a1 m' hm'; rw [e] at this; omega
      · exact e) (fun m hm m' hm' => h3 m (by simp [hm]) m' (by simp [hm']))
    rcases this with ⟨t, ht⟩ | ⟨t, ht⟩
    · exact .inl ⟨t, by rw [← ht]; rfl⟩
    · exact .inr ⟨t, by rw [← ht]; rfl⟩
def phi (s : TS) (m : Nat) : Nat := (finalT s.ps m 0).getD 0
theorem InvT.heard {t i m : Nat} {s : TS} {p : Pt} (h : InvT t s) (hp : s.ps[i]? = some p) (hm : m ∈ p.lst) : ∃ e, p.got m = some e ∧ e.hrd = true ∧ finalT s.ps m 0 = some e.k ∧ phi s m = e.k ∧ kof p m = e.k := by
  obtain ⟨e, he, hh⟩ := ((h.pi i p hp).hl m).1 hm
  have hf := h.fF i p m e hp he ((h.pi i p hp).hf m e he hh)
  exact ⟨e, he, hh, hf, by unfold phi; rw [hf]; rfl, kof_eq he⟩
theorem InvT.down {t i j m m' : Nat} {s : TS} {p q : Pt} (h : InvT t s) (hp : s.ps[i]? = some p) (hq : s.ps[j]? = some q) (hm : m ∈ p.lst) (hm' : m' ∈ q.lst) (hl : phi s m' < phi s m) : m' ∈ p.lst := by
  obtain ⟨e, he, hh, hf, hph, hk⟩ := h.heard hp hm
  obtain ⟨e', he', hh', hf', hph', hk'⟩ := h.heard hq hm'
  obtain ⟨e2, he2, hle⟩ := (fin_iff.1 hf').1 p (List.mem_of_getElem? hp)
  rw [(h.pi i p hp).hl]
  refine ⟨e2, he2, ?_⟩
  cases c : e2.hrd with
  | true => rfl
  | false => have := (h.pi i p hp).od m e m' e2 he hh he2 c; omega
theorem InvT.same {t i j : Nat} {s : TS} {p q : Pt} (h : InvT t s) (hp : s.ps[i]? = some p) (hq : s.ps[j]? = some q) : p.lst <+: q.lst ∨ q.lst <+: p.lst := by
  have key : ∀ (i : Nat) (p : Pt), s.ps[i]? = some p → p.lst.Pairwise (fun x y => phi s x < phi s y) := fun i p hp => (h.pi i p hp).so.imp_of_mem fun {a b} ha hb hh => by
    obtain ⟨e, _, _, _, h1, h2⟩ := h.heard hp ha
    obtain ⟨e', _, _, _, h3, h4⟩ := h.heard hp hb
    omega
  refine pre_of (phi s) p.lst q.lst (key i p hp) (key j q hq) (fun m hm m' hm' hl => h.down hp hq hm hm' hl) (fun m hm m' hm' hl => h.down hq hp hm hm' hl) fun m hm m' hm' hl => ?_
  obtain ⟨e, he, _, _, h1, h2⟩ := h.heard hp hm
  obtain ⟨e', he', _, _, h3, h4⟩ := h.heard hq hm'
  by_cases c : m = m'
  · exact c
  · have := h.dist _ _ _ _ _ _ _ _ hp hq he he' c; omega
/-- what stays -/
def LeP (p p' : Pt) : Prop := p.lst <+: p'.lst ∧ ∀ m e, p.got m = some e → ∃ e', p'.got m = some e' ∧ (e.fin = true → e'.fin = true)
theorem LeP.refl (p : Pt) : LeP p p := ⟨List.prefix_refl _, fun m e h => ⟨e, h, fun h => h⟩⟩
theorem LeP.trans {p q r : Pt} (h : LeP p q) (h' : LeP q r) : LeP p r := ⟨h.1.trans h'.1, fun m e he => by
  obtain ⟨e1, h1, h2⟩ := h.2 m e he
  obtain ⟨e2, h3, h4⟩ := h'.2 m e1 h1
  exact ⟨e2, h3, fun hh => h4 (h2 hh)⟩⟩
theorem LeP.put {p : Pt} {n m : Nat} {ent : Ent} (h : ∀ e, p.got m = some e → e.fin = true → ent.fin = true) : LeP p ⟨n, upG p.got m ent, p.lst⟩ := ⟨List.prefix_refl _, fun m' e he => by
  by_cases c : m' = m
  · subst c; exact ⟨ent, upG_self _ _ _, h e he⟩
  · exact ⟨e, (upG_ne c).trans he, fun h => h⟩⟩
theorem LeP.stl {p q : Pt} (h : Stl p q) : LeP p q := by
  induction h with
  | stop _ => exact LeP.refl _
  | @go p p' m e hm hf _ ih =>
    refine LeP.trans ⟨List.prefix_append _ _, fun m' e' he => ?_⟩ ih
    by_cases c : m' = m
    · subst c; exact ⟨_, upG_self _ _ _, fun _ => hf⟩
    · exact ⟨e', (upG_ne c).trans he, fun h => h⟩
theorem LeP.settle (p : Pt) : LeP p (settle p) := by
  rcases settle_cases p with e | e
  · rw [e]; exact LeP.refl _
  · exact LeP.stl e
structure LeT (s s' : TS) : Prop where
  len : s'.ps.length = s.ps.length
  many : s.many ≤ s'.many
  ps : ∀ (i : Nat) (p : Pt), s.ps[i]? = some p → ∃ p', s'.ps[i]? = some p' ∧ LeP p p'
theorem LeT.refl (s : TS) : LeT s s := ⟨rfl, Nat.le_refl _, fun i p hp => ⟨p, hp, LeP.refl p⟩⟩
theorem LeT.trans {a b c : TS} (h : LeT a b) (h' : LeT b c) : LeT a c := ⟨h'.len.trans h.len, Nat.le_trans h.many h'.many, fun i p hp => by
  obtain ⟨q, h1, h2⟩ := h.ps i p hp
  obtain ⟨r, h3, h4⟩ := h'.ps i q h1
  exact ⟨r, h3, h2.trans h4⟩⟩
theorem LeT.set {s : TS} {i : Nat} {p y : Pt} (hp : s.ps[i]? = some p) (h : LeP p y) : LeT s ⟨s.ps.set i y, s.many⟩ := ⟨List.length_set, Nat.le_refl _, fun j q hq => by
  by_cases c : i = j
  · subst c; cases hp.symm.trans hq
    exact ⟨y, List.getElem?_set_self (List.getElem?_eq_some_iff.1 hp).1, h⟩
  · exact ⟨q, by dsimp only; rw [List.getElem?_set_ne c]; exact hq, LeP.refl q⟩⟩
theorem LeT.step (s : TS) (c : Mv) : LeT s (stepT s c).2 := by
  unfold stepT
  split
  · exact LeT.refl s
  split
  · exact LeT.refl s
  split
  · exact ⟨rfl, Nat.le_succ _, fun i p hp => ⟨p, hp, LeP.refl p⟩⟩
  split
  · exact LeT.refl s
  split
  · exact LeT.refl s
  rename_i p hp
  split
  · split
    · exact LeT.refl s
    · rename_i hg
      exact LeT.set hp (LeP.put fun e he => by rw [hg] at he; cases he)
  · split
    · exact LeT.refl s
    split
    · exact LeT.refl s
    split
    · exact LeT.refl s
    · exact LeT.set hp ((LeP.put fun e he _ => rfl).trans (LeP.settle _))
theorem LeT.run : ∀ (l : List Mv) (s : TS), LeT s (stT s l)
  | [], s => LeT.refl s
  | c :: l, s => (LeT.step s c).trans (LeT.run l _)
theorem LeT.lst {s s' : TS} (h : LeT s s') (k : Nat) : lstT s k <+: lstT s' k := by
  unfold lstT
  cases e : s.ps[k]? with
  | none => exact List.nil_prefix ..
  | some p =>
    obtain ⟨p', h1, h2⟩ := h.ps k p e
    rw [h1]; exact h2.1
theorem lstT_at {s : TS} {k : Nat} {p : Pt} (h : s.ps[k]? = some p) : lstT s k = p.lst := by unfold lstT; rw [h]; rfl
theorem InvT.lst {t i j : Nat} {s : TS} (h : InvT t s) : lstT s i <+: lstT s j ∨ lstT s j <+: lstT s i := by
  cases e : s.ps[i]? with
  | none => left; unfold lstT; rw [e]; exact List.nil_prefix ..
  | some p =>
    cases e' : s.ps[j]? with
    | none => right; unfold lstT; rw [e']; exact List.nil_prefix ..
    | some q => rw [lstT_at e, lstT_at e']; exact h.same e e'
theorem InvT.once {t i : Nat} {s : TS} (h : InvT t s) : (lstT s i).Nodup ∧ ∀ m ∈ lstT s i, m < s.many := by
  cases e : s.ps[i]? with
  | none => unfold lstT; rw [e]; exact ⟨List.nodup_nil, fun m hm => by cases hm⟩
  | some p =>
    rw [lstT_at e]
    refine ⟨(h.pi i p e).nodup, fun m hm => ?_⟩
    obtain ⟨e2, he, _⟩ := ((h.pi i p e).hl m).1 hm
    exact (h.pi i p e).msg m e2 he
end Go.Proofs.Ytfpdbgalannalaa
