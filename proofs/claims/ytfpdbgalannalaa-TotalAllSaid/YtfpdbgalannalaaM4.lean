/- Plain words. No condition. -/
import Derived.Test.YtfpdbgalannalaaM3
namespace Go.Proofs.Ytfpdbgalannalaa
open Go.RowKit
set_option linter.unusedVariables false
set_option linter.unusedSimpArgs false
set_option maxRecDepth 100000

theorem codes_at : ∀ {cs : List Mv} {s : TS} {i : Nat} {c : Mv}, cs[i]? = some c → (codesT s cs)[i]? = some (stepT (stT s (cs.take i)) c).1
  | [], s, i, c, h => by simp at h
  | a :: l, s, 0, c, h => by simp at h; subst h; simp [codesT, stT]
  | a :: l, s, i + 1, c, h => by
    have := codes_at (cs := l) (s := (stepT s a).2) (i := i) (c := c) (by simpa using h)
    simp only [codesT, List.getElem?_cons_succ, List.take_succ_cons, stT]; exact this
def hitB (b : Mv → Int → Bool) (cs : List Mv) (ks : List Int) : Nat → Nat
  | 0 => 0
  | i + 1 => hitB b cs ks i + match cs[i]?, ks[i]? with
    | some c, some k => if b c k then 1 else 0
    | _, _ => 0
def sndB (c : Mv) (k : Int) : Bool := decide (c.kind = 1 ∧ k = 0)
def tB (p : Nat) (c : Mv) (k : Int) : Bool := decide (c.kind = 3 ∧ c.who = (p : Int) ∧ k = 0)
theorem hitB_succ {b : Mv → Int → Bool} {cs : List Mv} {ks : List Int} {i : Nat} {c : Mv} {k : Int} (h1 : cs[i]? = some c) (h2 : ks[i]? = some k) : hitB b cs ks (i + 1) = hitB b cs ks i + if b c k then 1 else 0 := by
  simp only [hitB, h1, h2]
theorem hitB_le (b : Mv → Int → Bool) (cs : List Mv) (ks : List Int) : ∀ i, hitB b cs ks i ≤ i
  | 0 => Nat.le_refl _
  | i + 1 => by
    have := hitB_le b cs ks i
    simp only [hitB]
    split
    · split <;> omega
    · omega
theorem sent_many {s : TS} {cs : List Mv} : ∀ i, i ≤ cs.length → (stT s (cs.take i)).many = s.many + hitB sndB cs (codesT s cs) i
  | 0, _ => by simp [stT, hitB]
  | i + 1, h => by
    obtain ⟨c, hc⟩ := get_of_lt (xs := cs) (k := i) (by omega)
    rw [stT_snoc hc, stepT_many, sent_many i (by omega), hitB_succ hc (codes_at hc)]
    unfold sndB
    by_cases q : c.kind = 1 ∧ (stepT (stT s (cs.take i)) c).1 = 0
    · rw [if_pos q, if_pos (decide_eq_true q)]; omega
    · rw [if_neg q, if_neg (by simpa using q)]; omega
def finB (p : Pt) (m : Nat) : Bool := match p.got m with
  | some e => e.fin
  | none => false
def cntF (p : Pt) : Nat := ((List.range 1000).filter (finB p)).length
theorem flt_one {f g : Nat → Bool} {m : Nat} (h : ∀ x, x ≠ m → f x = g x) : ∀ {l : List Nat}, l.Nodup → (l.filter f).length ≤ (l.filter g).length + 1
  | [], _ => by simp
  | c :: l, hn => by
    obtain ⟨h1, h2⟩ := List.nodup_cons.1 hn
    by_cases e : c = m
    · subst e
      have : l.filter f = l.filter g := List.filter_congr fun x hx => h x fun e => h1 (e ▸ hx)
      by_cases q : f c = true <;> by_cases q2 : g c = true <;> simp [List.filter_cons, q, q2, this] <;> omega
    · have := flt_one h h2
      by_cases q : f c = true
      · rw [List.filter_cons_of_pos q, List.filter_cons_of_pos (by rw [← h c e]; exact q)]; simp only [List.length_cons]; omega
      · rw [List.filter_cons_of_neg q, List.filter_cons_of_neg (by rw [← h c e]; exact q)]; exact this
theorem finB_up {p : Pt} {n m x : Nat} {ent : Ent} {l : List Nat} (h : x ≠ m) : finB ⟨n, upG p.got m ent, l⟩ x = finB p x := by
  unfold finB; rw [show (⟨n, upG p.got m ent, l⟩ : Pt).got x = p.got x from upG_ne h]
theorem finB_upm {p : Pt} {n m : Nat} {ent : Ent} {l : List Nat} : finB ⟨n, upG p.got m ent, l⟩ m = ent.fin := by
  unfold finB; rw [show (⟨n, upG p.got m ent, l⟩ : Pt).got m = some ent from upG_self _ _ _]
theorem Stl.finB {p q : Pt} (h : Stl p q) : ∀ x, Go.Proofs.Ytfpdbgalannalaa.finB q x = Go.Proofs.Ytfpdbgalannalaa.finB p x := by
  induction h with
  | stop _ => intro x; rfl
  | @go p p' m e hm hf _ ih =>
    intro x
    rw [ih x]
    by_cases c : x = m
    · subst c
      refine (finB_upm (p := p) (ent := { e with hrd := true })).trans ?_
      unfold Go.Proofs.Ytfpdbgalannalaa.finB; rw [hm.1]
    · exact finB_up (p := p) c
theorem settle_finB (p : Pt) (x : Nat) : finB (settle p) x = finB p x := by
  rcases settle_cases p with e | e
  · rw [e]
  · exact e.finB x
theorem told_step {s : TS} {c : Mv} {i : Nat} {q : Pt} (hq : s.ps[i]? = some q) : ∃ q', (stepT s c).2.ps[i]? = some q' ∧ cntF q' ≤ cntF q + if tB i c (stepT s c).1 then 1 else 0 := by
  have h0 : ∀ k, ∃ q', s.ps[i]? = some q' ∧ cntF q' ≤ cntF q + if tB i c k then 1 else 0 := fun k => ⟨q, hq, Nat.le_add_right _ _⟩
  unfold stepT
  split
  · exact h0 _
  rename_i hk
  split
  · exact h0 _
  rename_i hw
  split
  · exact h0 _
  split
  · exact h0 _
  split
  · exact h0 _
  rename_i p hp
  have hil := (List.getElem?_eq_some_iff.1 hp).1
  have hwn : c.who = ((c.who.toNat : Nat) : Int) := by
    simp only [isN, Bool.not_eq_false, decide_eq_true_eq] at hw; omega
  split
  · split
    · exact h0 _
    · rename_i hg
      by_cases e : c.who.toNat = i
      · subst e; cases hp.symm.trans hq
        refine ⟨_, List.getElem?_set_self hil, Nat.le_trans (Nat.le_of_eq ?_) (Nat.le_add_right _ _)⟩
        unfold cntF
        rw [List.filter_congr (q := finB q) fun x _ => ?_]
        by_cases c2 : x = c.msg.toNat
        · subst c2; rw [finB_upm]; unfold finB; rw [hg]
        · exact finB_up c2
      · exact ⟨q, by dsimp only; rw [List.getElem?_set_ne e]; exact hq, Nat.le_add_right _ _⟩
  · rename_i h1 _ _ h2
    split
    · exact h0 _
    rename_i k hfk
    split
    · exact h0 _
    rename_i e hg
    split
    · exact h0 _
    by_cases e9 : c.who.toNat = i
    · subst e9; cases hp.symm.trans hq
      refine ⟨_, List.getElem?_set_self hil, ?_⟩
      dsimp only
      rw [show tB c.who.toNat c 0 = true from decide_eq_true ⟨by omega, hwn, rfl⟩, if_pos rfl]
      exact flt_one (m := c.msg.toNat) (fun x hx => by rw [settle_finB]; exact finB_up hx) List.nodup_range
    · exact ⟨q, by dsimp only; rw [List.getElem?_set_ne e9]; exact hq, Nat.le_add_right _ _⟩
theorem told_run {n i : Nat} {cs : List Mv} (hi : i < n) : ∀ k, k ≤ cs.length → ∃ q, (stT (ts0 n) (cs.take k)).ps[i]? = some q ∧ cntF q ≤ hitB (tB i) cs (codesT (ts0 n) cs) k
  | 0, _ => ⟨⟨0, fun _ => none, []⟩, by simp [stT, ts0, hi], Nat.le_of_eq (by unfold cntF; rw [List.filter_eq_nil_iff.2 fun x _ => by simp [finB]]; rfl)⟩
  | k + 1, h => by
    obtain ⟨c, hc⟩ := get_of_lt (xs := cs) (k := k) (by omega)
    obtain ⟨q, h1, h2⟩ := told_run (cs := cs) hi k (by omega)
    obtain ⟨q', h3, h4⟩ := told_step (c := c) h1
    refine ⟨q', by rw [stT_snoc hc]; exact h3, ?_⟩
    rw [hitB_succ hc (codes_at hc)]; omega
theorem told_len {n i : Nat} {cs : List Mv} (hn : n ≤ 6) (hi : i < n) (hc : cs.length ≤ 120) : (lstT (stT (ts0 n) cs) i).length ≤ hitB (tB i) cs (codesT (ts0 n) cs) cs.length := by
  obtain ⟨q, h1, h2⟩ := told_run (cs := cs) hi cs.length (Nat.le_refl _)
  rw [List.take_length] at h1
  have hI := (InvT.zero n).run cs (by simp [ts0]; omega)
  have hm := hI.many
  rw [lstT_at h1]
  refine Nat.le_trans (nodup_sub _ _ (hI.pi i q h1).nodup fun m hm => ?_) h2
  obtain ⟨e, he, hh⟩ := ((hI.pi i q h1).hl m).1 hm
  have := (hI.pi i q h1).msg m e he
  exact List.mem_filter.2 ⟨List.mem_range.2 (by omega), by unfold finB; rw [he]; exact (hI.pi i q h1).hf m e he hh⟩
end Go.Proofs.Ytfpdbgalannalaa
