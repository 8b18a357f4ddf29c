/- When all was told. Plain words. No condition. -/
import Derived.Test.YtfpdbgalannalaaM2
namespace Go.Proofs.Ytfpdbgalannalaa
open Go.RowKit
set_option linter.unusedVariables false
set_option linter.unusedSimpArgs false
set_option maxRecDepth 100000

theorem flt_lt {f g : Nat → Bool} : ∀ {l : List Nat} {a : Nat}, a ∈ l → (∀ x, f x = true → g x = true) → g a = true → f a = false → (l.filter f).length < (l.filter g).length
  | [], a, h, _, _, _ => by cases h
  | c :: l, a, h, hi, hg, hf => by
    have hle : (l.filter f).length ≤ (l.filter g).length := by
      clear h
      induction l with
      | nil => simp
      | cons d l ih =>
        by_cases q : f d = true
        · rw [List.filter_cons_of_pos q, List.filter_cons_of_pos (hi d q)]; simp only [List.length_cons]; omega
        · rw [List.filter_cons_of_neg q]
          by_cases q2 : g d = true
          · rw [List.filter_cons_of_pos q2]; simp only [List.length_cons]; omega
          · rw [List.filter_cons_of_neg q2]; exact ih
    rcases List.mem_cons.1 h with e | e
    · subst e
      rw [List.filter_cons_of_pos hg, List.filter_cons_of_neg (by rw [hf]; decide)]
      simp only [List.length_cons]; omega
    · have := flt_lt e hi hg hf
      by_cases q : f c = true
      · rw [List.filter_cons_of_pos q, List.filter_cons_of_pos (hi c q)]; simp only [List.length_cons]; omega
      · rw [List.filter_cons_of_neg q]
        by_cases q2 : g c = true
        · rw [List.filter_cons_of_pos q2]; simp only [List.length_cons]; omega
        · rw [List.filter_cons_of_neg q2]; exact this
def unhB (p : Pt) (m : Nat) : Bool := match p.got m with
  | some e => !e.hrd
  | none => false
theorem Stl.all : ∀ (k B : Nat) (p : Pt), (∀ m e, p.got m = some e → m < B) → ((List.range B).filter (unhB p)).length ≤ k → ∃ q, Stl p q := by
  intro k
  induction k with
  | zero =>
    intro B p hB hk
    refine ⟨p, Stl.stop fun m e hm => ?_⟩
    have : m ∈ (List.range B).filter (unhB p) := List.mem_filter.2 ⟨List.mem_range.2 (hB m e hm.1), by unfold unhB; rw [hm.1]; simp [hm.2.1]⟩
    have := List.length_pos_of_mem this; omega
  | succ k ih =>
    intro B p hB hk
    by_cases h : ∃ m e, UnhMin p m e ∧ e.fin = true
    · obtain ⟨m, e, hm, hf⟩ := h
      have hmB := hB m e hm.1
      have hlt := flt_lt (f := unhB (hear p m e)) (g := unhB p) (List.mem_range.2 hmB) (fun x hx => by
        unfold unhB at hx ⊢
        by_cases c : x = m
        · subst c; rw [show (hear p x e).got x = some _ from upG_self _ _ _] at hx; simp at hx
        · rw [show (hear p m e).got x = p.got x from upG_ne c] at hx; exact hx) (by unfold unhB; rw [hm.1]; simp [hm.2.1]) (by unfold unhB; rw [show (hear p m e).got m = some _ from upG_self _ _ _]; rfl)
      obtain ⟨q, hq⟩ := ih B (hear p m e) (fun m' e' he => by
        rcases upG_cases he with ⟨rfl, _⟩ | ⟨_, he⟩
        · exact hmB
        · exact hB m' e' he) (by omega)
      exact ⟨q, Stl.go hm hf hq⟩
    · exact ⟨p, Stl.stop fun m e hm => by
        cases c : e.fin with
        | false => rfl
        | true => exact absurd ⟨m, e, hm, c⟩ h⟩
theorem Stl.end_ {p q : Pt} (h : Stl p q) : ∀ m e, UnhMin q m e → e.fin = false := by
  induction h with
  | stop h => exact h
  | go _ _ _ ih => exact ih
theorem settle_end {B : Nat} {p : Pt} (h : PI B p) : ∀ m e, UnhMin (settle p) m e → e.fin = false := by
  obtain ⟨q, hq⟩ := Stl.all _ B p h.msg (Nat.le_refl _)
  rw [settle_of hq]; exact hq.end_
def SetI (s : TS) : Prop := ∀ (i : Nat) (p : Pt), s.ps[i]? = some p → ∀ m e, UnhMin p m e → e.fin = false
theorem SetI.zero (n : Nat) : SetI (ts0 n) := fun i p h m e hm => by
  simp only [ts0, List.getElem?_replicate] at h; split at h
  · cases h; cases hm.1
  · cases h
theorem SetI.step {t : Nat} {s : TS} (c : Mv) (h : SetI s) (hI : InvT t s) (hn : s.ps.length ≤ 6) : SetI (stepT s c).2 := by
  unfold stepT
  split
  · exact h
  split
  · exact h
  split
  · exact h
  split
  · exact h
  split
  · exact h
  rename_i p hp
  split
  · split
    · exact h
    · rename_i hg
      intro j q hq m1 e1 hm
      rcases set_cases' hq with ⟨rfl, rfl⟩ | ⟨c1, hq⟩
      · obtain ⟨g1, g2, g3⟩ := hm
        rcases upG_cases g1 with ⟨rfl, rfl⟩ | ⟨c2, g1⟩
        · rfl
        · refine h _ p hp m1 e1 ⟨g1, g2, fun m' e' h1 h2 h3 => g3 m' e' ?_ h2 h3⟩
          exact (upG_ne (fun c => by subst c; rw [hg] at h1; cases h1)).trans h1
      · exact h j q hq m1 e1 hm
  · split
    · exact h
    rename_i k hfk
    split
    · exact h
    rename_i e hg
    split
    · exact h
    rename_i hnf
    intro j q hq m1 e1 hm
    rcases set_cases' hq with ⟨rfl, rfl⟩ | ⟨c1, hq⟩
    · exact settle_end ((hI.pi _ p hp).tell hg (by simpa using hnf) (hI.top hp hg hfk).1) m1 e1 hm
    · exact h j q hq m1 e1 hm
theorem SetI.run : ∀ (l : List Mv) {t : Nat} {s : TS}, SetI s → InvT t s → s.ps.length ≤ 6 → SetI (stT s l)
  | [], t, s, h, _, _ => h
  | c :: l, t, s, h, hI, hn => SetI.run l (h.step c hI hn) (hI.step c hn) (by rw [stepT_len]; exact hn)
/-- some least one is unheard -/
theorem min_of {t i : Nat} {s : TS} {p : Pt} (hI : InvT t s) (hp : s.ps[i]? = some p) : ∀ (k m : Nat) (e : Ent), e.k = k → p.got m = some e → e.hrd = false → ∃ m e, UnhMin p m e := by
  intro k
  induction k using Nat.strongRecOn with
  | _ k ih =>
    intro m e hk he hh
    by_cases h : ∃ m' e', p.got m' = some e' ∧ e'.hrd = false ∧ m' ≠ m ∧ e'.k < e.k
    · obtain ⟨m', e', h1, h2, h3, h4⟩ := h
      exact ih e'.k (by omega) m' e' rfl h1 h2
    · refine ⟨m, e, he, hh, fun m' e' h1 h2 h3 => ?_⟩
      have := hI.dist _ _ _ _ _ _ _ _ hp hp h1 he h3
      rcases Nat.lt_trichotomy e'.k e.k with c | c | c
      · exact absurd ⟨m', e', h1, h2, h3, c⟩ h
      · exact absurd c this
      · exact c
theorem nodup_sub : ∀ (l l' : List Nat), l.Nodup → (∀ x ∈ l, x ∈ l') → l.length ≤ l'.length
  | [], _, _, _ => Nat.zero_le _
  | a :: l, l', hn, hs => by
    obtain ⟨h1, h2⟩ := List.nodup_cons.1 hn
    have := nodup_sub l (l'.erase a) h2 fun x hx => (List.mem_erase_of_ne (fun e => by subst e; exact h1 hx)).2 (hs x (by simp [hx]))
    have h3 := List.length_erase_of_mem (hs a (by simp))
    have h4 := List.length_pos_of_mem (hs a (by simp))
    simp only [List.length_cons]; omega
/-- all is told: all is heard -/
theorem all_heard {t i : Nat} {s : TS} {p : Pt} (hI : InvT t s) (hS : SetI s) (hp : s.ps[i]? = some p) (hall : ∀ m, m < s.many → ∃ e, p.got m = some e ∧ e.fin = true) : p.lst.length = s.many := by
  have hno : ∀ m e, p.got m = some e → e.hrd = true := fun m e he => by
    cases c : e.hrd with
    | true => rfl
    | false =>
      obtain ⟨m1, e1, h1⟩ := min_of hI hp e.k m e rfl he c
      obtain ⟨e2, h2, h3⟩ := hall m1 ((hI.pi i p hp).msg m1 e1 h1.1)
      cases h1.1.symm.trans h2
      rw [hS i p hp m1 e1 h1] at h3; cases h3
  have h1 := (hI.pi i p hp).len
  have h2 := nodup_sub (List.range s.many) p.lst List.nodup_range fun m hm => by
    obtain ⟨e, he, _⟩ := hall m (List.mem_range.1 hm)
    exact ((hI.pi i p hp).hl m).2 ⟨e, he, hno m e he⟩
  simp only [List.length_range] at h2; omega
/-! all messages to all -/
def mv (kind p m : Nat) : Mv := ⟨kind, p, m⟩
theorem isN_nat {n x : Nat} : isN n (x : Int) = decide (x < n) := by
  unfold isN
  by_cases h : x < n
  · rw [decide_eq_true (by omega), decide_eq_true h]
  · rw [decide_eq_false (by omega), decide_eq_false h]
theorem take_got {s : TS} {p m : Nat} (hp : p < s.ps.length) (hm : m < s.many) : ∃ q e, (stepT s (mv 2 p m)).2.ps[p]? = some q ∧ q.got m = some e := by
  obtain ⟨q, hq⟩ : ∃ q, s.ps[p]? = some q := ⟨_, List.getElem?_eq_getElem hp⟩
  unfold stepT mv
  dsimp only
  rw [if_neg (by omega), isN_nat, decide_eq_true hp, if_neg (by decide), if_neg (by omega), isN_nat, decide_eq_true hm, if_neg (by decide)]
  dsimp only [Int.toNat_natCast]
  rw [hq]
  dsimp only
  rw [if_pos (by decide)]
  cases hg : q.got m with
  | some e => exact ⟨q, e, hq, hg⟩
  | none => exact ⟨_, _, List.getElem?_set_self hp, upG_self _ _ _⟩
theorem tell_fin {s : TS} {p m : Nat} (hp : p < s.ps.length) (hm : m < s.many) (hall : ∀ q ∈ s.ps, ∃ e, q.got m = some e) : ∃ q e, (stepT s (mv 3 p m)).2.ps[p]? = some q ∧ q.got m = some e ∧ e.fin = true := by
  obtain ⟨q, hq⟩ : ∃ q, s.ps[p]? = some q := ⟨_, List.getElem?_eq_getElem hp⟩
  have hfin : ∀ (l : List Pt) (b : Nat), (∀ q ∈ l, ∃ e, q.got m = some e) → ∃ k, finalT l m b = some k := by
    intro l
    induction l with
    | nil => intro b _; exact ⟨b, rfl⟩
    | cons a l ih =>
      intro b h
      obtain ⟨e, he⟩ := h a (by simp)
      obtain ⟨k, hk⟩ := ih (max b e.k) fun q hq => h q (by simp [hq])
      exact ⟨k, by simp only [finalT]; rw [he]; exact hk⟩
  obtain ⟨k, hk⟩ := hfin s.ps 0 hall
  obtain ⟨e, he⟩ := hall q (List.mem_of_getElem? hq)
  unfold stepT mv
  dsimp only
  rw [if_neg (by omega), isN_nat, decide_eq_true hp, if_neg (by decide), if_neg (by omega), isN_nat, decide_eq_true hm, if_neg (by decide)]
  dsimp only [Int.toNat_natCast]
  rw [hq]
  dsimp only
  rw [if_neg (by decide), hk]
  dsimp only
  rw [he]
  dsimp only
  by_cases hf : e.fin = true
  · rw [if_pos hf]; exact ⟨q, e, hq, he, hf⟩
  · rw [if_neg hf]
    obtain ⟨e2, h1, h2⟩ := (LeP.settle ⟨max q.n (k / 8), upG q.got m ⟨k, true, e.hrd⟩, q.lst⟩).2 m _ (upG_self _ _ _)
    exact ⟨_, e2, List.getElem?_set_self hp, h1, h2 rfl⟩
/-- one kind, message m, the first k processes -/
def rowA (kind m k : Nat) : List Mv := (List.range k).map fun p => mv kind p m
/-- one kind, the messages from the last one down, k of them -/
def colA (kind n many : Nat) : Nat → List Mv
  | 0 => []
  | k + 1 => colA kind n many k ++ rowA kind (many - 1 - k) n
theorem rowA_succ (kind m k : Nat) : rowA kind m (k + 1) = rowA kind m k ++ [mv kind k m] := by unfold rowA; rw [List.range_succ, List.map_append]; rfl
theorem rowA_len (kind m k : Nat) : (rowA kind m k).length = k := by simp [rowA]
theorem colA_len (kind n many : Nat) : ∀ k, (colA kind n many k).length = n * k
  | 0 => by simp [colA]
  | k + 1 => by simp only [colA, List.length_append, rowA_len, colA_len kind n many k]; rw [Nat.mul_succ]
def AllGot (s : TS) (m k : Nat) : Prop := ∀ p, p < k → ∃ q e, s.ps[p]? = some q ∧ q.got m = some e
def AllFin (s : TS) (m k : Nat) : Prop := ∀ p, p < k → ∃ q e, s.ps[p]? = some q ∧ q.got m = some e ∧ e.fin = true
theorem AllGot.le {s s' : TS} {m k : Nat} (h : AllGot s m k) (hl : LeT s s') : AllGot s' m k := fun p hp => by
  obtain ⟨q, e, h1, h2⟩ := h p hp
  obtain ⟨q', h3, h4⟩ := hl.ps p q h1
  obtain ⟨e', h5, _⟩ := h4.2 m e h2
  exact ⟨q', e', h3, h5⟩
theorem AllFin.le {s s' : TS} {m k : Nat} (h : AllFin s m k) (hl : LeT s s') : AllFin s' m k := fun p hp => by
  obtain ⟨q, e, h1, h2, h6⟩ := h p hp
  obtain ⟨q', h3, h4⟩ := hl.ps p q h1
  obtain ⟨e', h5, h7⟩ := h4.2 m e h2
  exact ⟨q', e', h3, h5, h7 h6⟩
theorem row_got {s : TS} {m : Nat} : ∀ (k : Nat), k ≤ s.ps.length → m < s.many → AllGot (stT s (rowA 2 m k)) m k
  | 0, _, _ => fun p hp => absurd hp (Nat.not_lt_zero _)
  | k + 1, hk, hm => by
    have ih := row_got (s := s) k (by omega) hm
    have hl := LeT.run (rowA 2 m k) s
    rw [rowA_succ, stT_app]
    intro p hp
    rcases Nat.lt_or_eq_of_le (Nat.le_of_lt_succ hp) with h | rfl
    · exact (ih.le (LeT.step _ _)) p h
    · exact take_got (by rw [hl.len]; omega) (Nat.lt_of_lt_of_le hm hl.many)
theorem row_fin {s : TS} {m : Nat} : ∀ (k : Nat), k ≤ s.ps.length → m < s.many → AllGot s m s.ps.length → AllFin (stT s (rowA 3 m k)) m k
  | 0, _, _, _ => fun p hp => absurd hp (Nat.not_lt_zero _)
  | k + 1, hk, hm, hg => by
    have ih := row_fin (s := s) k (by omega) hm hg
    have hl := LeT.run (rowA 3 m k) s
    rw [rowA_succ, stT_app]
    intro p hp
    rcases Nat.lt_or_eq_of_le (Nat.le_of_lt_succ hp) with h | rfl
    · exact (ih.le (LeT.step _ _)) p h
    · refine tell_fin (by rw [hl.len]; omega) (Nat.lt_of_lt_of_le hm hl.many) fun q hq => ?_
      obtain ⟨i, hi⟩ := List.getElem?_of_mem hq
      have hil := (List.getElem?_eq_some_iff.1 hi).1
      obtain ⟨q2, e, h1, h2⟩ := (hg.le hl) i (by rw [hl.len] at hil; exact hil)
      cases hi.symm.trans h1; exact ⟨e, h2⟩
theorem col_got {s : TS} : ∀ (k : Nat), k ≤ s.many → ∀ m, m < s.many → s.many - 1 - m < k → AllGot (stT s (colA 2 s.ps.length s.many k)) m s.ps.length
  | 0, _, m, _, h => absurd h (Nat.not_lt_zero _)
  | k + 1, hk, m, hm, h => by
    have hl := LeT.run (colA 2 s.ps.length s.many k) s
    simp only [colA]; rw [stT_app]
    by_cases c : s.many - 1 - m < k
    · exact (col_got k (by omega) m hm c).le (LeT.run _ _)
    · have e : s.many - 1 - k = m := by omega
      rw [e]
      exact row_got _ (by rw [hl.len]; exact Nat.le_refl _) (Nat.lt_of_lt_of_le hm hl.many)
theorem col_fin {s : TS} (hg : ∀ m, m < s.many → AllGot s m s.ps.length) : ∀ (k : Nat), k ≤ s.many → ∀ m, m < s.many → s.many - 1 - m < k → AllFin (stT s (colA 3 s.ps.length s.many k)) m s.ps.length
  | 0, _, m, _, h => absurd h (Nat.not_lt_zero _)
  | k + 1, hk, m, hm, h => by
    have hl := LeT.run (colA 3 s.ps.length s.many k) s
    simp only [colA]; rw [stT_app]
    by_cases c : s.many - 1 - m < k
    · exact (col_fin hg k (by omega) m hm c).le (LeT.run _ _)
    · have e : s.many - 1 - k = m := by omega
      rw [e]
      refine row_fin _ (by rw [hl.len]; exact Nat.le_refl _) (Nat.lt_of_lt_of_le hm hl.many) ?_
      rw [hl.len]; exact (hg m hm).le hl
theorem stepT_many (s : TS) (c : Mv) : (stepT s c).2.many = s.many + if c.kind = 1 ∧ (stepT s c).1 = 0 then 1 else 0 := by
  by_cases h1 : c.kind < 1 ∨ 3 < c.kind
  · unfold stepT; rw [if_pos h1, if_neg (fun h => by omega)]; rfl
  by_cases h2 : isN s.ps.length c.who = false
  · unfold stepT; rw [if_neg h1, if_pos h2, if_neg (fun h => by cases h.2)]; rfl
  by_cases h3 : c.kind = 1
  · unfold stepT; rw [if_neg h1, if_neg h2, if_pos h3, if_pos ⟨h3, rfl⟩]
  · rw [if_neg (fun h => h3 h.1)]
    unfold stepT; rw [if_neg h1, if_neg h2, if_neg h3]
    repeat' split
    all_goals rfl
theorem col_many {s : TS} (kind n many : Nat) (h1 : kind ≠ 1) : ∀ (l : List Mv), (∀ c ∈ l, c.kind ≠ 1) → (stT s l).many = s.many := by
  intro l
  induction l generalizing s with
  | nil => intro _; rfl
  | cons c l ih =>
    intro h
    simp only [stT]
    rw [ih fun c hc => h c (by simp [hc]), stepT_many, if_neg (fun q => h c (by simp) q.1)]; rfl
theorem rowA_kind {kind m k : Nat} : ∀ c ∈ rowA kind m k, c.kind = (kind : Int) := fun c hc => by
  obtain ⟨p, _, rfl⟩ := List.mem_map.1 hc; rfl
theorem colA_kind {kind n many : Nat} : ∀ (k : Nat), ∀ c ∈ colA kind n many k, c.kind = (kind : Int)
  | 0, c, hc => by cases hc
  | k + 1, c, hc => by
    simp only [colA] at hc
    rcases List.mem_append.1 hc with h | h
    · exact colA_kind k c h
    · exact rowA_kind c h
/-- the whole: all have heard all, alike -/
theorem all_run {n : Nat} {cs : List Mv} (hn : n ≤ 6) (many : Nat) (hm : (stT (ts0 n) cs).many = many) : ∀ i j, i < n → j < n → (lstT (stT (ts0 n) (cs ++ (colA 2 n many many ++ colA 3 n many many))) i).length = many ∧ lstT (stT (ts0 n) (cs ++ (colA 2 n many many ++ colA 3 n many many))) i = lstT (stT (ts0 n) (cs ++ (colA 2 n many many ++ colA 3 n many many))) j := by
  have h0 : (ts0 n).ps.length = n := by simp [ts0]
  have e1 : (stT (ts0 n) cs).ps.length = n := by rw [stT_plen, h0]
  obtain ⟨s, hs⟩ : ∃ s, s = stT (ts0 n) cs := ⟨_, rfl⟩
  have eI := (InvT.zero n).run (cs ++ (colA 2 n many many ++ colA 3 n many many)) (by omega)
  have eS := (SetI.zero n).run (cs ++ (colA 2 n many many ++ colA 3 n many many)) (InvT.zero n) (by omega)
  have eL : (stT (ts0 n) (cs ++ (colA 2 n many many ++ colA 3 n many many))).ps.length = n := by rw [stT_plen, h0]
  have eM : (stT (ts0 n) (cs ++ (colA 2 n many many ++ colA 3 n many many))).many = many := by
    rw [stT_app, col_many 2 0 0 (by decide), hm]
    intro c hc
    rcases List.mem_append.1 hc with h | h <;> rw [colA_kind _ c h] <;> decide
  have hfin : ∀ m, m < many → AllFin (stT (ts0 n) (cs ++ (colA 2 n many many ++ colA 3 n many many))) m n := fun m hmm => by
    rw [stT_app, stT_app, ← hs]
    rw [← hs] at e1 hm
    subst hm
    have g1 := fun m (hm : m < s.many) => col_got (s := s) s.many (Nat.le_refl _) m hm (by omega)
    rw [e1] at g1
    have hl2 := LeT.run (colA 2 n s.many s.many) s
    have em2 : (stT s (colA 2 n s.many s.many)).many = s.many := col_many 2 0 0 (by decide) _ fun c hc => by rw [colA_kind _ c hc]; decide
    have el2 : (stT s (colA 2 n s.many s.many)).ps.length = n := by rw [hl2.len, e1]
    have := col_fin (s := stT s (colA 2 n s.many s.many)) (fun m hm => by rw [el2]; rw [em2] at hm; exact g1 m hm) s.many (by rw [em2]; exact Nat.le_refl _) m (by rw [em2]; exact hmm) (by rw [em2]; omega)
    rw [el2, em2] at this; exact this
  obtain ⟨z, hz⟩ : ∃ z, z = stT (ts0 n) (cs ++ (colA 2 n many many ++ colA 3 n many many)) := ⟨_, rfl⟩
  rw [← hz] at eI eS eL eM hfin ⊢
  have key : ∀ i, i < n → (lstT z i).length = many := fun i hi => by
    obtain ⟨p, hp⟩ : ∃ p, z.ps[i]? = some p := ⟨_, List.getElem?_eq_getElem (by rw [eL]; exact hi)⟩
    rw [lstT_at hp, ← eM]
    refine all_heard eI eS hp fun m hm => ?_
    obtain ⟨q, e, h1, h2, h3⟩ := hfin m (by rw [← eM]; exact hm) i hi
    cases hp.symm.trans h1; exact ⟨e, h2, h3⟩
  intro i j hi hj
  refine ⟨key i hi, ?_⟩
  rcases eI.lst (i := i) (j := j) with h | h
  · exact h.eq_of_length (by rw [key i hi, key j hj])
  · exact (h.eq_of_length (by rw [key i hi, key j hj])).symm
end Go.Proofs.Ytfpdbgalannalaa
