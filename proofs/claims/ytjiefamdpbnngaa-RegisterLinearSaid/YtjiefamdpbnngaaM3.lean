/- The last write is read. In plain words. No condition. -/
import Derived.Test.YtjiefamdpbnngaaM2
namespace Go.Proofs.Ytjiefamdpbnngaa
open Go.RowKit
set_option linter.unusedVariables false
set_option linter.unusedSimpArgs false
set_option maxRecDepth 100000

/-! the last write is read -/
def stOk (cs : List Sd) (i : Nat) (x : Sd) : Prop := ∃ c, cs[i]? = some c ∧ later x c = false
theorem later_no {a b : Sd} : later a b = false ↔ a.n < b.n ∨ (a.n = b.n ∧ a.who ≤ b.who) := by
  unfold later; rw [decide_eq_false_iff_not]; omega
theorem later_yes {a b : Sd} : later a b = true ↔ b.n < a.n ∨ (a.n = b.n ∧ b.who < a.who) := by
  unfold later; rw [decide_eq_true_iff]; omega
theorem store_at {cs : List Sd} {i : Nat} {c x : Sd} (h : cs[i]? = some c) : (storeR cs i x)[i]? = some (if later x c then x else c) := by
  unfold storeR; rw [h]; dsimp only
  split
  · exact List.getElem?_set_self (List.getElem?_eq_some_iff.1 h).1
  · exact h
theorem store_ne {cs : List Sd} {i j : Nat} {x : Sd} (h : i ≠ j) : (storeR cs i x)[j]? = cs[j]? := by
  unfold storeR
  split
  · split
    · exact List.getElem?_set_ne h
    · rfl
  · rfl
theorem stOk.store {cs : List Sd} {i j : Nat} {x y : Sd} (h : stOk cs i x) : stOk (storeR cs j y) i x := by
  obtain ⟨c, hc, hl⟩ := h
  by_cases e : j = i
  · subst e
    refine ⟨_, store_at hc, ?_⟩
    split
    · rename_i q
      rw [later_no] at hl ⊢; rw [later_yes] at q; omega
    · exact hl
  · exact ⟨c, by rw [store_ne e]; exact hc, hl⟩
theorem stOk.self {cs : List Sd} {i : Nat} {x : Sd} (h : i < cs.length) : stOk (storeR cs i x) i x := by
  obtain ⟨c, hc⟩ := get_of_lt h
  refine ⟨_, store_at hc, ?_⟩
  split
  · rw [later_no]; omega
  · rename_i q; simpa using q
structure LI (n : Nat) (s : RS) : Prop where
  org : ∀ (i : Nat) (c : Sd), s.cs[i]? = some c → c = sd0 ∨ ∃ (k : Nat) (o : Oq), s.ops[k]? = some o ∧ o.sec = true ∧ c = o.best
  part : ∀ (k : Nat) (o : Oq), s.ops[k]? = some o → o.sec = true → o.to < 0 → ∀ i ∈ o.seen, stOk s.cs i o.best
  full : ∀ (k : Nat) (o : Oq), s.ops[k]? = some o → 0 ≤ o.to → o.sec = true ∧ ∃ p : Nat → Bool, n < 2 * cp p n ∧ ∀ i, i < n → p i = true → stOk s.cs i o.best
theorem LI.zero (n : Nat) : LI n (rs0 n) := by
  refine ⟨fun i c h => ?_, fun k o h => by simp [rs0] at h, fun k o h => by simp [rs0] at h⟩
  simp only [rs0, List.getElem?_replicate] at h; split at h
  · cases h; exact .inl rfl
  · cases h
theorem LI.store {n : Nat} {s : RS} (h : LI n s) {k : Nat} {o : Oq} (ho : s.ops[k]? = some o) (hs : o.sec = true) (i : Nat) : LI n ⟨storeR s.cs i o.best, s.ops, s.now⟩ := by
  refine ⟨fun j c hc => ?_, fun k' o' h1 h2 h3 j hj => (h.part k' o' h1 h2 h3 j hj).store, fun k' o' h1 h2 => ?_⟩
  · rcases store_get hc with q | ⟨_, rfl⟩
    · exact h.org j c q
    · exact .inr ⟨k, o, ho, hs, rfl⟩
  · obtain ⟨e1, p, e2, e3⟩ := h.full k' o' h1 h2
    exact ⟨e1, p, e2, fun j hj hp => (e3 j hj hp).store⟩
theorem LI.now {n : Nat} {s : RS} (h : LI n s) (now : List (Option Nat)) : LI n ⟨s.cs, s.ops, now⟩ := ⟨h.org, h.part, h.full⟩
/-- an op put in the place of another one -/
theorem LI.set {n : Nat} {s : RS} (h : LI n s) {k : Nat} {o x : Oq} (ho : s.ops[k]? = some o) (hb : o.sec = true → x.sec = true ∧ x.best = o.best)
    (hp : x.sec = true → x.to < 0 → ∀ i ∈ x.seen, stOk s.cs i x.best) (hf : 0 ≤ x.to → x.sec = true ∧ ∃ p : Nat → Bool, n < 2 * cp p n ∧ ∀ i, i < n → p i = true → stOk s.cs i x.best) : LI n ⟨s.cs, s.ops.set k x, s.now⟩ := by
  have hkl := (List.getElem?_eq_some_iff.1 ho).1
  have hset : ∀ (k' : Nat) (y : Oq), (s.ops.set k x)[k']? = some y → (k' = k ∧ y = x) ∨ s.ops[k']? = some y := fun k' y hy => by
    by_cases e : k = k'
    · subst e; rw [List.getElem?_set_self hkl] at hy; cases hy; exact .inl ⟨rfl, rfl⟩
    · rw [List.getElem?_set_ne e] at hy; exact .inr hy
  refine ⟨fun i c hc => ?_, fun k' y hy h2 h3 => ?_, fun k' y hy h2 => ?_⟩
  · rcases h.org i c hc with e | ⟨k', o', h1, h2, h3⟩
    · exact .inl e
    · by_cases e : k = k'
      · subst e
        cases ho.symm.trans h1
        exact .inr ⟨k, x, List.getElem?_set_self hkl, (hb h2).1, h3.trans (hb h2).2.symm⟩
      · exact .inr ⟨k', o', by show (s.ops.set k x)[k']? = _; rw [List.getElem?_set_ne e]; exact h1, h2, h3⟩
  · rcases hset k' y hy with ⟨rfl, rfl⟩ | q
    · exact hp h2 h3
    · exact h.part k' y q h2 h3
  · rcases hset k' y hy with ⟨rfl, rfl⟩ | q
    · exact hf h2
    · exact h.full k' y q h2
theorem LI.reach {n m c i : Nat} {s : RS} (inv : InvR n m s) (h : LI n s) (hi : i < n) : LI n (reachR s c i m).2 := by
  rcases reach_cases (c := c) (i := i) inv with e | ⟨k, o, hn, ho, hw, ht, hs⟩
  · rw [e]; exact h
  · rw [reachR_eq hn ho hs]
    refine LI.now (s := ⟨if o.sec = true then storeR s.cs i o.best else s.cs, s.ops.set k (if 2 * (o.many + 1) ≤ s.cs.length then seeR s.cs i o else turnO (seeR s.cs i o) m), s.now⟩) ?_ _
    obtain ⟨_, hmany, _⟩ := inv.live k o ho ht
    by_cases hsec : o.sec = true
    · rw [if_pos hsec]
      have h' := h.store ho hsec i
      have hse : (seeR s.cs i o).best = o.best := by unfold seeR; rw [if_pos hsec]
      have hsn : ∀ j ∈ o.seen ++ [i], stOk (storeR s.cs i o.best) j o.best := fun j hj => by
        rcases List.mem_append.1 hj with q | q
        · exact (h.part k o ho hsec ht j q).store
        · simp at q; subst q; exact stOk.self (by rw [inv.len]; exact hi)
      by_cases g : 2 * (o.many + 1) ≤ s.cs.length
      · rw [if_pos g]
        exact LI.set h' ho (fun _ => ⟨hsec, hse⟩) (fun _ _ j hj => by rw [hse]; exact hsn j hj) (fun q => absurd q (by show ¬ 0 ≤ o.to; omega))
      · rw [if_neg g]
        have hT : turnO (seeR s.cs i o) m = { (seeR s.cs i o) with to := (m : Int), val := if (seeR s.cs i o).wr then (seeR s.cs i o).val else (seeR s.cs i o).best.val } := by
          unfold turnO; rw [if_pos (show (seeR s.cs i o).sec = true from hsec)]
        rw [hT]
        refine LI.set h' ho (fun _ => ⟨hsec, hse⟩) (fun _ q => absurd q (by show ¬ (m : Int) < 0; omega)) (fun _ => ⟨hsec, fun j => decide (j ∈ o.seen ++ [i]), ?_, fun j hj hp => ?_⟩)
        · rw [cp_add hi (p := fun j => decide (j ∈ o.seen)) (by simpa using hs) fun j => ?_]
          · rw [inv.len] at g; omega
          · by_cases e : i = j
            · subst e; simp
            · simp [e, Ne.symm e]
        · show stOk _ j (seeR s.cs i o).best
          rw [hse]; exact hsn j (of_decide_eq_true hp)
    · rw [if_neg hsec]
      by_cases g : 2 * (o.many + 1) ≤ s.cs.length
      · rw [if_pos g]
        exact LI.set h ho (fun q => absurd q hsec) (fun q => absurd q hsec) (fun q => absurd q (by show ¬ 0 ≤ o.to; omega))
      · rw [if_neg g]
        have hT : turnO (seeR s.cs i o) m = { (seeR s.cs i o) with sec := true, seen := [], many := 0, best := if (seeR s.cs i o).wr then ⟨(seeR s.cs i o).best.n + 1, (seeR s.cs i o).who, (seeR s.cs i o).val⟩ else (seeR s.cs i o).best } := by
          unfold turnO; rw [if_neg (show ¬ (seeR s.cs i o).sec = true from hsec)]
        rw [hT]
        exact LI.set h ho (fun q => absurd q hsec) (fun _ _ j hj => by simp at hj) (fun q => absurd q (by show ¬ 0 ≤ o.to; omega))
theorem LI.begin {n m c : Nat} {s : RS} {wr : Bool} {val : Int} (h : LI n s) : LI n (beginR s c wr val m).2 := by
  unfold beginR
  split
  · exact h
  · have key : ∀ (k : Nat) (y : Oq), (s.ops ++ [newO c wr val m])[k]? = some y → y = newO c wr val m ∨ s.ops[k]? = some y := fun k y hy => by
      rcases Nat.lt_or_ge k s.ops.length with hk | hk
      · rw [List.getElem?_append_left hk] at hy; exact .inr hy
      · rw [List.getElem?_append_right hk] at hy
        obtain ⟨_, e⟩ := List.getElem?_eq_some_iff.1 hy
        simp at e; exact .inl e.symm
    refine ⟨fun i q hq => ?_, fun k y hy h2 => ?_, fun k y hy h2 => ?_⟩
    · rcases h.org i q hq with e | ⟨k', o', h1, h2⟩
      · exact .inl e
      · exact .inr ⟨k', o', by show (s.ops ++ _)[k']? = _; rw [List.getElem?_append_left (List.getElem?_eq_some_iff.1 h1).1]; exact h1, h2⟩
    · rcases key k y hy with rfl | q
      · cases h2
      · exact h.part k y q h2
    · rcases key k y hy with rfl | q
      · exact absurd h2 (by show ¬ (0 : Int) ≤ -1; decide)
      · exact h.full k y q h2
theorem LI.step {n m : Nat} {s : RS} (inv : InvR n m s) (h : LI n s) (c : Cl) : LI n (stepR s c m).2 := by
  unfold stepR
  split
  · exact h
  · split
    · exact h
    · rename_i g1 g2
      rw [inv.len] at g2
      split
      · exact h.begin
      · split
        · exact h.reach inv (by omega)
        · unfold lateR
          split
          · exact h
          · split
            · exact h
            · rename_i o ho
              split
              · rename_i hs; exact h.store ho hs _
              · exact h
theorem LI.run {n : Nat} (h1 : 1 ≤ n) : ∀ (l : List Cl) {m : Nat} {s : RS}, InvR n m s → LI n s → LI n (stR s m l)
  | [], m, s, _, h => h
  | c :: l, m, s, inv, h => LI.run h1 l (inv.step h1 c) (h.step inv c)
/-- of each stamp that is somewhere, most copies have one that is no less -/
theorem LI.most {n m : Nat} {s : RS} (inv : InvR n m s) (h : LI n s) (hd : ∀ (k : Nat) (o : Oq), s.ops[k]? = some o → 0 ≤ o.to) {i : Nat} {c : Sd} (hc : s.cs[i]? = some c) {q : Nat → Bool} (hq : n < 2 * cp q n) : ∃ j, j < n ∧ q j = true ∧ stOk s.cs j c := by
  rcases h.org i c hc with rfl | ⟨k, o, h1, h2, rfl⟩
  · obtain ⟨j, hj, h3, _⟩ := cp_meet (p := q) (q := q) (n := n) (by omega)
    obtain ⟨x, hx⟩ := get_of_lt (xs := s.cs) (k := j) (by rw [inv.len]; exact hj)
    exact ⟨j, hj, h3, x, hx, by rw [later_no]; show 0 < x.n ∨ (0 = x.n ∧ 0 ≤ x.who); omega⟩
  · obtain ⟨_, p, e1, e2⟩ := h.full k o h1 (hd k o h1)
    obtain ⟨j, hj, h3, h4⟩ := cp_meet (p := q) (q := p) (n := n) (by omega)
    exact ⟨j, hj, h3, e2 j hj h4⟩
/-- what is known of the one op under way -/
def Solo (n : Nat) (K who : Nat) (s : RS) (o : Oq) : Prop := s.ops[K]? = some o ∧ s.ops.length = K + 1 ∧ o.who = who ∧ ∀ k, s.now.getD who none = some k → k = K
structure SW (cs0 : List Sd) (n : Nat) (val : Int) (s : RS) (o : Oq) : Prop where
  isw : o.wr = true
  vl : o.val = val
  one : o.sec = false → o.to < 0 ∧ s.cs = cs0 ∧ ∀ i ∈ o.seen, ∃ c, cs0[i]? = some c ∧ later c o.best = false
  two : o.sec = true → 1 ≤ o.best.n ∧ o.best.val = val ∧ (∀ (i : Nat) (c : Sd), cs0[i]? = some c → later o.best c = true) ∧ (∀ i ∈ o.seen, s.cs[i]? = some o.best) ∧ (∀ i, ¬ i ∈ o.seen → s.cs[i]? = cs0[i]?) ∧ (0 ≤ o.to → n < 2 * cp (fun i => decide (i ∈ o.seen)) n)
/-- any property of the op under way that its reaches keep holds behind any pass -/
theorem solo_run {n K who : Nat} (h1 : 1 ≤ n) (hw4 : who < 4) {Q : RS → Oq → Prop}
    (hQ : ∀ (s : RS) (o : Oq) (m i : Nat), InvR n m s → i < n → Solo n K who s o → Q s o → s.now.getD who none = some K → ¬ i ∈ o.seen → o.to < 0 →
      Q (reachR s who i m).2 (if 2 * (o.many + 1) ≤ s.cs.length then seeR s.cs i o else turnO (seeR s.cs i o) m)) :
    ∀ (L : List Nat) {m : Nat} {s : RS} {o : Oq}, InvR n m s → (∀ i ∈ L, i < n) → Solo n K who s o → Q s o → ∃ o', Solo n K who (stR s m (L.map (rc who))) o' ∧ Q (stR s m (L.map (rc who))) o'
  | [], m, s, o, _, _, hs, hq => ⟨o, hs, hq⟩
  | i :: L, m, s, o, inv, hL, hs, hq => by
    have hi := hL i (by simp)
    have e : stepR s (rc who i) m = reachR s who i m := step_rc hw4 (by rw [inv.len]; exact hi)
    have inv' := inv.step h1 (rc who i)
    have key : ∃ o', Solo n K who (stepR s (rc who i) m).2 o' ∧ Q (stepR s (rc who i) m).2 o' := by
      rw [e]
      rcases reach_cases (c := who) (i := i) inv with e2 | ⟨k, o2, hn, ho, hw, ht, hsn⟩
      · rw [e2]; exact ⟨o, hs, hq⟩
      · obtain ⟨g1, g2, g3, g4⟩ := hs
        obtain rfl := g4 k hn
        cases g1.symm.trans ho
        have hq' := hQ s o m i inv hi ⟨g1, g2, g3, g4⟩ hq hn hsn ht
        refine ⟨_, ⟨?_, ?_, ?_, ?_⟩, hq'⟩
        · rw [reachR_eq hn ho hsn]; exact List.getElem?_set_self (List.getElem?_eq_some_iff.1 ho).1
        · rw [reachR_eq hn ho hsn]; show (s.ops.set k _).length = _; rw [List.length_set]; exact g2
        · exact (turn_keeps rfl).1.trans g3
        · rw [reachR_eq hn ho hsn]
          intro k' hk'
          dsimp only at hk'
          split at hk'
          · exact g4 k' hk'
          · split at hk'
            · by_cases q : o.who = who
              · rw [q, getD_self (by rw [inv.nlen]; exact hw4)] at hk'; cases hk'
              · exact absurd g3 q
            · exact g4 k' hk'
    obtain ⟨o', hs', hq'⟩ := key
    exact solo_run h1 hw4 hQ L inv' (fun j hj => hL j (by simp [hj])) hs' hq'
theorem see_later {cs : List Sd} {i : Nat} {o : Oq} {c : Sd} (hsec : o.sec = false) (hc : cs[i]? = some c) : later c (seeR cs i o).best = false ∧ ∀ d, later d o.best = false → later d (seeR cs i o).best = false := by
  have e : (seeR cs i o).best = if later c o.best then c else o.best := by
    unfold seeR; dsimp only; rw [hsec, hc]; rfl
  rw [e]
  split
  · rename_i q
    refine ⟨by rw [later_no]; omega, fun d hd => ?_⟩
    rw [later_yes] at q; rw [later_no] at hd ⊢; omega
  · rename_i q
    exact ⟨by simpa using q, fun d hd => hd⟩
theorem SW.step {n K who : Nat} {cs0 : List Sd} {val : Int} (hmost : ∀ (i : Nat) (c : Sd), cs0[i]? = some c → ∀ q : Nat → Bool, n < 2 * cp q n → ∃ j, j < n ∧ q j = true ∧ stOk cs0 j c)
    (s : RS) (o : Oq) (m i : Nat) (inv : InvR n m s) (hi : i < n) (hs : Solo n K who s o) (h : SW cs0 n val s o) (hn : s.now.getD who none = some K) (hsn : ¬ i ∈ o.seen) (ht : o.to < 0) :
    SW cs0 n val (reachR s who i m).2 (if 2 * (o.many + 1) ≤ s.cs.length then seeR s.cs i o else turnO (seeR s.cs i o) m) := by
  rw [reachR_eq hn hs.1 hsn]
  obtain ⟨k1, k2, k3, k4⟩ := turn_keeps (cs := s.cs) (i := i) (m := m) (o := o) rfl
  obtain ⟨_, hmany, _⟩ := inv.live K o hs.1 ht
  have hcp : cp (fun j => decide (j ∈ o.seen ++ [i])) n = o.many + 1 := by
    rw [hmany]
    refine cp_add hi (by simpa using hsn) fun j => ?_
    by_cases e : i = j
    · subst e; simp
    · simp [e, Ne.symm e]
  have hlen := inv.len
  obtain ⟨c, hc⟩ := get_of_lt (xs := s.cs) (k := i) (by omega)
  refine ⟨k2.trans h.isw, (k4 h.isw).trans h.vl, fun hx => ?_, fun hx => ?_⟩
  · by_cases g : 2 * (o.many + 1) ≤ s.cs.length
    · rw [if_pos g] at hx ⊢
      have hsec : o.sec = false := hx
      obtain ⟨e1, e2, e3⟩ := h.one hsec
      refine ⟨e1, by rw [hsec]; exact e2, fun j hj => ?_⟩
      have hj : j ∈ o.seen ++ [i] := hj
      obtain ⟨f1, f2⟩ := see_later hsec hc
      rcases List.mem_append.1 hj with q | q
      · obtain ⟨d, hd, hd2⟩ := e3 j q
        exact ⟨d, hd, f2 d hd2⟩
      · simp at q; subst q
        exact ⟨c, by rw [← e2]; exact hc, f1⟩
    · rw [if_neg g] at hx
      unfold turnO at hx
      split at hx
      · rename_i q; have hx' : (seeR s.cs i o).sec = false := hx; rw [hx'] at q; cases q
      · cases hx
  · by_cases hsec : o.sec = true
    · obtain ⟨e0, e1, e2, e3, e4, e5⟩ := h.two hsec
      have hb : (if 2 * (o.many + 1) ≤ s.cs.length then seeR s.cs i o else turnO (seeR s.cs i o) m).best = o.best ∧ (if 2 * (o.many + 1) ≤ s.cs.length then seeR s.cs i o else turnO (seeR s.cs i o) m).seen = o.seen ++ [i] := by
        have hse : (seeR s.cs i o).best = o.best := by unfold seeR; rw [if_pos hsec]
        split
        · exact ⟨hse, rfl⟩
        · unfold turnO; rw [if_pos (show (seeR s.cs i o).sec = true from hsec)]; exact ⟨hse, rfl⟩
      rw [hb.1, hb.2]
      have hci : s.cs[i]? = cs0[i]? := e4 i hsn
      have hl := e2 i c (by rw [← hci]; exact hc)
      refine ⟨e0, e1, e2, fun j hj => ?_, fun j hj => ?_, fun hto => ?_⟩
      · show (if o.sec = true then storeR s.cs i o.best else s.cs)[j]? = _
        rw [if_pos hsec]
        rcases List.mem_append.1 hj with q | q
        · have : i ≠ j := fun e => hsn (by rw [e]; exact q)
          rw [store_ne this]; exact e3 j q
        · simp at q; subst q
          rw [store_at hc, hl]; rfl
      · show (if o.sec = true then storeR s.cs i o.best else s.cs)[j]? = _
        rw [if_pos hsec]
        have : i ≠ j := fun e => hj (by rw [e]; simp)
        rw [store_ne this]; exact e4 j fun q => hj (List.mem_append.2 (.inl q))
      · rw [hcp]
        by_cases g : 2 * (o.many + 1) ≤ s.cs.length
        · rw [if_pos g] at hto; exact absurd hto (by show ¬ 0 ≤ o.to; omega)
        · rw [inv.len] at g; omega
    · have hsec' : o.sec = false := by simpa using hsec
      by_cases g : 2 * (o.many + 1) ≤ s.cs.length
      · rw [if_pos g] at hx; exact absurd hx hsec
      · rw [if_neg g] at hx ⊢
        have hT : turnO (seeR s.cs i o) m = { (seeR s.cs i o) with sec := true, seen := [], many := 0, best := if (seeR s.cs i o).wr then ⟨(seeR s.cs i o).best.n + 1, (seeR s.cs i o).who, (seeR s.cs i o).val⟩ else (seeR s.cs i o).best } := by
          unfold turnO; rw [if_neg (show ¬ (seeR s.cs i o).sec = true from hsec)]
        rw [hT]
        obtain ⟨e1, e2, e3⟩ := h.one hsec'
        rw [if_pos (show (seeR s.cs i o).wr = true from h.isw)]
        refine ⟨Nat.succ_le_succ (Nat.zero_le _), h.vl, fun j d hd => ?_, fun j hj => by simp at hj, fun j _ => by show (if o.sec = true then _ else s.cs)[j]? = _; rw [if_neg hsec, e2], fun q => absurd q (by show ¬ 0 ≤ o.to; omega)⟩
        obtain ⟨j', hj', hq', x, hx', hx2⟩ := hmost j d hd (fun j => decide (j ∈ o.seen ++ [i])) (by rw [hcp]; rw [inv.len] at g; omega)
        obtain ⟨f1, f2⟩ := see_later hsec' hc
        have : later x (seeR s.cs i o).best = false := by
          rcases List.mem_append.1 (of_decide_eq_true hq') with q | q
          · obtain ⟨d', hd', hd2⟩ := e3 j' q
            cases hx'.symm.trans hd'
            exact f2 _ hd2
          · simp at q; subst q
            rw [← e2] at hx'
            cases hx'.symm.trans hc
            exact f1
        rw [later_no] at this hx2
        rw [later_yes]
        left
        show d.n < (seeR s.cs i o).best.n + 1
        omega
/-- most copies have the stamp, the others lesser ones -/
def Top (n : Nat) (cs : List Sd) (S : Sd) : Prop := 1 ≤ S.n ∧ (∀ (i : Nat) (c : Sd), cs[i]? = some c → c = S ∨ later S c = true) ∧ ∃ p : Nat → Bool, n < 2 * cp p n ∧ ∀ i, i < n → p i = true → cs[i]? = some S
structure SR (cs1 : List Sd) (S : Sd) (s : RS) (o : Oq) : Prop where
  isr : o.wr = false
  one : o.sec = false → o.to < 0 ∧ s.cs = cs1 ∧ (o.best = sd0 ∨ ∃ i : Nat, cs1[i]? = some o.best) ∧ ∀ i ∈ o.seen, ∃ c, cs1[i]? = some c ∧ later c o.best = false
  two : o.sec = true → o.best = S ∧ (0 ≤ o.to → o.val = S.val)
theorem SR.step {n K who : Nat} {cs1 : List Sd} {S : Sd} (htop : Top n cs1 S)
    (s : RS) (o : Oq) (m i : Nat) (inv : InvR n m s) (hi : i < n) (hs : Solo n K who s o) (h : SR cs1 S s o) (hn : s.now.getD who none = some K) (hsn : ¬ i ∈ o.seen) (ht : o.to < 0) :
    SR cs1 S (reachR s who i m).2 (if 2 * (o.many + 1) ≤ s.cs.length then seeR s.cs i o else turnO (seeR s.cs i o) m) := by
  rw [reachR_eq hn hs.1 hsn]
  obtain ⟨k1, k2, k3, k4⟩ := turn_keeps (cs := s.cs) (i := i) (m := m) (o := o) rfl
  obtain ⟨_, hmany, _⟩ := inv.live K o hs.1 ht
  have hcp : cp (fun j => decide (j ∈ o.seen ++ [i])) n = o.many + 1 := by
    rw [hmany]
    refine cp_add hi (by simpa using hsn) fun j => ?_
    by_cases e : i = j
    · subst e; simp
    · simp [e, Ne.symm e]
  have hlen := inv.len
  obtain ⟨c, hc⟩ := get_of_lt (xs := s.cs) (k := i) (by omega)
  -- what the first half has seen
  have hone : o.sec = false → s.cs = cs1 ∧ ((seeR s.cs i o).best = sd0 ∨ ∃ a : Nat, cs1[a]? = some (seeR s.cs i o).best) ∧ ∀ j ∈ o.seen ++ [i], ∃ c, cs1[j]? = some c ∧ later c (seeR s.cs i o).best = false := fun hsec => by
    obtain ⟨e1, e2, e3, e4⟩ := h.one hsec
    obtain ⟨f1, f2⟩ := see_later hsec hc
    refine ⟨e2, ?_, fun j hj => ?_⟩
    · have e : (seeR s.cs i o).best = if later c o.best then c else o.best := by
        unfold seeR; dsimp only; rw [hsec, hc]; rfl
      rw [e]
      split
      · exact .inr ⟨i, by rw [← e2]; exact hc⟩
      · exact e3
    · rcases List.mem_append.1 hj with q | q
      · obtain ⟨d, hd, hd2⟩ := e4 j q
        exact ⟨d, hd, f2 d hd2⟩
      · simp at q; subst q
        exact ⟨c, by rw [← e2]; exact hc, f1⟩
  refine ⟨k2.trans h.isr, fun hx => ?_, fun hx => ?_⟩
  · by_cases g : 2 * (o.many + 1) ≤ s.cs.length
    · rw [if_pos g] at hx ⊢
      have hsec : o.sec = false := hx
      obtain ⟨e2, e3, e4⟩ := hone hsec
      exact ⟨ht, by rw [hsec]; exact e2, e3, e4⟩
    · rw [if_neg g] at hx
      unfold turnO at hx
      split at hx
      · rename_i q; have hx' : (seeR s.cs i o).sec = false := hx; rw [hx'] at q; cases q
      · cases hx
  · by_cases hsec : o.sec = true
    · obtain ⟨e1, e2⟩ := h.two hsec
      have hse : (seeR s.cs i o).best = o.best := by unfold seeR; rw [if_pos hsec]
      by_cases g : 2 * (o.many + 1) ≤ s.cs.length
      · rw [if_pos g]; exact ⟨hse.trans e1, fun q => absurd q (by show ¬ 0 ≤ o.to; omega)⟩
      · rw [if_neg g]
        unfold turnO; rw [if_pos (show (seeR s.cs i o).sec = true from hsec)]
        refine ⟨hse.trans e1, fun _ => ?_⟩
        show (if (seeR s.cs i o).wr = true then _ else _) = _
        rw [if_neg (by show ¬ o.wr = true; rw [h.isr]; decide), hse, e1]
    · have hsec' : o.sec = false := by simpa using hsec
      by_cases g : 2 * (o.many + 1) ≤ s.cs.length
      · rw [if_pos g] at hx; exact absurd hx hsec
      · rw [if_neg g] at hx ⊢
        unfold turnO; rw [if_neg (show ¬ (seeR s.cs i o).sec = true from hsec)]
        obtain ⟨e2, e3, e4⟩ := hone hsec'
        refine ⟨?_, fun q => absurd q (by show ¬ 0 ≤ o.to; omega)⟩
        show (if (seeR s.cs i o).wr = true then _ else (seeR s.cs i o).best) = S
        rw [if_neg (by show ¬ o.wr = true; rw [h.isr]; decide)]
        obtain ⟨t1, t2, p, t3, t4⟩ := htop
        obtain ⟨j, hj, g1, g2⟩ := cp_meet (p := fun j => decide (j ∈ o.seen ++ [i])) (q := p) (n := n) (by rw [hcp]; rw [inv.len] at g; omega)
        obtain ⟨d, hd, hd2⟩ := e4 j (of_decide_eq_true g1)
        rw [t4 j hj g2] at hd
        cases hd
        rcases e3 with e | ⟨j', hj'⟩
        · rw [e, later_no] at hd2
          have : S.n < 0 ∨ (S.n = 0 ∧ S.who ≤ 0) := hd2
          omega
        · rcases t2 j' _ hj' with e | e
          · exact e
          · rw [hd2] at e; cases e
def bg (who : Nat) (wr : Bool) (val : Int) : Cl := ⟨1, (who : Int), 0, 0, wr, val⟩
theorem step_bg {s : RS} {who m : Nat} {wr : Bool} {val : Int} (hw : who < 4) (hn : s.now.getD who none = none) : stepR s (bg who wr val) m = (0, ⟨s.cs, s.ops ++ [newO who wr val m], s.now.set who (some s.ops.length)⟩) := by
  have := step1 (s := s) (who := (who : Int)) (loc := 0) (src := 0) (val := val) (wr := wr) (m := m) (by omega) (by omega)
  rw [Int.toNat_natCast] at this
  refine this.trans ?_
  unfold beginR; rw [hn]
theorem now_none {n m c : Nat} {s : RS} (inv : InvR n m s) (h : ph s c = 0) : s.now.getD c none = none := by
  cases e : s.now.getD c none with
  | none => rfl
  | some k =>
    obtain ⟨o, ho, hw, ht⟩ := inv.now c k (getD_now e)
    rw [ph_some (live_some e ho)] at h
    split at h <;> cases h
theorem solo_new {n m who : Nat} {s : RS} (inv : InvR n m s) (hw : who < 4) (wr : Bool) (val : Int) : Solo n s.ops.length who ⟨s.cs, s.ops ++ [newO who wr val m], s.now.set who (some s.ops.length)⟩ (newO who wr val m) := by
  refine ⟨by show (s.ops ++ _)[_]? = _; rw [List.getElem?_append_right (Nat.le_refl _), Nat.sub_self]; rfl, by simp, rfl, fun k hk => ?_⟩
  have hk : (s.now.set who (some s.ops.length)).getD who none = some k := hk
  rw [getD_self (by rw [inv.nlen]; exact hw)] at hk
  cases hk; rfl
/-- begun, and two passes: an op's whole way -/
theorem op_run {n m who t t' : Nat} {s : RS} {wr : Bool} {val : Int} (h1 : 1 ≤ n) (hw : who < 4) (inv : InvR n m s) (hp : ∀ c, c < 4 → ph s c = 0) {Q : RS → Oq → Prop}
    (hQ : ∀ (s' : RS) (o : Oq) (m i : Nat), InvR n m s' → i < n → Solo n s.ops.length who s' o → Q s' o → s'.now.getD who none = some s.ops.length → ¬ i ∈ o.seen → o.to < 0 →
      Q (reachR s' who i m).2 (if 2 * (o.many + 1) ≤ s'.cs.length then seeR s'.cs i o else turnO (seeR s'.cs i o) m))
    (h0 : Q ⟨s.cs, s.ops ++ [newO who wr val m], s.now.set who (some s.ops.length)⟩ (newO who wr val m)) :
    ∃ s' o, s' = stR s m ([bg who wr val] ++ passL n who t ++ passL n who t') ∧ InvR n (m + 1 + 2 * n) s' ∧ (∀ c, c < 4 → ph s' c = 0) ∧ s'.ops.length = s.ops.length + 1 ∧ s'.ops[s.ops.length]? = some o ∧ o.who = who ∧ 0 ≤ o.to ∧ Q s' o := by
  have hst := step_bg (m := m) (wr := wr) (val := val) hw (now_none inv (hp who hw))
  have i0 := inv.step h1 (bg who wr val)
  rw [hst] at i0
  obtain ⟨s1, hs1⟩ : ∃ s1 : RS, s1 = ⟨s.cs, s.ops ++ [newO who wr val m], s.now.set who (some s.ops.length)⟩ := ⟨_, rfl⟩
  have hso := solo_new inv hw wr val
  rw [← hs1] at h0 hso
  have i0' : InvR n (m + 1) s1 := by rw [hs1]; exact i0
  have hlen : (passL n who t).length = n := by simp [passL]
  have e : stR s m ([bg who wr val] ++ passL n who t ++ passL n who t') = stR (stR s1 (m + 1) (passL n who t)) (m + 1 + n) (passL n who t') := by
    rw [stR_app, stR_app]
    show stR (stR (stepR s (bg who wr val) m).2 (m + 1) _) _ _ = _
    rw [hst, hs1]
    rw [List.length_append, hlen]
    congr 1
    simp; omega
  obtain ⟨i1, p1, o1⟩ := one_pass (c := who) (t := t) h1 hw i0'
  obtain ⟨i2, p2, o2⟩ := one_pass (c := who) (t := t') h1 hw i1
  have hph1 : ∀ c, c ≠ who → ph s1 c = 0 := fun c hc => by
    by_cases h4 : c < 4
    · have : liveR s1 c = liveR s c := by
        unfold liveR
        rw [hs1]
        dsimp only
        rw [getD_other (Ne.symm hc)]
        have := now_none inv (hp c h4)
        rw [this]; rfl
      rw [ph_eq this]; exact hp c h4
    · refine ph_none (live_none ?_)
      rw [hs1]; dsimp only
      rw [List.getD_eq_getElem?_getD, List.getElem?_eq_none (by rw [List.length_set, inv.nlen]; omega)]; rfl
  have hall : ∀ c, c < 4 → ph (stR (stR s1 (m + 1) (passL n who t)) (m + 1 + n) (passL n who t')) c = 0 := fun c hc => by
    by_cases q : c = who
    · subst q; have := ph_le s1 c; omega
    · rw [ph_eq (o2 c q), ph_eq (o1 c q)]; exact hph1 c q
  obtain ⟨oA, sA, qA⟩ := solo_run h1 hw hQ _ i0' (pass_lt (t := t) h1) hso h0
  rw [← passL_eq] at sA qA
  obtain ⟨oB, sB, qB⟩ := solo_run h1 hw hQ _ i1 (pass_lt (t := t') h1) sA qA
  rw [← passL_eq] at sB qB
  refine ⟨_, oB, rfl, ?_, ?_, ?_, ?_, sB.2.2.1, ?_, ?_⟩
  · rw [e, show m + 1 + 2 * n = m + 1 + n + n by omega]; exact i2
  · rw [e]; exact hall
  · rw [e]; exact sB.2.1
  · rw [e]; exact sB.1
  · exact all_done i2 hall _ _ sB.1
  · rw [e]; exact qB
def lastL (n : Nat) (cs : List Cl) (who : Nat) (val : Int) : List Cl := endL n cs ++ ([bg who true val] ++ passL n who 0 ++ passL n who 1) ++ ([bg who false val] ++ passL n who 1 ++ passL n who 2)
theorem last_read {n who : Nat} (h1 : 1 ≤ n) (hw : who < 4) (cs : List Cl) (val : Int) :
    ∃ o, (stR (rs0 n) 0 (lastL n cs who val)).ops.length = (stR (rs0 n) 0 (endL n cs)).ops.length + 2 ∧ (stR (rs0 n) 0 (lastL n cs who val)).ops[(stR (rs0 n) 0 (endL n cs)).ops.length + 1]? = some o ∧ o.wr = false ∧ o.who = who ∧ 0 ≤ o.to ∧ o.val = val := by
  obtain ⟨i0, p0⟩ := end_ph h1 cs
  have l0 := LI.run h1 (endL n cs) (InvR.zero n) (LI.zero n)
  have d0 := goes h1 cs
  have hel : (endL n cs).length = cs.length + 8 * n := by unfold endL; simp [turnL_len]; omega
  obtain ⟨s0, hs0⟩ : ∃ s0, s0 = stR (rs0 n) 0 (endL n cs) := ⟨_, rfl⟩
  have eL : stR (rs0 n) 0 (lastL n cs who val) = stR (stR s0 (cs.length + 8 * n) ([bg who true val] ++ passL n who 0 ++ passL n who 1)) (cs.length + 8 * n + ([bg who true val] ++ passL n who 0 ++ passL n who 1).length) ([bg who false val] ++ passL n who 1 ++ passL n who 2) := by
    unfold lastL
    rw [stR_app (endL n cs ++ _) _, stR_app (endL n cs) _, Nat.zero_add, List.length_append, Nat.zero_add, hel, ← hs0]
  rw [eL]
  rw [← hs0] at i0 p0 l0 d0 ⊢
  -- the write
  obtain ⟨s1, o1, e1, i1, p1, n1, g1, w1, t1, q1⟩ := op_run (t := 0) (t' := 1) (wr := true) (val := val) h1 hw i0 p0 (Q := SW s0.cs n val)
    (SW.step fun i c hc q hq => LI.most i0 l0 d0 hc hq)
    ⟨rfl, rfl, fun _ => ⟨by show (-1 : Int) < 0; decide, rfl, fun i hi => by simp [newO] at hi⟩, fun h => by cases h⟩
  have hsec : o1.sec = true := by
    cases e : o1.sec
    · have := (q1.one e).1; omega
    · rfl
  obtain ⟨f0, f1, f2, f3, f4, f5⟩ := q1.two hsec
  have htop : Top n s1.cs o1.best := by
    refine ⟨f0, fun i c hc => ?_, fun i => decide (i ∈ o1.seen), f5 t1, fun i hi hp => f3 i (of_decide_eq_true hp)⟩
    by_cases q : i ∈ o1.seen
    · rw [f3 i q] at hc; cases hc; exact .inl rfl
    · rw [f4 i q] at hc; exact .inr (f2 i c hc)
  rw [← e1]
  have hl1 : ([bg who true val] ++ passL n who 0 ++ passL n who 1).length = 1 + 2 * n := by simp [passL]; omega
  rw [hl1]
  obtain ⟨s2, o2, e2, i2, p2, n2, g2, w2, t2, q2⟩ := op_run (t := 1) (t' := 2) (wr := false) (val := val) h1 hw i1 p1 (Q := SR s1.cs o1.best)
    (SR.step htop)
    ⟨rfl, fun _ => ⟨by show (-1 : Int) < 0; decide, rfl, .inl rfl, fun i hi => by simp [newO] at hi⟩, fun h => by cases h⟩
  rw [show cs.length + 8 * n + (1 + 2 * n) = cs.length + 8 * n + 1 + 2 * n by omega, ← e2]
  have hsec2 : o2.sec = true := by
    cases e : o2.sec
    · have := (q2.one e).1; omega
    · rfl
  obtain ⟨r1, r2⟩ := q2.two hsec2
  exact ⟨o2, by omega, by rw [← n1]; exact g2, q2.isr, w2, t2, (r2 t2).trans f1⟩
end Go.Proofs.Ytjiefamdpbnngaa
