/- Who is under way, and how far; all ends. In plain words. No condition. -/
import Derived.Test.YtjiefamdpbnngaaM1
namespace Go.Proofs.Ytjiefamdpbnngaa
open Go.RowKit
set_option linter.unusedVariables false
set_option linter.unusedSimpArgs false
set_option maxRecDepth 100000

/-! whose op is under way, and how far -/
def rc (c i : Nat) : Cl := ⟨2, (c : Int), (i : Int), 0, false, 0⟩
def liveR (s : RS) (c : Nat) : Option Oq := (s.now.getD c none).bind fun k => s.ops[k]?
def ph (s : RS) (c : Nat) : Nat := match liveR s c with
  | none => 0
  | some o => if o.sec then 1 else 2
theorem step_rc {s : RS} {c i m : Nat} (hc : c < 4) (hi : i < s.cs.length) : stepR s (rc c i) m = reachR s c i m := by
  have := step2 (s := s) (who := (c : Int)) (loc := (i : Int)) (src := 0) (val := 0) (wr := false) (m := m) (by omega) (by omega) (by omega) (by omega)
  rw [Int.toNat_natCast, Int.toNat_natCast] at this
  exact this
theorem live_none {s : RS} {c : Nat} (h : s.now.getD c none = none) : liveR s c = none := by unfold liveR; rw [h]; rfl
theorem live_some {s : RS} {c k : Nat} {o : Oq} (h : s.now.getD c none = some k) (ho : s.ops[k]? = some o) : liveR s c = some o := by unfold liveR; rw [h]; exact ho
theorem live_inv {n m c : Nat} {s : RS} (inv : InvR n m s) {o : Oq} (h : liveR s c = some o) : ∃ k, s.now.getD c none = some k ∧ s.ops[k]? = some o ∧ o.who = c ∧ o.to < 0 := by
  unfold liveR at h
  cases e : s.now.getD c none with
  | none => rw [e] at h; cases h
  | some k =>
    rw [e] at h
    obtain ⟨o', ho', hw, ht⟩ := inv.now c k (getD_now e)
    have h' : s.ops[k]? = some o := h
    cases ho'.symm.trans h'
    exact ⟨k, rfl, h', hw, ht⟩
theorem getD_other {α : Type} {l : List α} {i j : Nat} {x d : α} (h : i ≠ j) : (l.set i x).getD j d = l.getD j d := by
  rw [List.getD_eq_getElem?_getD, List.getD_eq_getElem?_getD, List.getElem?_set_ne h]
theorem getD_self {α : Type} {l : List α} {i : Nat} {x d : α} (h : i < l.length) : (l.set i x).getD i d = x := by
  rw [List.getD_eq_getElem?_getD, List.getElem?_set_self h]; rfl
/-- what a reach does to who is under way -/
theorem reach_live {n m c i : Nat} {s : RS} (inv : InvR n m s) (hc : c < 4) :
    (∀ c', c' ≠ c → liveR (reachR s c i m).2 c' = liveR s c') ∧
    ((reachR s c i m = (6, s) ∧ (liveR s c = none ∨ ∃ o, liveR s c = some o ∧ i ∈ o.seen)) ∨
     ∃ k o, s.now.getD c none = some k ∧ s.ops[k]? = some o ∧ liveR s c = some o ∧ ¬ i ∈ o.seen ∧
       (reachR s c i m).2.cs = (if o.sec = true then storeR s.cs i o.best else s.cs) ∧
       (reachR s c i m).2.ops = s.ops.set k (if 2 * (o.many + 1) ≤ s.cs.length then seeR s.cs i o else turnO (seeR s.cs i o) m) ∧
       liveR (reachR s c i m).2 c = (if 2 * (o.many + 1) ≤ s.cs.length then some (seeR s.cs i o) else if o.sec = true then none else some (turnO (seeR s.cs i o) m))) := by
  cases h : s.now.getD c none with
  | none =>
    have e : reachR s c i m = (6, s) := by unfold reachR; rw [h]
    rw [e]; exact ⟨fun _ _ => rfl, .inl ⟨rfl, .inl (live_none h)⟩⟩
  | some k =>
    obtain ⟨o, ho, hw, ht⟩ := inv.now c k (getD_now h)
    by_cases hs : i ∈ o.seen
    · rw [reachR_seen h ho hs]; exact ⟨fun _ _ => rfl, .inl ⟨rfl, .inr ⟨o, live_some h ho, hs⟩⟩⟩
    · have hkl := (List.getElem?_eq_some_iff.1 ho).1
      rw [reachR_eq h ho hs]
      dsimp only
      refine ⟨fun c' hc' => ?_, .inr ⟨k, o, rfl, ho, live_some h ho, hs, rfl, rfl, ?_⟩⟩
      · have e1 : (if 2 * (o.many + 1) ≤ s.cs.length then s.now else if o.sec = true then s.now.set o.who none else s.now).getD c' none = s.now.getD c' none := by
          split
          · rfl
          · split
            · rw [hw]; exact getD_other (Ne.symm hc')
            · rfl
        unfold liveR
        dsimp only
        rw [e1]
        cases e : s.now.getD c' none with
        | none => rfl
        | some k' =>
          have : k ≠ k' := fun q => by
            subst q
            obtain ⟨o', ho', hw', _⟩ := inv.now c' k (getD_now e)
            cases ho.symm.trans ho'
            exact hc' (hw'.symm.trans hw)
          show (s.ops.set k _)[k']? = s.ops[k']?
          rw [List.getElem?_set_ne this]
      · unfold liveR
        dsimp only
        by_cases g1 : 2 * (o.many + 1) ≤ s.cs.length
        · rw [if_pos g1, if_pos g1, if_pos g1, h]
          exact List.getElem?_set_self hkl
        · rw [if_neg g1, if_neg g1, if_neg g1]
          by_cases g2 : o.sec = true
          · rw [if_pos g2, if_pos g2, hw, getD_self (by rw [inv.nlen]; exact hc)]; rfl
          · rw [if_neg g2, if_neg g2, h]
            exact List.getElem?_set_self hkl
theorem ph_some {s : RS} {c : Nat} {o : Oq} (h : liveR s c = some o) : ph s c = if o.sec then 1 else 2 := by unfold ph; rw [h]
theorem ph_none {s : RS} {c : Nat} (h : liveR s c = none) : ph s c = 0 := by unfold ph; rw [h]
theorem ph_eq {s s' : RS} {c : Nat} (h : liveR s' c = liveR s c) : ph s' c = ph s c := by unfold ph; rw [h]
def Pass (s : RS) (c p : Nat) (D : List Nat) : Prop := ph s c < p ∨ (ph s c = p ∧ ∃ o, liveR s c = some o ∧ ∀ i ∈ D, i ∈ o.seen)
theorem pass_step {n m c i p : Nat} {s : RS} {D : List Nat} (inv : InvR n m s) (hc : c < 4) (h : Pass s c p D) : Pass (reachR s c i m).2 c p (D ++ [i]) := by
  obtain ⟨_, h2⟩ := reach_live (i := i) inv hc
  rcases h2 with ⟨e, hl⟩ | ⟨k, o, hn, ho, hl, hs, _, _, hl'⟩
  · rw [e]
    rcases h with h | ⟨h, o, ho, hD⟩
    · exact .inl h
    · rcases hl with hl | ⟨o', ho', hi⟩
      · rw [hl] at ho; cases ho
      · cases ho.symm.trans ho'
        exact .inr ⟨h, o, ho, fun j hj => by
          rcases List.mem_append.1 hj with q | q
          · exact hD j q
          · simp at q; subst q; exact hi⟩
  · have hp := ph_some hl
    by_cases g1 : 2 * (o.many + 1) ≤ s.cs.length
    · rw [if_pos g1] at hl'
      have hp' := ph_some hl'
      have e : ph (reachR s c i m).2 c = ph s c := by rw [hp', hp]; rfl
      rcases h with h | ⟨h, o', ho', hD⟩
      · exact .inl (by rw [e]; exact h)
      · cases hl.symm.trans ho'
        refine .inr ⟨by rw [e]; exact h, _, hl', fun j hj => ?_⟩
        show j ∈ o.seen ++ [i]
        rcases List.mem_append.1 hj with q | q
        · exact List.mem_append.2 (.inl (hD j q))
        · exact List.mem_append.2 (.inr q)
    · rw [if_neg g1] at hl'
      have hle : ph (reachR s c i m).2 c < ph s c := by
        by_cases g2 : o.sec = true
        · rw [if_pos g2] at hl'
          rw [ph_none hl', hp, if_pos g2]; exact Nat.one_pos
        · rw [if_neg g2] at hl'
          rw [ph_some hl', hp, if_neg g2]
          have : (turnO (seeR s.cs i o) m).sec = true := by
            unfold turnO
            rw [if_neg (show ¬ (seeR s.cs i o).sec = true from g2)]
          rw [this]; decide
      refine .inl ?_
      rcases h with h | ⟨h, _⟩ <;> omega
theorem pass_run {n c p : Nat} (h1 : 1 ≤ n) (hc : c < 4) : ∀ (L : List Nat) {m : Nat} {s : RS} {D : List Nat}, InvR n m s → (∀ i ∈ L, i < n) → Pass s c p D → Pass (stR s m (L.map (rc c))) c p (D ++ L)
  | [], m, s, D, _, _, h => by rw [List.append_nil]; exact h
  | i :: L, m, s, D, inv, hL, h => by
    have hi := hL i (by simp)
    have e : stepR s (rc c i) m = reachR s c i m := step_rc hc (by rw [inv.len]; exact hi)
    have inv' := inv.step h1 (rc c i)
    have h' := pass_step (i := i) inv hc h
    rw [← e] at h'
    have := pass_run h1 hc L inv' (fun j hj => hL j (by simp [hj])) h'
    rw [List.append_assoc] at this
    exact this
theorem pass_other {n c c' : Nat} (h1 : 1 ≤ n) (hc : c < 4) (hne : c' ≠ c) : ∀ (L : List Nat) {m : Nat} {s : RS}, InvR n m s → (∀ i ∈ L, i < n) → liveR (stR s m (L.map (rc c))) c' = liveR s c'
  | [], m, s, _, _ => rfl
  | i :: L, m, s, inv, hL => by
    have hi := hL i (by simp)
    have e : stepR s (rc c i) m = reachR s c i m := step_rc hc (by rw [inv.len]; exact hi)
    have inv' := inv.step h1 (rc c i)
    have h2 := (reach_live (i := i) inv hc).1 c' hne
    rw [← e] at h2
    exact (pass_other h1 hc hne L inv' (fun j hj => hL j (by simp [hj]))).trans h2
/-- a pass over all copies brings an op on -/
theorem pass_ph {n c m : Nat} {s : RS} {L : List Nat} (h1 : 1 ≤ n) (hc : c < 4) (inv : InvR n m s) (hL : ∀ i ∈ L, i < n) (hall : ∀ i, i < n → i ∈ L) : ph (stR s m (L.map (rc c))) c ≤ ph s c - 1 := by
  have inv' := inv.run h1 (L.map (rc c))
  cases hl : liveR s c with
  | none =>
    have h0 : Pass s c 1 [] := .inl (by rw [ph_none hl]; exact Nat.one_pos)
    rcases pass_run h1 hc L inv hL h0 with h | ⟨h, o, ho, hD⟩
    · rw [ph_none hl]; omega
    · exfalso
      obtain ⟨k, hn, ho2, hw, ht⟩ := live_inv inv' ho
      obtain ⟨_, g1, g2⟩ := inv'.live k o ho2 ht
      rw [cp_all fun i hi => decide_eq_true (hD i (by simpa using hall i hi))] at g1
      omega
  | some o0 =>
    have h0 : Pass s c (ph s c) [] := .inr ⟨rfl, o0, hl, fun i hi => by simp at hi⟩
    rcases pass_run h1 hc L inv hL h0 with h | ⟨h, o, ho, hD⟩
    · omega
    · exfalso
      obtain ⟨k, hn, ho2, hw, ht⟩ := live_inv inv' ho
      obtain ⟨_, g1, g2⟩ := inv'.live k o ho2 ht
      rw [cp_all fun i hi => decide_eq_true (hD i (by simpa using hall i hi))] at g1
      omega
def passL (n c t : Nat) : List Cl := (List.range n).map fun i => rc c ((i + t) % n)
theorem passL_eq (n c t : Nat) : passL n c t = ((List.range n).map fun i => (i + t) % n).map (rc c) := by unfold passL; rw [List.map_map]; rfl
theorem pass_lt {n t : Nat} (h1 : 1 ≤ n) : ∀ i ∈ (List.range n).map fun i => (i + t) % n, i < n := fun i hi => by
  obtain ⟨j, _, rfl⟩ := List.mem_map.1 hi
  exact Nat.mod_lt _ h1
theorem pass_all {n t : Nat} (h1 : 1 ≤ n) : ∀ i, i < n → i ∈ (List.range n).map fun i => (i + t) % n := fun i hi => by
  refine List.mem_map.2 ⟨(i + (n - t % n)) % n, List.mem_range.2 (Nat.mod_lt _ h1), ?_⟩
  have ht : t % n < n := Nat.mod_lt _ h1
  rw [Nat.mod_add_mod]
  have : i + (n - t % n) + t = i + n * (t / n + 1) := by
    have := Nat.div_add_mod t n
    rw [Nat.mul_add, Nat.mul_one]; omega
  rw [this, Nat.add_mul_mod_self_left, Nat.mod_eq_of_lt hi]
def turnL (n : Nat) : List Cl := (List.range 4).flatMap fun c => (List.range n).map (rc c)
theorem turn_eq (n : Nat) : turnL n = passL n 0 0 ++ passL n 1 0 ++ passL n 2 0 ++ passL n 3 0 := by
  have h : ∀ c, passL n c 0 = (List.range n).map (rc c) := fun c => by
    unfold passL
    refine List.map_congr_left fun i hi => ?_
    rw [Nat.add_zero, Nat.mod_eq_of_lt (List.mem_range.1 hi)]
  simp [turnL, List.range, List.range.loop, h]
/-- one pass, of one client -/
theorem one_pass {n m c t : Nat} {s : RS} (h1 : 1 ≤ n) (hc : c < 4) (inv : InvR n m s) : InvR n (m + n) (stR s m (passL n c t)) ∧ ph (stR s m (passL n c t)) c ≤ ph s c - 1 ∧ ∀ c', c' ≠ c → liveR (stR s m (passL n c t)) c' = liveR s c' := by
  refine ⟨?_, ?_, fun c' hne => ?_⟩
  · have := inv.run h1 (passL n c t)
    rwa [show (passL n c t).length = n by simp [passL]] at this
  · rw [passL_eq]; exact pass_ph h1 hc inv (pass_lt h1) (pass_all h1)
  · rw [passL_eq]; exact pass_other h1 hc hne _ inv (pass_lt h1)
theorem one_turn {n m : Nat} {s : RS} (h1 : 1 ≤ n) (inv : InvR n m s) : InvR n (m + 4 * n) (stR s m (turnL n)) ∧ ∀ c, c < 4 → ph (stR s m (turnL n)) c ≤ ph s c - 1 := by
  rw [turn_eq, stR_app, stR_app, stR_app]
  have hlen : ∀ c, (passL n c 0).length = n := fun c => by simp [passL]
  simp only [List.length_append, hlen]
  obtain ⟨i0, p0, o0⟩ := one_pass (c := 0) (t := 0) h1 (by omega) inv
  obtain ⟨i1, p1, o1⟩ := one_pass (c := 1) (t := 0) h1 (by omega) i0
  obtain ⟨i2, p2, o2⟩ := one_pass (c := 2) (t := 0) h1 (by omega) i1
  obtain ⟨i3, p3, o3⟩ := one_pass (c := 3) (t := 0) h1 (by omega) i2
  rw [Nat.add_assoc m n n] at p2 o2 i2 i3 p3 o3
  rw [Nat.add_assoc m (n + n) n] at i3 p3 o3
  refine ⟨by rw [show m + 4 * n = m + (n + n + n) + n by omega]; exact i3, fun c hc => ?_⟩
  rcases (show c = 0 ∨ c = 1 ∨ c = 2 ∨ c = 3 by omega) with rfl | rfl | rfl | rfl
  · rw [ph_eq (o3 0 (by decide)), ph_eq (o2 0 (by decide)), ph_eq (o1 0 (by decide))]; exact p0
  · rw [ph_eq (o3 1 (by decide)), ph_eq (o2 1 (by decide))]; rwa [ph_eq (o0 1 (by decide))] at p1
  · rw [ph_eq (o3 2 (by decide))]; rwa [ph_eq (o1 2 (by decide)), ph_eq (o0 2 (by decide))] at p2
  · rwa [ph_eq (o2 3 (by decide)), ph_eq (o1 3 (by decide)), ph_eq (o0 3 (by decide))] at p3
theorem ph_le (s : RS) (c : Nat) : ph s c ≤ 2 := by
  unfold ph
  split
  · omega
  · split <;> omega
def endL (n : Nat) (cs : List Cl) : List Cl := cs ++ turnL n ++ turnL n
theorem turnL_len (n : Nat) : (turnL n).length = 4 * n := by rw [turn_eq]; simp [passL]; omega
theorem all_done {n m : Nat} {s : RS} (inv : InvR n m s) (h : ∀ c, c < 4 → ph s c = 0) : ∀ (k : Nat) (o : Oq), s.ops[k]? = some o → 0 ≤ o.to := fun k o ho => by
  refine Int.not_lt.1 fun ht => ?_
  obtain ⟨g1, _⟩ := inv.live k o ho ht
  have hl : liveR s o.who = some o := live_some (by rw [List.getD_eq_getElem?_getD, g1]; rfl) ho
  have := h o.who (inv.old k o ho).1
  rw [ph_some hl] at this
  split at this <;> cases this
theorem end_ph {n : Nat} (h1 : 1 ≤ n) (cs : List Cl) : InvR n (cs.length + 8 * n) (stR (rs0 n) 0 (endL n cs)) ∧ ∀ c, c < 4 → ph (stR (rs0 n) 0 (endL n cs)) c = 0 := by
  unfold endL
  rw [stR_app, stR_app, Nat.zero_add, List.length_append, turnL_len]
  have i0 := (InvR.zero n).run h1 cs
  rw [Nat.zero_add] at i0
  obtain ⟨i1, p1⟩ := one_turn h1 i0
  obtain ⟨i2, p2⟩ := one_turn h1 i1
  rw [Nat.zero_add]
  refine ⟨by rw [show cs.length + 8 * n = cs.length + 4 * n + 4 * n by omega]; exact i2, fun c hc => ?_⟩
  have := p2 c hc
  have := p1 c hc
  have := ph_le (stR (rs0 n) 0 cs) c
  omega
theorem goes {n : Nat} (h1 : 1 ≤ n) (cs : List Cl) : ∀ (k : Nat) (o : Oq), (stR (rs0 n) 0 (endL n cs)).ops[k]? = some o → 0 ≤ o.to :=
  all_done (end_ph h1 cs).1 (end_ph h1 cs).2
end Go.Proofs.Ytjiefamdpbnngaa
