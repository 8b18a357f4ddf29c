/- A step, whole; its bounds. No condition. -/
import Derived.Test.YtcjdphhofjibdaaA4
namespace Go.Proofs.Ytcjdphhofjibdaa
open Go.RowKit
set_option linter.unusedVariables false
set_option linter.unusedSimpArgs false
set_option maxRecDepth 100000

theorem mem_ins {l : List Nat} {m x : Nat} : x ∈ ins l m ↔ x = m ∨ x ∈ l := by
  unfold ins
  rw [List.mem_append, List.mem_cons]
  conv => rhs; rw [← List.take_append_drop (cntL l m) l, List.mem_append]
  constructor
  · rintro (h | h | h)
    · exact .inr (.inl h)
    · exact .inl h
    · exact .inr (.inr h)
  · rintro (h | h | h)
    · exact .inr (.inl h)
    · exact .inl h
    · exact .inr (.inr h)
theorem ins_len (l : List Nat) (m : Nat) : (ins l m).length = l.length + 1 := by
  have : cntL l m ≤ l.length := List.countP_le_length
  unfold ins; simp; omega
theorem ins_lt {x m : Nat} {t : List Nat} (h : x < m) : ins (x :: t) m = x :: ins t m := by
  unfold ins cntL
  rw [List.countP_cons_of_pos (by simpa using h)]; rfl
theorem ins_ge {m : Nat} {l : List Nat} (h : ∀ y ∈ l, m ≤ y) : ins l m = m :: l := by
  have : cntL l m = 0 := List.countP_eq_zero.2 fun y hy => by have := h y hy; simp; omega
  unfold ins; rw [this]; rfl
theorem ins_sorted {m : Nat} : ∀ {l : List Nat}, l.Pairwise (· ≤ ·) → (ins l m).Pairwise (· ≤ ·)
  | [], _ => List.pairwise_singleton ..
  | x :: t, h => by
    obtain ⟨h1, h2⟩ := List.pairwise_cons.1 h
    by_cases c : x < m
    · rw [ins_lt c]
      refine List.pairwise_cons.2 ⟨fun y hy => ?_, ins_sorted h2⟩
      rcases mem_ins.1 hy with rfl | hy
      · omega
      · exact h1 y hy
    · rw [ins_ge fun y hy => by
        rcases List.mem_cons.1 hy with rfl | hy
        · omega
        · have := h1 y hy; omega]
      exact List.pairwise_cons.2 ⟨fun y hy => by
        rcases List.mem_cons.1 hy with rfl | hy
        · omega
        · have := h1 y hy; omega, h⟩
theorem RowC.mono {n L L' N N' : Nat} {p : Pt} (h : RowC n L N p) (hl : L ≤ L') (hn : N ≤ N') : RowC n L' N' p :=
  ⟨h.cl, by have := h.ll; omega, fun x hx => by have := h.cb x hx; omega, fun m hm => by have := h.pw m hm; omega, h.sw, by have := h.cm; omega, fun e he => by have := h.ck e he; omega⟩
theorem RowC.hear {n L N m : Nat} {all : List Ms} {p : Pt} (h : RowC n L N p) : RowC n (L + 1) N (hear all p m) := by
  unfold Go.Proofs.Ytcjdphhofjibdaa.hear
  split
  · exact h.mono (Nat.le_succ _) (Nat.le_refl _)
  · rename_i a ha
    have hll := h.ll
    refine ⟨by dsimp only; rw [List.length_set]; exact h.cl, by dsimp only; rw [List.length_append, List.length_singleton]; omega, fun x hx => ?_, h.pw, h.sw, by have := h.cm; dsimp only; omega, fun e he => by have := h.ck e he; omega⟩
    dsimp only at hx ⊢
    rcases List.mem_or_eq_of_mem_set hx with q | rfl
    · have := h.cb x q; omega
    · by_cases c : a.frm < p.cnt.length
      · obtain ⟨y, hy⟩ := get_of_lt c
        have := h.cb y (List.mem_of_getElem? hy)
        rw [getD_of hy]; omega
      · rw [List.set_eq_of_length_le (by omega)] at hx
        have := h.cb _ hx; omega
theorem RowC.take {n L N k : Nat} {p : Pt} (h : RowC n L N p) (hk : k < p.wts.length) : RowC n (L - 1) N ⟨p.lst, p.cnt, p.cm, p.wts.eraseIdx k⟩ ∨ True := .inr trivial
theorem RowC.stl {n L N : Nat} {all : List Ms} : ∀ (k : Nat) {p : Pt}, RowC n L N p → RowC n L N (stl all k p)
  | 0, p, h => h
  | k + 1, p, h => by
    rw [Go.Proofs.Ytcjdphhofjibdaa.stl]
    split
    · exact h
    · rename_i m hm
      refine RowC.stl k ?_
      have hl := (List.getElem?_eq_some_iff.1 hm).1
      have e : (p.wts.eraseIdx (fst (rdy all p.cnt) p.wts)).length = p.wts.length - 1 := by rw [List.length_eraseIdx, if_pos hl]
      have hll := h.ll
      unfold Go.Proofs.Ytcjdphhofjibdaa.hear
      split
      · exact ⟨h.cl, by dsimp only; omega, fun x hx => by have := h.cb x hx; dsimp only; omega, fun m hm => h.pw m (List.mem_of_mem_eraseIdx hm), h.sw.sublist (List.eraseIdx_sublist ..), h.cm, h.ck⟩
      · rename_i a ha
        refine ⟨by dsimp only; rw [List.length_set]; exact h.cl, by dsimp only; rw [List.length_append, List.length_singleton]; omega, fun x hx => ?_, fun m hm => h.pw m (List.mem_of_mem_eraseIdx hm), h.sw.sublist (List.eraseIdx_sublist ..), h.cm, h.ck⟩
        dsimp only at hx ⊢
        rcases List.mem_or_eq_of_mem_set hx with q | rfl
        · have := h.cb x q; omega
        · by_cases c : a.frm < p.cnt.length
          · obtain ⟨y, hy⟩ := get_of_lt c
            have := h.cb y (List.mem_of_getElem? hy)
            rw [getD_of hy]; omega
          · rw [List.set_eq_of_length_le (by omega)] at hx
            have := h.cb _ hx; omega
theorem putM_val {cm : List (Nat × Nat)} {m x L : Nat} (h : ∀ e ∈ cm, e.2 ≤ L) (hx : x ≤ L) : ∀ e ∈ putM cm m x, e.2 ≤ L := fun e he => by
  rcases mem_putM he with rfl | ⟨h1, _⟩
  · exact hx
  · exact h e h1
theorem putM_len {cm : List (Nat × Nat)} {m x : Nat} : (putM cm m x).length ≤ cm.length + 1 := by rw [putM_length]; split <;> omega
theorem RowC.come {n L N m : Nat} {p : Pt} (h : RowC n L N p) : RowC n (L + 1) N ⟨p.lst, p.cnt, putM p.cm m (cmN p m + 1), p.wts⟩ := by
  have hc := cmN_le h m
  exact ⟨h.cl, by have := h.ll; dsimp only; omega, fun x hx => by have := h.cb x hx; dsimp only; omega, h.pw, h.sw, by have := h.cm; have := putM_len (cm := p.cm) (m := m) (x := cmN p m + 1); dsimp only; omega, putM_val (fun e he => by have := h.ck e he; omega) (by omega)⟩
theorem RowC.ins {n L N m : Nat} {p : Pt} (h : RowC n L N p) (hm : m < N) : RowC n (L + 1) N ⟨p.lst, p.cnt, putM p.cm m (cmN p m + 1), ins p.wts m⟩ := by
  have hc := cmN_le h m
  have hl := ins_len p.wts m
  exact ⟨h.cl, by have := h.ll; dsimp only; omega, fun x hx => by have := h.cb x hx; dsimp only; omega, fun z hz => by rcases mem_ins.1 hz with rfl | q; (exact hm); (exact h.pw z q), ins_sorted h.sw, by have := h.cm; have := putM_len (cm := p.cm) (m := m) (x := cmN p m + 1); dsimp only; omega, putM_val (fun e he => by have := h.ck e he; omega) (by omega)⟩
theorem BdC.put {n L L' : Nat} {s : CS} {i : Nat} {q : Pt} (h : BdC n L s) (hl : L ≤ L') (hq : RowC n L' s.all.length q) : BdC n L' ⟨s.all, s.ps.set i q⟩ :=
  ⟨by dsimp only; rw [List.length_set]; exact h.len, by have := h.al; dsimp only; omega, h.fr, fun p hp => by
    rcases List.mem_or_eq_of_mem_set hp with z | rfl
    · exact (h.row p z).mono hl (Nat.le_refl _)
    · exact hq⟩
theorem BdC.mono {n L L' : Nat} {s : CS} (h : BdC n L s) (hl : L ≤ L') : BdC n L' s := ⟨h.len, by have := h.al; omega, h.fr, fun p hp => (h.row p hp).mono hl (Nat.le_refl _)⟩
theorem isN_false {n : Nat} {x : Int} (h : ¬ isN n x = false) : 0 ≤ x ∧ x.toNat < n := by
  simp only [isN, Bool.not_eq_false, decide_eq_true_eq] at h; omega
theorem BdC.step {n L : Nat} {s : CS} (x : Mv) (h : BdC n L s) : BdC n (L + 1) (stepC s x).2 := by
  unfold stepC
  split
  · exact h.mono (Nat.le_succ _)
  split
  · exact h.mono (Nat.le_succ _)
  rename_i hw
  obtain ⟨hw0, hw1⟩ := isN_false hw
  rw [h.len] at hw1
  split
  · exact h.mono (Nat.le_succ _)
  rename_i p hp
  have hr := h.row p (List.mem_of_getElem? hp)
  split
  · refine ⟨by dsimp only; rw [List.length_set]; exact h.len, by have := h.al; dsimp only; rw [List.length_append, List.length_singleton]; omega, fun m hm => ?_, fun q hq => ?_⟩
    · rcases List.mem_append.1 hm with z | z
      · exact h.fr m z
      · rw [List.mem_singleton] at z; subst z; exact ⟨hw1, hr.cl⟩
    · rcases List.mem_or_eq_of_mem_set hq with z | rfl
      · exact (h.row q z).mono (Nat.le_succ _) (by rw [List.length_append]; exact Nat.le_add_right _ _)
      · exact (hr.mono (Nat.le_refl _) (by rw [List.length_append]; exact Nat.le_add_right _ _)).hear
  split
  · exact h.mono (Nat.le_succ _)
  rename_i hm
  obtain ⟨hm0, hm1⟩ := isN_false hm
  split
  · exact h.mono (Nat.le_succ _)
  split
  · exact h.mono (Nat.le_succ _)
  split
  · exact h.put (Nat.le_succ _) hr.come
  · exact h.put (Nat.le_succ _) ((hr.ins hm1).stl _)
theorem BdC.zero (n : Nat) : BdC n 0 (cs0 n) := by
  refine ⟨by simp [cs0], Nat.le_refl _, fun m hm => (by cases hm), fun p hp => ?_⟩
  rw [List.eq_of_mem_replicate hp]
  exact ⟨by simp, Nat.le_refl _, fun x hx => by rw [List.eq_of_mem_replicate hx]; exact Nat.le_refl _, fun m hm => (by cases hm), List.Pairwise.nil, Nat.le_refl _, fun e he => (by cases he)⟩
theorem stC_snoc {s : CS} {cs : List Mv} {i : Nat} {x : Mv} (h : cs[i]? = some x) : stC s (cs.take (i + 1)) = (stepC (stC s (cs.take i)) x).2 := by
  rw [take_of h, stC_app]; rfl
theorem codesC_snoc {s : CS} {cs : List Mv} {i : Nat} {x : Mv} (h : cs[i]? = some x) : codesC s (cs.take (i + 1)) = codesC s (cs.take i) ++ [(stepC (stC s (cs.take i)) x).1] := by
  rw [take_of h, codesC_app]; rfl
theorem BdC.run {n : Nat} {cs : List Mv} : ∀ i, i ≤ cs.length → BdC n i (stC (cs0 n) (cs.take i))
  | 0, _ => BdC.zero n
  | i + 1, h => by
    obtain ⟨x, hx⟩ := get_of_lt (xs := cs) (k := i) (by omega)
    rw [stC_snoc hx]; exact (BdC.run (cs := cs) i (by omega)).step x
/-- a step -/
theorem step_any {W w : World} {S n L : Nat} {s : CS} {x : Mv} {R : Hp} (hB : BdC n L s) (hn1 : 1 ≤ n) (hn6 : n ≤ 6) (hL : L ≤ 400) (H : Sat W w (worldH S s * R)) :
    Calls Try.prog 14 #[ptr S 0, .agg #[.int .i64 x.kind, .int .i64 x.who, .int .i64 x.msg]] w (Ret W fun v l => v = .int .i64 (stepC s x).1 ∧ sep l = worldH S (stepC s x).2 * R) := by
  obtain ⟨av, pv, mms, pms, hW, H⟩ := worldH.open_ H
  have hall : mms.length = s.all.length := by rw [← hW.all, List.length_map]
  have fin : ∀ {e : Ending} {w' : World} {v : Value} {l : List Hp} {z : Int} {s' : CS} {av' : Value} {mms' : List Mm} {pms' : List Pm}, stepC s x = (z, s') → WOk mms' pms' s' → e = .returned v → v = .int .i64 z → sep l = sep (WL S av' pv mms' pms' R) → Sat W w' (sep l) → Ret W (fun v l => v = .int .i64 (stepC s x).1 ∧ sep l = worldH S (stepC s x).2 * R) e w' := fun {e w' v l z s' av' mms' pms'} h1 h2 h3 h4 h5 h6 => by
    rw [h1]
    exact ⟨v, [worldH S s', R], h3, ⟨h4, by show _ * (_ * 1) = _; rw [Hp.mul_one]⟩, (worldH.shut h2 (h6.cast h5)).cast (by show _ = _ * (_ * 1); rw [Hp.mul_one])⟩
  obtain ⟨kd, wh, mg⟩ := x
  dsimp only
  by_cases hk : kd ≠ 1 ∧ kd ≠ 2
  · refine (step_kind hk hW hB hn1 hn6 hL H).mono fun e w' ⟨v, l, he, ⟨hv, hl⟩, H'⟩ => fin (z := 4) ?_ hW he hv hl H'
    unfold stepC; rw [if_pos hk]
  by_cases hw : wh < 0 ∨ (n : Int) ≤ wh
  · refine (step_who (by omega) hw hW hB hn1 hn6 hL H).mono fun e w' ⟨v, l, he, ⟨hv, hl⟩, H'⟩ => fin (z := 2) ?_ hW he hv hl H'
    unfold stepC; rw [if_neg hk, if_pos (show isN s.ps.length wh = false by rw [hB.len]; exact decide_eq_false (by omega))]
  obtain ⟨i, rfl⟩ : ∃ i : Nat, wh = (i : Int) := ⟨wh.toNat, by omega⟩
  have hin : i < n := by omega
  obtain ⟨p, hp⟩ := get_of_lt (xs := s.ps) (k := i) (by rw [hB.len]; exact hin)
  obtain ⟨pm, hpm, hpq, hok⟩ := hW.row hp
  have hwN : isN s.ps.length (i : Int) = true := decide_eq_true (by rw [hB.len]; omega)
  by_cases hk1 : kd = 1
  · subst hk1
    refine (step_send hp hpm hpq hok hin hW hB hn1 hn6 hL H).mono fun e w' ⟨v, l, he, ⟨av', sa, sn, sc, lw, y, hx, hil, hv, hl⟩, H'⟩ => fin (z := 0) (s' := ⟨s.all ++ [⟨i, p.cnt⟩], s.ps.set i ⟨p.lst ++ [mms.length], p.cnt.set i (y + 1), p.cm, p.wts⟩⟩) ?_ ?_ he hv hl H'
    · unfold stepC; dsimp only
      rw [if_neg hk, if_neg (by rw [hwN]; decide), Int.toNat_natCast, hp]; dsimp only
      rw [if_pos rfl, hear_of (all := s.all ++ [(⟨i, p.cnt⟩ : Ms)]) (p := p) (m := s.all.length) (a := (⟨i, p.cnt⟩ : Ms)) (by simp)]
      subst hpq
      rw [hall]; dsimp only
      rw [getD_of hx]
    · subst hpq
      have h2 := hW.put i (y := ⟨pm.b, pm.mb, lw, pm.cv, pm.wv, ⟨pm.p.lst ++ [mms.length], pm.p.cnt.set i (y + 1), pm.p.cm, pm.p.wts⟩⟩) ⟨hok.iw, hil, hok.ic⟩
      exact ⟨by rw [List.map_append, hW.all]; rfl, h2.ps, h2.ok⟩
  obtain rfl : kd = 2 := by omega
  by_cases hm : mg < 0 ∨ (mms.length : Int) ≤ mg
  · refine (step_msg hpm hin hm hW hB hn1 hn6 hL H).mono fun e w' ⟨v, l, he, ⟨hv, hl⟩, H'⟩ => fin (z := 2) ?_ hW he hv hl H'
    unfold stepC; dsimp only
    rw [if_neg hk, if_neg (by rw [hwN]; decide), Int.toNat_natCast, hp]; dsimp only
    rw [if_neg (by decide), if_pos (show isN s.all.length mg = false from decide_eq_false (by omega))]
  obtain ⟨m, rfl⟩ : ∃ m : Nat, mg = (m : Int) := ⟨mg.toNat, by omega⟩
  obtain ⟨mm, hmm⟩ := get_of_lt (xs := mms) (k := m) (by omega)
  have hma : s.all[m]? = some (toMs mm) := by rw [← hW.all, List.getElem?_map, hmm]; rfl
  have hmN : isN s.all.length (m : Int) = true := decide_eq_true (by omega)
  have hstep : stepC s ⟨2, (i : Int), (m : Int)⟩ = if mm.frm = i then (2, s) else if 0 < cmN p m then (6, ⟨s.all, s.ps.set i ⟨p.lst, p.cnt, putM p.cm m (cmN p m + 1), p.wts⟩⟩) else (0, ⟨s.all, s.ps.set i (settle s.all ⟨p.lst, p.cnt, putM p.cm m (cmN p m + 1), ins p.wts m⟩)⟩) := by
    unfold stepC; dsimp only
    rw [if_neg hk, if_neg (by rw [hwN]; decide), Int.toNat_natCast, hp]; dsimp only
    rw [if_neg (by decide), if_neg (by rw [hmN]; decide), Int.toNat_natCast, hma]; rfl
  by_cases hfo : mm.frm = i
  · exact (step_own hpm hin hmm hfo hW hB hn1 hn6 hL H).mono fun e w' ⟨v, l, he, ⟨hv, hl⟩, H'⟩ => fin (z := 2) (by rw [hstep, if_pos hfo]) hW he hv hl H'
  by_cases hc0 : 0 < cmN pm.p m
  · refine (step_held hp hpm hpq hok hin hmm hfo hc0 hW hB hn1 hn6 hL H).mono fun e w' ⟨v, l, he, ⟨hv, hl⟩, H'⟩ => ?_
    subst hpq
    exact fin (z := 6) (by rw [hstep, if_neg hfo, if_pos hc0]) (hW.put i (y := ⟨pm.b, pm.mb, pm.lv, pm.cv, pm.wv, ⟨pm.p.lst, pm.p.cnt, putM pm.p.cm m (cmN pm.p m + 1), pm.p.wts⟩⟩) ⟨hok.iw, hok.il, hok.ic⟩) he hv hl H'
  · refine (step_take hp hpm hpq hok hin hmm hfo (by omega) hW hB hn1 hn6 hL H).mono fun e w' ⟨v, l, he, ⟨lw, xa, wm, xc, hil, hxc, hv, hl⟩, H'⟩ => ?_
    subst hpq
    refine fin (z := 0) (by rw [hstep, if_neg hfo, if_neg hc0]) ?_ he hv hl H'
    have := hW.put i (y := ⟨pm.b, pm.mb, lw, pm.cv, .slice xa wm xc, settle (mms.map toMs) ⟨pm.p.lst, pm.p.cnt, putM pm.p.cm m (cmN pm.p m + 1), ins pm.p.wts m⟩⟩) ⟨⟨xa, wm, xc, hxc, rfl⟩, hil, hok.ic⟩
    rw [hW.all] at this ⊢
    exact this
end Go.Proofs.Ytcjdphhofjibdaa
