/- Copies and steps, in plain words; copies in memory. No condition. -/
import Derived.Test.YtfpkfbffpkjgbaaA12
namespace Go.Proofs.Ytfpkfbffpkjgbaa
open Go.RowKit
set_option linter.unusedVariables false
set_option linter.unusedSimpArgs false
set_option maxRecDepth 100000

/-- the next number of one's own dots -/
def nxt (l : List Dt) (who : Int) : Int := l.foldl (fun k d => if d.who = who then mx2 k (d.n + 1) else k) 1
def szC (c : Cp) : Int × Cp := if big 1 c.ad.length c.go.length = true then (1, cp0) else (0, c)
/-- a copy with a step done -/
def chg (s : List Cp) (c : Cp) (i : Nat) (x : Sy) : Int × Cp :=
  if x.kind = 1 then (if -1099511627776 ≤ c.cn.getD i 0 + x.n ∧ c.cn.getD i 0 + x.n ≤ 1099511627776 then szC ⟨c.cn.set i (c.cn.getD i 0 + x.n), c.la, c.ad, c.go⟩ else (1, cp0))
  else if x.kind = 2 then (if 1000 < c.la.n + 1 then (1, cp0) else szC ⟨c.cn, ⟨c.la.n + 1, x.who, x.n⟩, c.ad, c.go⟩)
  else if x.kind = 3 then szC ⟨c.cn, c.la, uni c.ad [⟨x.item, x.who, nxt c.ad x.who⟩], c.go⟩
  else if x.kind = 4 then szC ⟨c.cn, c.la, c.ad, uni c.go (c.ad.filter fun d => !decide (d.item ≠ x.item))⟩
  else mergeC c (s.getD x.frm.toNat cp0)
def stepM (n : Nat) (s : List Cp) (x : Sy) : Int × List Cp :=
  if wrongC n x = 0 then
    match s[x.who.toNat]? with
    | none => (2, s)
    | some c => if (chg s c x.who.toNat x).1 = 0 then (0, s.set x.who.toNat (chg s c x.who.toNat x).2) else ((chg s c x.who.toNat x).1, s)
  else (wrongC n x, s)
def stM (n : Nat) : List Cp → List Sy → List Cp
  | s, [] => s
  | s, x :: l => stM n (stepM n s x).2 l
def codesM (n : Nat) : List Cp → List Sy → List Int
  | s, [] => []
  | s, x :: l => (stepM n s x).1 :: codesM n (stepM n s x).2 l
def ms0 (n : Nat) : List Cp := List.replicate n ⟨List.replicate n 0, ⟨0, 0, 0⟩, [], []⟩
theorem stM_app {n : Nat} : ∀ (l l' : List Sy) (s : List Cp), stM n s (l ++ l') = stM n (stM n s l) l'
  | [], _, _ => rfl
  | c :: l, l', s => by simp only [List.cons_append, stM]; exact stM_app l l' _
theorem codesM_app {n : Nat} : ∀ (l l' : List Sy) (s : List Cp), codesM n s (l ++ l') = codesM n s l ++ codesM n (stM n s l) l'
  | [], _, _ => rfl
  | c :: l, l', s => by simp only [List.cons_append, stM, codesM]; rw [codesM_app l l']
theorem codesM_len {n : Nat} : ∀ (l : List Sy) (s : List Cp), (codesM n s l).length = l.length
  | [], _ => rfl
  | c :: l, s => by simp [codesM, codesM_len l]
theorem stM_snoc {n : Nat} {s : List Cp} {l : List Sy} {i : Nat} {x : Sy} (h : l[i]? = some x) : stM n s (l.take (i + 1)) = (stepM n (stM n s (l.take i)) x).2 := by
  rw [take_snoc9 h, stM_app]; rfl
theorem codesM_snoc {n : Nat} {s : List Cp} {l : List Sy} {i : Nat} {x : Sy} (h : l[i]? = some x) : codesM n s (l.take (i + 1)) = codesM n s (l.take i) ++ [(stepM n (stM n s (l.take i)) x).1] := by
  rw [take_snoc9 h, codesM_app]; rfl
/-! bounds -/
def DtB (n : Nat) (k : Int) (d : Dt) : Prop := 0 ≤ d.item ∧ d.item < 4 ∧ 0 ≤ d.who ∧ d.who < (n : Int) ∧ 1 ≤ d.n ∧ d.n ≤ k
structure CpB (n : Nat) (k : Int) (c : Cp) : Prop where
  cn : c.cn.length = n
  cv : ∀ v ∈ c.cn, 0 ≤ v ∧ v ≤ 1099511627776
  la : 0 ≤ c.la.n ∧ c.la.n ≤ 1000 ∧ 0 ≤ c.la.who ∧ c.la.who < (n : Int) ∧ -1099511627776 ≤ c.la.val ∧ c.la.val ≤ 1099511627776
  al : c.ad.length ≤ 60
  gl : c.go.length ≤ 60
  ar : ∀ d ∈ c.ad, DtB n k d
  gr : ∀ d ∈ c.go, DtB n k d
  au : Up c.ad
  gu : Up c.go
structure BdM (n : Nat) (k : Int) (s : List Cp) : Prop where
  len : s.length = n
  all : ∀ c ∈ s, CpB n k c
theorem DtB.mono {n : Nat} {k k' : Int} {d : Dt} (h : DtB n k d) (hk : k ≤ k') : DtB n k' d := by unfold DtB at h ⊢; omega
theorem CpB.mono {n : Nat} {k k' : Int} {c : Cp} (h : CpB n k c) (hk : k ≤ k') : CpB n k' c := ⟨h.cn, h.cv, h.la, h.al, h.gl, fun d hd => (h.ar d hd).mono hk, fun d hd => (h.gr d hd).mono hk, h.au, h.gu⟩
theorem DtB.rng {n : Nat} {k : Int} {d : Dt} (h : DtB n k d) (hn : n ≤ 1000) (hk : k ≤ 1000000) : Rng d := by
  unfold DtB at h; unfold Rng in64; omega
theorem big_no {a g : Nat} (h : big 1 a g = false) : a ≤ 60 ∧ g ≤ 60 := by
  unfold big at h; have := of_decide_eq_false h; omega
theorem big_ok {a g : Nat} (ha : a ≤ 60) (hg : g ≤ 60) : big 1 a g = false := decide_eq_false (by omega)
theorem uni_all {p : Dt → Prop} {xs ys : List Dt} (hx : ∀ d ∈ xs, p d) (hy : ∀ d ∈ ys, p d) : ∀ d ∈ uni xs ys, p d := fun d hd => by
  rcases uni_mem.1 hd with h | h
  · exact hx d h
  · exact hy d h
theorem mx_mem : ∀ {a b : List Int} {v : Int}, v ∈ mx a b → v ∈ a ∨ v ∈ b
  | [], _, v, h => by simp [mx] at h
  | _ :: _, [], v, h => by simp [mx] at h
  | x :: a, y :: b, v, h => by
    rcases List.mem_cons.1 h with e | h
    · subst e; unfold mx2; split
      · exact .inr List.mem_cons_self
      · exact .inl List.mem_cons_self
    · rcases mx_mem h with h | h
      · exact .inl (List.mem_cons_of_mem _ h)
      · exact .inr (List.mem_cons_of_mem _ h)
theorem CpB.merge {n : Nat} {k : Int} {a b : Cp} (ha : CpB n k a) (hb : CpB n k b) (h : (mergeC a b).1 = 0) : CpB n k (mergeC a b).2 := by
  unfold mergeC at h ⊢
  split at h
  · cases h
  · split at h
    · cases h
    · rename_i h1 h2
      rw [if_neg h1, if_neg h2]
      have hs := big_no (by simpa using h2)
      refine ⟨by show (mx a.cn b.cn).length = n; rw [mx_len (by rw [ha.cn, hb.cn]; exact Nat.le_refl _), ha.cn], fun v hv => ?_, ?_, hs.1, hs.2, uni_all ha.ar hb.ar, uni_all ha.gr hb.gr, uni_up, uni_up⟩
      · rcases mx_mem hv with q | q
        · exact ha.cv v q
        · exact hb.cv v q
      · show _ ≤ (if 0 < spC b.la a.la then b.la else a.la).n ∧ (if 0 < spC b.la a.la then b.la else a.la).n ≤ _ ∧ _
        dsimp only [mrg]
        split
        · exact hb.la
        · exact ha.la
theorem nxt_snoc (l : List Dt) (d : Dt) (who : Int) : nxt (l ++ [d]) who = if d.who = who then mx2 (nxt l who) (d.n + 1) else nxt l who := by unfold nxt; rw [List.foldl_append]; rfl
theorem nxt_pos : ∀ (l : List Dt) (who : Int) (k : Int), 1 ≤ k → 1 ≤ l.foldl (fun k d => if d.who = who then mx2 k (d.n + 1) else k) k
  | [], _, _, h => h
  | d :: l, who, k, h => by
    rw [List.foldl_cons]
    refine nxt_pos l who _ ?_
    split
    · unfold mx2; split <;> omega
    · exact h
theorem nxt_le : ∀ (l : List Dt) (who : Int) (k N : Int), (∀ d ∈ l, d.n ≤ N) → k ≤ N + 1 → l.foldl (fun k d => if d.who = who then mx2 k (d.n + 1) else k) k ≤ N + 1
  | [], _, _, _, _, h => h
  | d :: l, who, k, N, hd, h => by
    rw [List.foldl_cons]
    refine nxt_le l who _ N (fun e he => hd e (List.mem_cons_of_mem _ he)) ?_
    have := hd d List.mem_cons_self
    split
    · unfold mx2; split <;> omega
    · exact h
theorem nxt_bd {l : List Dt} {who N : Int} (h : ∀ d ∈ l, d.n ≤ N) (h0 : 0 ≤ N) : 1 ≤ nxt l who ∧ nxt l who ≤ N + 1 := ⟨nxt_pos l who 1 (by omega), nxt_le l who 1 N h (by omega)⟩
theorem szC_ok {c : Cp} (h : (szC c).1 = 0) : (szC c).2 = c ∧ c.ad.length ≤ 60 ∧ c.go.length ≤ 60 := by
  unfold szC at h ⊢
  split at h
  · cases h
  · rename_i h1
    rw [if_neg h1]
    exact ⟨rfl, big_no (by simpa using h1)⟩
theorem wrong_facts {n : Nat} {x : Sy} (h : wrongC n x = 0) : (1 ≤ x.kind ∧ x.kind ≤ 5) ∧ (0 ≤ x.who ∧ x.who < (n : Int)) ∧ (x.kind = 5 → 0 ≤ x.frm ∧ x.frm < (n : Int)) ∧ (x.kind = 1 → 0 ≤ x.n ∧ x.n ≤ 1000) ∧ (x.kind = 2 → -1099511627776 ≤ x.n ∧ x.n ≤ 1099511627776) ∧ (x.kind = 3 ∨ x.kind = 4 → 0 ≤ x.item ∧ x.item < 4) := by
  unfold wrongC at h
  split at h
  · cases h
  · split at h
    · cases h
    · rename_i h1 h2
      unfold kindBad at h1
      unfold argBad at h2
      omega
theorem set_memI {l : List Int} {i : Nat} {v w : Int} (h : w ∈ l.set i v) : w = v ∨ w ∈ l := by
  rcases List.mem_or_eq_of_mem_set h with h | h
  · exact .inr h
  · exact .inl h
theorem CpB.chg {n : Nat} {k : Int} {s : List Cp} {c : Cp} {x : Sy} (hk : 0 ≤ k) (hs : BdM n k s) (hc : CpB n k c) (hw : wrongC n x = 0) (h : (chg s c x.who.toNat x).1 = 0) : CpB n (k + 1) (Go.Proofs.Ytfpkfbffpkjgbaa.chg s c x.who.toNat x).2 := by
  obtain ⟨w1, w2, w3, w4, w5, w6⟩ := wrong_facts hw
  have hc' := hc.mono (show k ≤ k + 1 by omega)
  unfold Go.Proofs.Ytfpkfbffpkjgbaa.chg at h ⊢
  split at h
  · rename_i e1
    rw [if_pos e1]
    split at h
    · rename_i e2
      rw [if_pos e2]
      obtain ⟨q1, q2, q3⟩ := szC_ok h
      rw [q1]
      refine ⟨by rw [List.length_set]; exact hc.cn, fun v hv => ?_, hc'.la, hc'.al, hc'.gl, hc'.ar, hc'.gr, hc'.au, hc'.gu⟩
      rcases set_memI hv with e | hv
      · subst e
        have := w4 e1
        have hi : x.who.toNat < c.cn.length := by rw [hc.cn]; omega
        have := hc.cv (c.cn.getD x.who.toNat 0) (by rw [List.getD_eq_getElem?_getD, List.getElem?_eq_getElem hi]; exact List.getElem_mem hi)
        omega
      · exact hc.cv v hv
    · cases h
  · rename_i e1
    rw [if_neg e1]
    split at h
    · rename_i e2
      rw [if_pos e2]
      split at h
      · cases h
      · rename_i e3
        rw [if_neg e3]
        obtain ⟨q1, q2, q3⟩ := szC_ok h
        rw [q1]
        have := w5 e2
        have := hc.la
        exact ⟨hc.cn, hc.cv, by dsimp only; omega, hc'.al, hc'.gl, hc'.ar, hc'.gr, hc'.au, hc'.gu⟩
    · rename_i e2
      rw [if_neg e2]
      split at h
      · rename_i e3
        rw [if_pos e3]
        obtain ⟨q1, q2, q3⟩ := szC_ok h
        rw [q1]
        have hx := w6 (.inl e3)
        have hn := nxt_bd (l := c.ad) (who := x.who) (N := k) (fun d hd => (hc.ar d hd).2.2.2.2.2) hk
        refine ⟨hc.cn, hc.cv, hc.la, q2, hc.gl, uni_all hc'.ar fun d hd => ?_, hc'.gr, uni_up, hc.gu⟩
        rw [List.mem_singleton] at hd; subst hd
        unfold DtB; dsimp only; omega
      · rename_i e3
        rw [if_neg e3]
        split at h
        · rename_i e4
          rw [if_pos e4]
          obtain ⟨q1, q2, q3⟩ := szC_ok h
          rw [q1]
          exact ⟨hc.cn, hc.cv, hc.la, hc.al, q3, hc'.ar, uni_all hc'.gr fun d hd => hc'.ar d (List.mem_filter.1 hd).1, hc.au, uni_up⟩
        · rename_i e4
          rw [if_neg e4]
          have := w3 (by omega)
          have hj : x.frm.toNat < s.length := by rw [hs.len]; omega
          have hm : s.getD x.frm.toNat cp0 ∈ s := by rw [List.getD_eq_getElem?_getD, List.getElem?_eq_getElem hj]; exact List.getElem_mem hj
          exact (hc.merge (hs.all _ hm) h).mono (by omega)
theorem BdM.mono {n : Nat} {k k' : Int} {s : List Cp} (h : BdM n k s) (hk : k ≤ k') : BdM n k' s := ⟨h.len, fun c hc => (h.all c hc).mono hk⟩
theorem BdM.step {n : Nat} {k : Int} {s : List Cp} (h : BdM n k s) (hk : 0 ≤ k) (x : Sy) : BdM n (k + 1) (stepM n s x).2 := by
  unfold stepM
  split
  · rename_i hw
    split
    · exact h.mono (by omega)
    · rename_i c hc
      split
      · rename_i h0
        refine ⟨by rw [List.length_set]; exact h.len, fun c' hc' => ?_⟩
        rcases List.mem_or_eq_of_mem_set hc' with hc' | rfl
        · exact (h.all _ hc').mono (by omega)
        · exact (h.all c (List.mem_of_getElem? hc)).chg hk h hw h0
      · exact h.mono (by omega)
  · exact h.mono (by omega)
theorem BdM.start {n : Nat} (hn : 1 ≤ n) : BdM n 0 (ms0 n) := ⟨by unfold ms0; simp, fun c hc => by
  unfold ms0 at hc
  have := (List.mem_replicate.1 hc).2
  subst this
  exact ⟨by simp, fun v hv => (by have := (List.mem_replicate.1 hv).2; omega), (by dsimp only; omega), by simp, by simp, fun d hd => (by cases hd), fun d hd => (by cases hd), List.Pairwise.nil, List.Pairwise.nil⟩⟩
theorem BdM.run {n : Nat} : ∀ (l : List Sy) {k : Int} {s : List Cp}, BdM n k s → 0 ≤ k → BdM n (k + l.length) (stM n s l)
  | [], k, s, h, _ => by simpa [stM] using h
  | x :: l, k, s, h, hk => by
    have := BdM.run l (h.step hk x) (by omega)
    simp only [stM, List.length_cons]
    exact this.mono (by omega)
/-! stamps -/
theorem sp_pos {a b : Sp} : 0 < spC a b ↔ b.n < a.n ∨ (a.n = b.n ∧ b.who < a.who) := by
  unfold spC orL orL orL cmpI
  (repeat' split) <;> omega
theorem sp_zero {a b : Sp} : spC a b = 0 ↔ a.n = b.n ∧ a.who = b.who := by
  unfold spC orL orL orL cmpI
  (repeat' split) <;> omega
theorem mergeC_zero {a b : Cp} (h : (mergeC a b).1 = 0) : (mergeC a b).2 = mrg a b := by
  unfold mergeC at h ⊢
  split at h
  · cases h
  · split at h
    · cases h
    · rename_i h1 h2; rw [if_neg h1, if_neg h2]
/-! in memory -/
structure Sv where
  a : Option Addr
  n : Nat
  c : Nat
structure Cm where
  p : Sv
  q : Sv
  r : Sv
  c : Cp
abbrev FC (m : Cm) : List Value := [.slice m.p.a m.p.n m.p.c, .int .i64 m.c.la.n, .int .i64 m.c.la.who, .int .i64 m.c.la.val, .slice m.q.a m.q.n m.q.c, .slice m.r.a m.r.n m.r.c]
theorem FC_len (c : Cm) : (FC c).length = 6 := rfl
theorem FC_one (p : Cm) (u : Value) (h : u ∈ FC p) : u.oneCell' = true := by simp [FC] at h; rcases h with rfl | rfl | rfl | rfl | rfl | rfl <;> rfl
theorem Try.eC : Elem Try.prog 35 27 (.agg #[.slice none 0 0, .int .i64 0, .int .i64 0, .int .i64 0, .slice none 0 0, .slice none 0 0]) 6 96 := ⟨Try.underlying35, by kernel_rfl, rfl, by decide⟩
def pH (m : Cm) : Hp := Hp.own FI 1 (.slice m.p.a m.p.n m.p.c) m.c.cn
def qH (m : Cm) : Hp := Hp.own FD 3 (.slice m.q.a m.q.n m.q.c) m.c.ad
def rH (m : Cm) : Hp := Hp.own FD 3 (.slice m.r.a m.r.n m.r.c) m.c.go
def rowsH (m : Cm) : Hp := pH m * (qH m * rH m)
/-- a copy's rows, to be read -/
structure RowsS (w : World) (m : Cm) : Prop where
  p : SlS FI 1 w (.slice m.p.a m.p.n m.p.c) m.c.cn
  q : SlS FD 3 w (.slice m.q.a m.q.n m.q.c) m.c.ad
  r : SlS FD 3 w (.slice m.r.a m.r.n m.r.c) m.c.go
theorem RowsS.below {w w' : World} {m : Cm} (h : RowsS w m) (hb : Below w.heap.size w w') : RowsS w' m := ⟨h.p.below hb, h.q.below hb, h.r.below hb⟩
theorem rowsH.sls {W w : World} {m : Cm} {R : Hp} (H : Sat W w (rowsH m * R)) (h1 : m.c.cn.length ≤ 1000) (h2 : m.c.ad.length ≤ 1000) (h3 : m.c.go.length ≤ 1000) : RowsS w m :=
  ⟨(H.cast (show _ = pH m * ((qH m * rH m) * R) by unfold rowsH; ac_rfl)).sls (by omega), (H.cast (show _ = qH m * ((pH m * rH m) * R) by unfold rowsH; ac_rfl)).sls (by omega), (H.cast (show _ = rH m * ((pH m * qH m) * R) by unfold rowsH; ac_rfl)).sls (by omega)⟩
theorem big_rows {W w : World} {ms : List Cm} {R : Hp} (H : Sat W w (Hp.big rowsH ms * R)) (h : ∀ m ∈ ms, m.c.cn.length ≤ 1000 ∧ m.c.ad.length ≤ 1000 ∧ m.c.go.length ≤ 1000) : ∀ m ∈ ms, RowsS w m := fun m hm => by
  obtain ⟨i, hi⟩ := List.getElem?_of_mem hm
  obtain ⟨R1, h1, _⟩ := Hp.big_focus rowsH ms i m hi
  obtain ⟨a, b, c⟩ := h m hm
  exact rowsH.sls (H.cast (show _ = rowsH m * (R1 * R) by rw [h1]; ac_rfl)) a b c
section
variable {W w : World} {m : Cm} {R : Hp} {p q r : Sv} {cn : List Int} {la : Sp} {ad go : List Dt}
theorem aux1 (a b c d R : Hp) : (a * (b * c)) * ((d * 1) * R) = a * ((d * (b * c)) * R) := by rw [Hp.mul_one]; ac_rfl
theorem aux2 (a b c d e R : Hp) : (a * (b * c)) * ((d * (e * 1)) * R) = (a * b) * ((d * (e * c)) * R) := by rw [Hp.mul_one]; ac_rfl
theorem aux3 (a b c d e R : Hp) : (a * (b * c)) * ((d * (e * 1)) * R) = (a * c) * ((d * (b * e)) * R) := by rw [Hp.mul_one]; ac_rfl
theorem ent_p (H : Sat W w (rowsH m * (sep [Hp.own FI 1 (.slice p.a p.n p.c) cn] * R))) : Sat W w (rowsH ⟨p, m.q, m.r, ⟨cn, la, m.c.ad, m.c.go⟩⟩ * R) :=
  (H.cast (aux1 _ _ _ _ _)).drop
theorem ent_pq (H : Sat W w (rowsH m * (sep [Hp.own FI 1 (.slice p.a p.n p.c) cn, Hp.own FD 3 (.slice q.a q.n q.c) ad] * R))) : Sat W w (rowsH ⟨p, q, m.r, ⟨cn, la, ad, m.c.go⟩⟩ * R) :=
  (H.cast (aux2 _ _ _ _ _ _)).drop
theorem ent_pr (H : Sat W w (rowsH m * (sep [Hp.own FI 1 (.slice p.a p.n p.c) cn, Hp.own FD 3 (.slice r.a r.n r.c) go] * R))) : Sat W w (rowsH ⟨p, m.q, r, ⟨cn, la, m.c.ad, go⟩⟩ * R) :=
  (H.cast (aux3 _ _ _ _ _ _)).drop
theorem ent_pqr (H : Sat W w (rowsH m * (sep [Hp.own FI 1 (.slice p.a p.n p.c) cn, Hp.own FD 3 (.slice q.a q.n q.c) ad, Hp.own FD 3 (.slice r.a r.n r.c) go] * R))) : Sat W w (rowsH ⟨p, q, r, ⟨cn, la, ad, go⟩⟩ * R) :=
  (H.cast (show _ = rowsH m * (rowsH ⟨p, q, r, ⟨cn, la, ad, go⟩⟩ * R) by show _ * ((_ * (_ * (_ * 1))) * R) = _; rw [Hp.mul_one]; rfl)).drop
end
end Go.Proofs.Ytfpkfbffpkjgbaa
