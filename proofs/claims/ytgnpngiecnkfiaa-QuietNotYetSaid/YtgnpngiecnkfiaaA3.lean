/- A step of the machine. The model, and the walk. No condition. -/
import Derived.Test.YtgnpngiecnkfiaaA2
namespace Go.Proofs.Ytgnpngiecnkfiaa
open Go.RowKit
set_option linter.unusedVariables false
set_option linter.unusedSimpArgs false
set_option maxRecDepth 100000

structure QS where
  ps : List Pr
  ca : Cn
  an : Cn
  dn : Bool
def doesQ (s : QS) (k : Int) (i j : Sm) : Int × QS := match s.ps[i.val]? with
  | none => (0, s)
  | some x =>
    if k = 1 then if x.works then (0, { s with ps := s.ps.set i.val ⟨x.works, x.bound, x.to, x.owes + 1⟩, ca := inc s.ca (i, j) }) else (6, s)
    else if k = 3 then if x.works then (0, { s with ps := s.ps.set i.val ⟨false, x.bound, x.to, x.owes⟩ }) else (6, s)
    else if k = 2 then
      if cnt s.ca (j, i) = 0 then (5, s)
      else if x.bound then (0, { s with ps := s.ps.set i.val ⟨true, x.bound, x.to, x.owes⟩, ca := dec s.ca (j, i), an := inc s.an (i, j) })
      else (0, { s with ps := s.ps.set i.val ⟨true, true, some j, x.owes⟩, ca := dec s.ca (j, i) })
    else if cnt s.an (j, i) = 0 then (5, s)
    else (0, { s with ps := s.ps.set i.val ⟨x.works, x.bound, x.to, x.owes - 1⟩, an := dec s.an (j, i) })
def settleQ (s : QS) (i : Sm) : QS := match s.ps[i.val]? with
  | none => s
  | some x =>
    if x.bound = false ∨ x.works = true ∨ 0 < x.owes then s
    else match x.to with
      | none => { s with ps := s.ps.set i.val ⟨x.works, false, x.to, x.owes⟩, dn := true }
      | some k => { s with ps := s.ps.set i.val ⟨x.works, false, x.to, x.owes⟩, an := inc s.an (i, k) }
structure BdQ (m : Nat) (s : QS) : Prop where
  c : s.ca.length ≤ m
  a : s.an.length ≤ m
  cc : ∀ k, cnt s.ca k ≤ m
  aa : ∀ k, cnt s.an k ≤ m
  o : ∀ p ∈ s.ps, -(m : Int) ≤ p.owes ∧ p.owes ≤ m
theorem inc_len {ms : Cn} {k : Sm × Sm} {m : Nat} (h : ms.length ≤ m) : (inc ms k).length ≤ m + 1 := by unfold inc; rw [putM_length]; split <;> omega
theorem dec_len {ms : Cn} {k : Sm × Sm} {m : Nat} (h : ms.length ≤ m) : (dec ms k).length ≤ m + 1 := by unfold dec; rw [putM_length]; split <;> omega
theorem cnt_put (ms : Cn) (k q : Sm × Sm) (x : Nat) : cnt (putM ms k x) q = if k = q then x else cnt ms q := by
  unfold cnt; rw [getM_put]; split <;> rfl
theorem inc_cnt {ms : Cn} {k : Sm × Sm} {m : Nat} (h : ∀ q, cnt ms q ≤ m) (q : Sm × Sm) : cnt (inc ms k) q ≤ m + 1 := by
  unfold inc; rw [cnt_put]; have := h q; have := h k; split <;> omega
theorem dec_cnt {ms : Cn} {k : Sm × Sm} {m : Nat} (h : ∀ q, cnt ms q ≤ m) (q : Sm × Sm) : cnt (dec ms k) q ≤ m + 1 := by
  unfold dec; rw [cnt_put]; have := h q; have := h k; split <;> omega
theorem BdQ.mono {m m' : Nat} {s : QS} (h : BdQ m s) (hm : m ≤ m') : BdQ m' s :=
  ⟨Nat.le_trans h.c hm, Nat.le_trans h.a hm, fun k => Nat.le_trans (h.cc k) hm, fun k => Nat.le_trans (h.aa k) hm, fun p hp => by have := h.o p hp; omega⟩
theorem owes_set {ps : List Pr} {m : Nat} (h : ∀ p ∈ ps, -(m : Int) ≤ p.owes ∧ p.owes ≤ m) (i : Nat) {y : Pr} (hy : -((m + 1 : Nat) : Int) ≤ y.owes ∧ y.owes ≤ ((m + 1 : Nat) : Int)) : ∀ p ∈ ps.set i y, -((m + 1 : Nat) : Int) ≤ p.owes ∧ p.owes ≤ ((m + 1 : Nat) : Int) := fun p hp => by
  rcases List.mem_or_eq_of_mem_set hp with hp | rfl
  · have := h p hp; omega
  · exact hy
theorem BdQ.does {m : Nat} {s : QS} (h : BdQ m s) (k : Int) (i j : Sm) : BdQ (m + 1) (doesQ s k i j).2 := by
  unfold doesQ
  split
  · exact h.mono (by omega)
  · rename_i x hx
    have hox := h.o x (List.mem_of_getElem? hx)
    have c1 := Nat.le_trans h.c (Nat.le_succ m)
    have a1 := Nat.le_trans h.a (Nat.le_succ m)
    have cc1 := fun q => Nat.le_trans (h.cc q) (Nat.le_succ m)
    have aa1 := fun q => Nat.le_trans (h.aa q) (Nat.le_succ m)
    repeat' split
    all_goals first
      | exact h.mono (by omega)
      | exact ⟨inc_len h.c, a1, inc_cnt h.cc, aa1, owes_set h.o _ (by dsimp only; omega)⟩
      | exact ⟨c1, a1, cc1, aa1, owes_set h.o _ (by dsimp only; omega)⟩
      | exact ⟨dec_len h.c, inc_len h.a, dec_cnt h.cc, inc_cnt h.aa, owes_set h.o _ (by dsimp only; omega)⟩
      | exact ⟨dec_len h.c, a1, dec_cnt h.cc, aa1, owes_set h.o _ (by dsimp only; omega)⟩
      | exact ⟨c1, dec_len h.a, cc1, dec_cnt h.aa, owes_set h.o _ (by dsimp only; omega)⟩
theorem BdQ.settle {m : Nat} {s : QS} (h : BdQ m s) (i : Sm) : BdQ (m + 1) (settleQ s i) := by
  unfold settleQ
  split
  · exact h.mono (by omega)
  · rename_i x hx
    have hox := h.o x (List.mem_of_getElem? hx)
    have c1 := Nat.le_trans h.c (Nat.le_succ m)
    have a1 := Nat.le_trans h.a (Nat.le_succ m)
    have cc1 := fun q => Nat.le_trans (h.cc q) (Nat.le_succ m)
    have aa1 := fun q => Nat.le_trans (h.aa q) (Nat.le_succ m)
    repeat' split
    all_goals first
      | exact h.mono (by omega)
      | exact ⟨c1, a1, cc1, aa1, owes_set h.o _ (by dsimp only; omega)⟩
      | exact ⟨c1, inc_len h.a, cc1, inc_cnt h.aa, owes_set h.o _ (by dsimp only; omega)⟩
theorem BdQ.rooms {s : QS} {m : Nat} (h : BdQ m s) (hm : m ≤ 1000) {i : Nat} {x : Pr} (hx : s.ps[i]? = some x) : Rooms s.ca s.an x := by
  have := h.o x (List.mem_of_getElem? hx)
  exact ⟨Nat.le_trans h.c hm, Nat.le_trans h.a hm, fun k => Nat.le_trans (h.cc k) hm, fun k => Nat.le_trans (h.aa k) hm, by omega, by omega⟩
theorem doesQ_len (s : QS) (k : Int) (i j : Sm) : (doesQ s k i j).2.ps.length = s.ps.length := by
  unfold doesQ; split
  · rfl
  · repeat' split
    all_goals simp
theorem settleQ_len (s : QS) (i : Sm) : (settleQ s i).ps.length = s.ps.length := by
  unfold settleQ; split
  · rfl
  · repeat' split
    all_goals simp
/-- the machine, as a part of memory -/
def qH (S : Nat) (s : QS) : Hp := Hp.ex fun q : Value × Nat × Nat => qAt S q.1 q.2.1 q.2.2 s.ps s.ca s.an s.dn 1
theorem qH.open_ {W w : World} {S : Nat} {s : QS} {R : Hp} (H : Sat W w (qH S s * R)) : ∃ pv mc ma, Sat W w (qAt S pv mc ma s.ps s.ca s.an s.dn R) := by
  obtain ⟨⟨pv, mc, ma⟩, H⟩ := H.ex
  exact ⟨pv, mc, ma, H.cast (by unfold qAt; rw [Hp.mul_one]; ac_rfl)⟩
theorem qH.shut {S : Nat} {pv : Value} {mc ma : Nat} {s : QS} {W w : World} {R : Hp} (H : Sat W w (qAt S pv mc ma s.ps s.ca s.an s.dn R)) : Sat W w (qH S s * R) :=
  Sat.exI (p := fun q : Value × Nat × Nat => qAt S q.1 q.2.1 q.2.2 s.ps s.ca s.an s.dn 1) (pv, mc, ma) (H.cast (by unfold qAt; rw [Hp.mul_one]; ac_rfl))

theorem does_any {W w : World} {S : Nat} {pv : Value} {mc ma : Nat} {s : QS} {R : Hp} {i j : Sm} {x : Pr} {k o : Int} {m : Nat} (hx : s.ps[i.val]? = some x) (hb : BdQ m s) (hm : m ≤ 1000) (hk : k = 1 ∨ k = 2 ∨ k = 3 ∨ k = 4) (ho : k = 3 ∨ o = j.val) (H : Sat W w (qAt S pv mc ma s.ps s.ca s.an s.dn R)) :
    Calls Try.prog 11 #[ptr S 0, .agg #[.int .i64 k, .int .i64 i.val, .int .i64 o]] w (Ret W fun v l => v = .int .i64 (doesQ s k i j).1 ∧ sep l = qAt S pv mc ma (doesQ s k i j).2.ps (doesQ s k i j).2.ca (doesQ s k i j).2.an (doesQ s k i j).2.dn R) := by
  have rm := hb.rooms hm hx
  rcases hk with rfl | rfl | rfl | rfl
  · obtain rfl : o = j.val := by rcases ho with h | h; (cases h); exact h
    by_cases hw : x.works = true
    · have e : doesQ s 1 i j = (0, { s with ps := s.ps.set i.val ⟨x.works, x.bound, x.to, x.owes + 1⟩, ca := inc s.ca (i, j) }) := by unfold doesQ; rw [hx]; simp [hw]
      rw [e]; exact send_ok hx rm hw H
    · have hw' : x.works = false := by simpa using hw
      have e : doesQ s 1 i j = (6, s) := by unfold doesQ; rw [hx]; simp [hw']
      rw [e]; exact send_hold hx rm hw' H
  · obtain rfl : o = j.val := by rcases ho with h | h; (cases h); exact h
    by_cases hc : cnt s.ca (j, i) = 0
    · have e : doesQ s 2 i j = (5, s) := by unfold doesQ; rw [hx]; simp [hc]
      rw [e]; exact take_none hx rm hc H
    · by_cases hw : x.bound = true
      · have e : doesQ s 2 i j = (0, { s with ps := s.ps.set i.val ⟨true, x.bound, x.to, x.owes⟩, ca := dec s.ca (j, i), an := inc s.an (i, j) }) := by unfold doesQ; rw [hx]; simp [hc, hw]
        rw [e]; exact take_bound hx rm hc hw H
      · have hw' : x.bound = false := by simpa using hw
        have e : doesQ s 2 i j = (0, { s with ps := s.ps.set i.val ⟨true, true, some j, x.owes⟩, ca := dec s.ca (j, i) }) := by unfold doesQ; rw [hx]; simp [hc, hw']
        rw [e]
        have := take_free hx rm hc hw' H
        rw [List.set_set, List.set_set] at this
        exact this
  · by_cases hw : x.works = true
    · have e : doesQ s 3 i j = (0, { s with ps := s.ps.set i.val ⟨false, x.bound, x.to, x.owes⟩ }) := by unfold doesQ; rw [hx]; simp [hw]
      rw [e]; exact rest_ok hx rm hw H
    · have hw' : x.works = false := by simpa using hw
      have e : doesQ s 3 i j = (6, s) := by unfold doesQ; rw [hx]; simp [hw']
      rw [e]; exact rest_hold hx rm hw' H
  · obtain rfl : o = j.val := by rcases ho with h | h; (cases h); exact h
    by_cases hc : cnt s.an (j, i) = 0
    · have e : doesQ s 4 i j = (5, s) := by unfold doesQ; rw [hx]; simp [hc]
      rw [e]; exact back_none hx rm hc H
    · have e : doesQ s 4 i j = (0, { s with ps := s.ps.set i.val ⟨x.works, x.bound, x.to, x.owes - 1⟩, an := dec s.an (j, i) }) := by unfold doesQ; rw [hx]; simp [hc]
      rw [e]; exact back_ok hx rm hc H
theorem settle_any {W w : World} {S : Nat} {pv : Value} {mc ma : Nat} {s : QS} {R : Hp} {i : Sm} {x : Pr} {m : Nat} (hx : s.ps[i.val]? = some x) (hb : BdQ m s) (hm : m ≤ 1000) (H : Sat W w (qAt S pv mc ma s.ps s.ca s.an s.dn R)) :
    Calls Try.prog 12 #[ptr S 0, .int .i64 i.val] w (Ret W fun v l => v = .tuple #[] ∧ sep l = qAt S pv mc ma (settleQ s i).ps (settleQ s i).ca (settleQ s i).an (settleQ s i).dn R) := by
  have rm := hb.rooms hm hx
  by_cases h1 : x.bound = false
  · have e : settleQ s i = s := by unfold settleQ; rw [hx]; simp [h1]
    rw [e]; exact settle_a hx rm h1 H
  · have h1' : x.bound = true := by simpa using h1
    by_cases h2 : x.works = true
    · have e : settleQ s i = s := by unfold settleQ; rw [hx]; simp [h2]
      rw [e]; exact settle_b hx rm h1' h2 H
    · have h2' : x.works = false := by simpa using h2
      by_cases h3 : 0 < x.owes
      · have e : settleQ s i = s := by unfold settleQ; rw [hx]; simp [h3]
        rw [e]; exact settle_c hx rm h1' h2' h3 H
      · have hn : ¬ (x.bound = false ∨ x.works = true ∨ 0 < x.owes) := by simp [h1', h2', h3]
        cases h4 : x.to with
        | none =>
          have e : settleQ s i = { s with ps := s.ps.set i.val ⟨x.works, false, x.to, x.owes⟩, dn := true } := by unfold settleQ; rw [hx]; simp only [if_neg hn, h4]
          rw [e]; exact settle_d hx rm h1' h2' (by omega) h4 H
        | some k =>
          have e : settleQ s i = { s with ps := s.ps.set i.val ⟨x.works, false, x.to, x.owes⟩, an := inc s.an (i, k) } := by unfold settleQ; rw [hx]; simp only [if_neg hn, h4]
          rw [e]; exact settle_e hx rm h1' h2' (by omega) h4 H
def isB (n : Nat) (k : Int) : Bool := decide (0 ≤ k ∧ k < (n : Int))
theorem is_any {W : World} {b S : Nat} {a : Option Addr} {n c : Nat} (k : Int) (hb : b < W.heap.size) (hc : W.cell? ⟨b, 0, none⟩ = some (ptr S 0)) (hS : S < W.heap.size) (hcS : W.cell? ⟨S, 0, none⟩ = some (.slice a n c)) :
    Calls Try.prog 10 #[.int .i64 k, ptr b 0] W fun e w' => e = .returned (.bool (isB n k)) ∧ Below W.heap.size W w' := by
  refine calls_pure (Gx.enter (l := []) Try.func10 rfl Try.ntmps10 rfl (Sat.start W) ?_)
  refine Gx.know (m' := [(0, .int .i64 k), (1, ptr b 0)]) (.cons rfl (.cons rfl .nil)) ?_
  refine Gx.seq ?_
  refine Gx.region ?_
  refine Gx.val rfl rfl rfl (val_assign rfl rfl) ?_
  refine Gx.done ?_
  refine Gx.thenN ?_
  refine Gx.seq ?_
  refine Gx.region ?_
  refine Gx.val rfl rfl rfl (val_move rfl rfl) ?_
  refine Gx.val rfl rfl rfl (val_geq rfl rfl rfl) ?_
  refine Gx.val rfl rfl rfl (val_move rfl rfl) ?_
  refine Gx.cases (t := 6) rfl (fun h1 => ?_) (fun h1 => ?_)
  · refine Gx.valg rfl rfl rfl rfl rfl (val_move rfl rfl) ?_
    refine Gx.valg rfl rfl rfl rfl rfl (val_load rfl Try.ty35 rfl rfl (cell_old hb hc)) ?_
    refine Gx.valg rfl rfl rfl rfl rfl (val_nilCheck rfl rfl) ?_
    refine Gx.valg rfl rfl rfl rfl rfl (Val.cast (val_fieldAddr rfl Try.underlying39 rfl Try.ty36 rfl rfl) (v' := ptr S 0) rfl) ?_
    refine Gx.valg rfl rfl rfl rfl rfl (val_load rfl Try.ty36 rfl rfl (cell_old hS hcS)) ?_
    refine Gx.valg rfl rfl rfl rfl rfl (val_len rfl Try.underlying36 rfl len_lit) ?_
    refine Gx.valg rfl rfl rfl rfl rfl (val_lss rfl rfl rfl) ?_
    refine Gx.val rfl rfl rfl (val_pickT rfl rfl rfl) ?_
    refine Gx.val rfl rfl rfl (val_assign rfl rfl) ?_
    refine Gx.done ?_
    refine Gx.thenN ?_
    refine Gx.ret ?_
    refine Gx.ret1 Try.results10 rfl ?_
    exact congrArg Value.bool (by unfold isB; simp; try omega)
  · refine Gx.skipg rfl rfl rfl rfl rfl rfl ?_
    refine Gx.skipg rfl rfl rfl rfl rfl rfl ?_
    refine Gx.skipg rfl rfl rfl rfl rfl rfl ?_
    refine Gx.skipg rfl rfl rfl rfl rfl rfl ?_
    refine Gx.skipg rfl rfl rfl rfl rfl rfl ?_
    refine Gx.skipg rfl rfl rfl rfl rfl rfl ?_
    refine Gx.skipg rfl rfl rfl rfl rfl rfl ?_
    refine Gx.val rfl rfl rfl (val_pickF rfl rfl rfl) ?_
    refine Gx.val rfl rfl rfl (val_assign rfl rfl) ?_
    refine Gx.done ?_
    refine Gx.thenN ?_
    refine Gx.ret ?_
    refine Gx.ret1 Try.results10 rfl ?_
    exact congrArg Value.bool (by unfold isB; simp; try omega)

end Go.Proofs.Ytgnpngiecnkfiaa
