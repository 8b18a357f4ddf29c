/- Processes and ways, in plain words. No condition. -/
import Derived.Test.YtgfileonpoghmaaT
import Derived.Test.YtgfileonpoghmaaX14
namespace Go.Proofs.Ytgfileonpoghmaa
open Go.RowKit
set_option linter.unusedVariables false
set_option linter.unusedSimpArgs false
set_option maxRecDepth 100000

structure Pq where
  n : Nat
  how : Nat
  key : Nat
  yes : Nat
  waits : List Nat
abbrev Wy := Sm × Sm → List Nat
structure MS where
  ps : List Pq
  q : Wy
  ins : List Nat
structure Mv where
  kind : Int
  who : Int
  frm : Int
def smN (i : Nat) : Sm := ⟨i % 2048, Nat.mod_lt _ (by decide)⟩
def upW (q : Wy) (k : Sm × Sm) (l : List Nat) : Wy := fun k' => if k' = k then l else q k'
def sendW (q : Wy) (i j x : Nat) : Wy := upW q (smN i, smN j) (q (smN i, smN j) ++ [x])
def enterM (s : MS) (i : Nat) : MS := match s.ps[i]? with
  | some p => if p.how = 1 ∧ p.yes + 1 = s.ps.length then { s with ps := s.ps.set i { p with how := 2 }, ins := s.ins ++ [i] } else s
  | none => s
/-- to all up to k but i -/
def tellW (q : Wy) (i x : Nat) : Nat → Wy
  | 0 => q
  | k + 1 => if k = i then tellW q i x k else sendW (tellW q i x k) i k x
def askM (s : MS) (i : Nat) : Int × MS := match s.ps[i]? with
  | some p => if p.how = 0 then (0, enterM { s with ps := s.ps.set i ⟨p.n + 1, 1, p.n + 1, 0, p.waits⟩, q := tellW s.q i (p.n + 1) s.ps.length } i) else (6, s)
  | none => (6, s)
def mineB (key i what frm : Nat) : Bool := decide (key < what ∨ (key = what ∧ i < frm))
def takeM (s : MS) (i frm : Nat) : Int × MS := match s.q (smN frm, smN i) with
  | [] => (5, s)
  | x :: l => match s.ps[i]? with
    | none => (5, s)
    | some p =>
      if x = 0 then (0, enterM { s with q := upW s.q (smN frm, smN i) l, ps := s.ps.set i { p with yes := p.yes + 1 } } i)
      else if p.how = 2 ∨ (p.how = 1 ∧ mineB p.key i x frm = true) then (0, { s with q := upW s.q (smN frm, smN i) l, ps := s.ps.set i { p with n := max p.n x, waits := p.waits ++ [frm] } })
      else (0, { s with q := sendW (upW s.q (smN frm, smN i) l) i frm 0, ps := s.ps.set i { p with n := max p.n x } })
def yesW (q : Wy) (i : Nat) : List Nat → Wy
  | [] => q
  | j :: l => yesW (sendW q i j 0) i l
def leaveM (s : MS) (i : Nat) : Int × MS := match s.ps[i]? with
  | some p => if p.how = 2 then (0, { s with ps := s.ps.set i { p with how := 0, waits := [] }, q := yesW s.q i p.waits }) else (6, s)
  | none => (6, s)
def isN (n : Nat) (x : Int) : Bool := decide (0 ≤ x ∧ x < n)
def stepM (s : MS) (c : Mv) : Int × MS :=
  if c.kind < 1 ∨ 3 < c.kind then (4, s)
  else if isN s.ps.length c.who = false ∨ (c.kind = 2 ∧ (isN s.ps.length c.frm = false ∨ c.frm = c.who)) then (2, s)
  else if c.kind = 1 then askM s c.who.toNat
  else if c.kind = 2 then takeM s c.who.toNat c.frm.toNat
  else leaveM s c.who.toNat
def stM : MS → List Mv → MS
  | s, [] => s
  | s, c :: l => stM (stepM s c).2 l
def codesM : MS → List Mv → List Int
  | s, [] => []
  | s, c :: l => (stepM s c).1 :: codesM (stepM s c).2 l
def ms0 (n : Nat) : MS := ⟨List.replicate n ⟨0, 0, 0, 0, []⟩, fun _ => [], []⟩
theorem stM_app : ∀ (l l' : List Mv) (s : MS), stM s (l ++ l') = stM (stM s l) l'
  | [], _, _ => rfl
  | c :: l, l', s => by simp only [List.cons_append, stM]; exact stM_app l l' _
theorem codesM_app : ∀ (l l' : List Mv) (s : MS), codesM s (l ++ l') = codesM s l ++ codesM (stM s l) l'
  | [], _, _ => rfl
  | c :: l, l', s => by simp only [List.cons_append, stM, codesM]; rw [codesM_app l l']
theorem codesM_len : ∀ (l : List Mv) (s : MS), (codesM s l).length = l.length
  | [], _ => rfl
  | c :: l, s => by simp [codesM, codesM_len l]
/-! the ways in memory -/
structure Rv where
  v : Value
  xs : List Nat
abbrev FN (i : Nat) : List Value := [.int .i64 ((i : Nat) : Int)]
theorem FN_len (c : Nat) : (FN c).length = 1 := rfl
theorem FN_one (p : Nat) (u : Value) (h : u ∈ FN p) : u.oneCell' = true := by simp [FN] at h; subst h; rfl
theorem Try.eN : Elem Try.prog 24 3 (.int .i64 0) 1 8 := ⟨Try.underlying24, by kernel_rfl, rfl, by decide⟩
abbrev vW (r : Rv) : Value := r.v
abbrev Ws := List ((Sm × Sm) × Rv)
abbrev mapW (b : Nat) (ms : Ws) : Hp := Hp.map Try.prog 48 pairL vW b ms
abbrev rowH (p : (Sm × Sm) × Rv) : Hp := Hp.own FN 1 p.2.v p.2.xs
def zRv : Rv := ⟨.slice none 0 0, []⟩
def qof (ms : Ws) (k : Sm × Sm) : List Nat := ((getM ms k).map Rv.xs).getD []
theorem Try.keyed48 : Maps.Keyed Try.prog 48 := Maps.Keyed.of_law (deep_law_laid (m := 2) (by kernel_rfl) (by decide) (of_decide_eq_true (by kernel_rfl)) (by kernel_rfl) (by kernel_rfl))
theorem Try.lits3 (d : Nat) (a : Int) (w : (Lit.int .i64 a).wf = true) : Try.prog.keyLits (d + 1) 3 [.int .i64 a] = some [.int .i64 a] := by
  unfold Program.keyLits
  rw [Try.underlying3]
  exact if_pos ⟨rfl, w⟩
theorem Try.lits48 (d : Nat) (a b : Int) (wa : (Lit.int .i64 a).wf = true) (wb : (Lit.int .i64 b).wf = true) : Try.prog.keyLits (d + 2) 48 [.int .i64 a, .int .i64 b] = some [.int .i64 a, .int .i64 b] := by
  unfold Program.keyLits
  rw [Try.underlying48]
  dsimp only
  first
  | (rw [if_pos ⟨by kernel_rfl, by kernel_rfl⟩]
     simp only [show Try.prog.cellsOf 3 = 1 from by kernel_rfl, List.mapM_cons, List.mapM_nil, List.drop_zero, List.drop_succ_cons, List.take_succ_cons, List.take_zero, Try.lits3 d a wa, Try.lits3 d b wb]
     rfl)
  | (rw [if_pos (show [Value.int .i64 a, Value.int .i64 b].length = Try.prog.cellsOf 48 from by rw [show Try.prog.cellsOf 48 = 2 from by kernel_rfl]; rfl)]
     simp [show Try.prog.cellsOf 3 = 1 from by kernel_rfl, List.range, List.range.loop, Try.lits3 d a wa, Try.lits3 d b wb])
theorem Try.key48 (p : Sm × Sm) : keyOf Try.prog 48 (pairV p) = some (pairL p) := by
  unfold keyOf
  rw [Try.underlying48]
  dsimp only
  rw [if_pos (by
    rw [show Try.prog.keyType 48 = true from by kernel_rfl]
    simp only [Value.formed, Try.underlying48, show Try.prog.cellsOf 48 = 2 from by kernel_rfl]
    rfl)]
  obtain ⟨d, hd⟩ : ∃ d, Try.prog.types.size + 1 = d + 2 := ⟨Try.prog.types.size - 1, by kernel_rfl⟩
  rw [hd, show (pairV p).cells.toList = [.int .i64 (p.1.val : Int), .int .i64 (p.2.val : Int)] from rfl, Try.lits48 d _ _ (sm_wf p.1) (sm_wf p.2)]
  rfl
theorem Try.kL : KeyT Try.prog 48 pairV pairL (fun _ => True) := pairT Try.keyed48 Try.key48
theorem qof_put {ms : Ws} {k k' : Sm × Sm} {r : Rv} : qof (putM ms k r) k' = if k' = k then r.xs else qof ms k' := by
  unfold qof
  rw [getM_put]
  by_cases e : k = k'
  · subst e; rw [if_pos rfl, if_pos rfl]; rfl
  · rw [if_neg e, if_neg (fun h => e h.symm)]
end Go.Proofs.Ytgfileonpoghmaa
