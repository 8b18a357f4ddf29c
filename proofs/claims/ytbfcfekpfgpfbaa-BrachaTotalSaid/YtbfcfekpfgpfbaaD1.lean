/- Messages and processes, in plain words. No condition. -/
import Derived.Test.YtbfcfekpfgpfbaaT
import Derived.Test.YtbfcfekpfgpfbaaX16
namespace Go.Proofs.Ytbfcfekpfgpfbaa
open Go.RowKit
set_option linter.unusedVariables false
set_option linter.unusedSimpArgs false
set_option maxRecDepth 100000

structure Mg where
  frm : Nat
  to : Nat
  what : Nat
  n : Int
  come : Bool
abbrev Hl := List ((Sm × Sm) × Int)
structure Pr where
  hl : Hl
  ec : Bool
  rd : Bool
  has : Bool
  val : Int
structure Cf where
  n : Nat
  f : Nat
  L : Nat
  snd : Nat
structure BS where
  all : List Mg
  ps : List Pr
  st : Bool
structure Mv where
  kind : Int
  frm : Int
  to : Int
  what : Int
  msg : Int
  n : Int
def smN (i : Nat) : Sm := ⟨i % 2048, Nat.mod_lt _ (by decide)⟩
theorem smN_val {i : Nat} (h : i < 2048) : (smN i).val = i := Nat.mod_eq_of_lt h
def liesB (L i : Nat) : Bool := L.testBit i
def manyB (hl : Hl) (what : Nat) (n : Int) : Nat := (hl.filter fun e => decide (e.1.2.val = what ∧ e.2 = n)).length
def newM (i what : Nat) (n : Int) (k : Nat) : List Mg := (List.range k).map fun j => ⟨i, j, what, n, false⟩
def sendB (s : BS) (i what : Nat) (n : Int) : BS := ⟨s.all ++ newM i what n s.ps.length, s.ps, s.st⟩
def cameB (s : BS) (at_ : Nat) : BS := match s.all[at_]? with
  | none => s
  | some m => ⟨s.all.set at_ { m with come := true }, s.ps, s.st⟩
/-- a message that counts reaches p: its new state, and what it sends (0: nothing) -/
def gotB (c : Cf) (p : Pr) (m : Mg) : Pr × Nat :=
  if m.what = 1 then (if m.frm = c.snd ∧ p.ec = false then (⟨putM p.hl (smN m.frm, smN m.what) m.n, true, p.rd, p.has, p.val⟩, 2) else (⟨putM p.hl (smN m.frm, smN m.what) m.n, p.ec, p.rd, p.has, p.val⟩, 0))
  else if m.what = 3 then
    (if c.f + 1 ≤ manyB (putM p.hl (smN m.frm, smN m.what) m.n) m.what m.n ∧ p.rd = false then
      ((if 2 * c.f + 1 ≤ manyB (putM p.hl (smN m.frm, smN m.what) m.n) m.what m.n ∧ p.has = false then ⟨putM p.hl (smN m.frm, smN m.what) m.n, p.ec, true, true, m.n⟩ else ⟨putM p.hl (smN m.frm, smN m.what) m.n, p.ec, true, p.has, p.val⟩), 3)
    else ((if 2 * c.f + 1 ≤ manyB (putM p.hl (smN m.frm, smN m.what) m.n) m.what m.n ∧ p.has = false then ⟨putM p.hl (smN m.frm, smN m.what) m.n, p.ec, p.rd, true, m.n⟩ else ⟨putM p.hl (smN m.frm, smN m.what) m.n, p.ec, p.rd, p.has, p.val⟩), 0))
  else if c.n + c.f < 2 * manyB (putM p.hl (smN m.frm, smN m.what) m.n) m.what m.n ∧ p.rd = false then (⟨putM p.hl (smN m.frm, smN m.what) m.n, p.ec, true, p.has, p.val⟩, 3)
  else (⟨putM p.hl (smN m.frm, smN m.what) m.n, p.ec, p.rd, p.has, p.val⟩, 0)
def comeB (c : Cf) (s : BS) (at_ : Nat) : BS := match s.all[at_]? with
  | none => s
  | some m => match s.ps[m.to]? with
    | none => cameB s at_
    | some p =>
      if getM p.hl (smN m.frm, smN m.what) ≠ none ∨ liesB c.L m.to = true then cameB s at_
      else if (gotB c p m).2 = 0 then ⟨(cameB s at_).all, s.ps.set m.to (gotB c p m).1, s.st⟩
      else sendB ⟨(cameB s at_).all, s.ps.set m.to (gotB c p m).1, s.st⟩ m.to (gotB c p m).2 m.n
def allB (c : Cf) : Nat → BS → Nat → BS
  | 0, s, _ => s
  | k + 1, s, at_ => match s.all[at_]? with
    | none => s
    | some m => allB c k (if m.come = true then s else comeB c s at_) (at_ + 1)
def isN (n : Nat) (x : Int) : Bool := decide (0 ≤ x ∧ x < n)
def stepB (c : Cf) (s : BS) (x : Mv) : Int × BS :=
  if x.kind = 1 then (if s.st = true ∨ liesB c.L c.snd = true then (6, s) else (0, sendB ⟨s.all, s.ps, true⟩ c.snd 1 x.n))
  else if x.kind = 2 then
    (if isN c.n x.frm = false ∨ liesB c.L x.frm.toNat = false ∨ isN c.n x.to = false then (2, s)
    else if x.what < 1 ∨ 3 < x.what then (4, s)
    else (0, ⟨s.all ++ [⟨x.frm.toNat, x.to.toNat, x.what.toNat, x.n, false⟩], s.ps, s.st⟩))
  else if x.kind = 3 then
    (if isN s.all.length x.msg = false then (2, s)
    else match s.all[x.msg.toNat]? with
      | none => (2, s)
      | some m => if m.come = true then (6, s) else (0, comeB c s x.msg.toNat))
  else if x.kind = 4 then (0, allB c 2000 s 0)
  else (4, s)
def stB (c : Cf) : BS → List Mv → BS
  | s, [] => s
  | s, x :: l => stB c (stepB c s x).2 l
def codesB (c : Cf) : BS → List Mv → List Int
  | s, [] => []
  | s, x :: l => (stepB c s x).1 :: codesB c (stepB c s x).2 l
def bs0 (n : Nat) : BS := ⟨[], List.replicate n ⟨[], false, false, false, 0⟩, false⟩
theorem stB_app (c : Cf) : ∀ (l l' : List Mv) (s : BS), stB c s (l ++ l') = stB c (stB c s l) l'
  | [], _, _ => rfl
  | x :: l, l', s => by simp only [List.cons_append, stB]; exact stB_app c l l' _
theorem codesB_app (c : Cf) : ∀ (l l' : List Mv) (s : BS), codesB c s (l ++ l') = codesB c s l ++ codesB c (stB c s l) l'
  | [], _, _ => rfl
  | x :: l, l', s => by simp only [List.cons_append, stB, codesB]; rw [codesB_app c l l']
theorem codesB_len (c : Cf) : ∀ (l : List Mv) (s : BS), (codesB c s l).length = l.length
  | [], _ => rfl
  | x :: l, s => by simp [codesB, codesB_len c l]
/-! in memory -/
abbrev FG (e : Mg) : List Value := [.int .i64 ((e.frm : Nat) : Int), .int .i64 ((e.to : Nat) : Int), .int .i64 ((e.what : Nat) : Int), .int .i64 e.n, .bool e.come]
theorem FG_len (c : Mg) : (FG c).length = 5 := rfl
theorem FG_one (p : Mg) (u : Value) (h : u ∈ FG p) : u.oneCell' = true := by simp [FG] at h; rcases h with rfl | rfl | rfl | rfl | rfl <;> rfl
theorem Try.eG : Elem Try.prog 39 48 (.agg #[.int .i64 0, .int .i64 0, .int .i64 0, .int .i64 0, .bool false]) 5 40 := ⟨Try.underlying39, by kernel_rfl, rfl, by decide⟩
structure Pm where
  mb : Nat
  p : Pr
abbrev FR (e : Pm) : List Value := [.map (some e.mb), .bool e.p.ec, .bool e.p.rd, .bool e.p.has, .int .i64 e.p.val]
theorem FR_len (c : Pm) : (FR c).length = 5 := rfl
theorem FR_one (p : Pm) (u : Value) (h : u ∈ FR p) : u.oneCell' = true := by simp [FR] at h; rcases h with rfl | rfl | rfl | rfl | rfl <;> rfl
theorem Try.eR : Elem Try.prog 40 45 (.agg #[.map none, .bool false, .bool false, .bool false, .int .i64 0]) 5 24 := ⟨Try.underlying40, by kernel_rfl, rfl, by decide⟩
abbrev FZ (x : Int) : List Value := [.int .i64 x]
theorem FZ_len (x : Int) : (FZ x).length = 1 := rfl
theorem FZ_one (p : Int) (u : Value) (h : u ∈ FZ p) : u.oneCell' = true := by simp [FZ] at h; subst h; rfl
theorem Try.eZ : Elem Try.prog 24 29 (.int .i64 0) 1 8 := ⟨Try.underlying24, by kernel_rfl, rfl, by decide⟩
abbrev FI (x : Int) : List Value := [.int .i64 x]
theorem FI_len (x : Int) : (FI x).length = 1 := rfl
theorem FI_one (p : Int) (u : Value) (h : u ∈ FI p) : u.oneCell' = true := by simp [FI] at h; subst h; rfl
theorem Try.eI : Elem Try.prog 26 2 (.int .i64 0) 1 8 := ⟨Try.underlying26, by kernel_rfl, rfl, by decide⟩
abbrev FB (x : Bool) : List Value := [.bool x]
theorem FB_len (x : Bool) : (FB x).length = 1 := rfl
theorem FB_one (p : Bool) (u : Value) (h : u ∈ FB p) : u.oneCell' = true := by simp [FB] at h; subst h; rfl
theorem Try.eB : Elem Try.prog 25 4 (.bool false) 1 1 := ⟨Try.underlying25, by kernel_rfl, rfl, by decide⟩
abbrev FM (c : Mv) : List Value := [.int .i64 c.kind, .int .i64 c.frm, .int .i64 c.to, .int .i64 c.what, .int .i64 c.msg, .int .i64 c.n]
theorem FM_len (c : Mv) : (FM c).length = 6 := rfl
theorem FM_one (p : Mv) (u : Value) (h : u ∈ FM p) : u.oneCell' = true := by simp [FM] at h; rcases h with rfl | rfl | rfl | rfl | rfl | rfl <;> rfl
theorem Try.eM : Elem Try.prog 23 34 (.agg #[.int .i64 0, .int .i64 0, .int .i64 0, .int .i64 0, .int .i64 0, .int .i64 0]) 6 48 := ⟨Try.underlying23, by kernel_rfl, rfl, by decide⟩
abbrev vI (x : Int) : Value := .int .i64 x
theorem Try.keyed60 : Maps.Keyed Try.prog 60 := Maps.Keyed.of_law (deep_law_laid (m := 2) (by kernel_rfl) (by decide) (of_decide_eq_true (by kernel_rfl)) (by kernel_rfl) (by kernel_rfl))
theorem Try.lits3 (d : Nat) (a : Int) (w : (Lit.int .i64 a).wf = true) : Try.prog.keyLits (d + 1) 3 [.int .i64 a] = some [.int .i64 a] := by
  unfold Program.keyLits
  rw [Try.underlying3]
  exact if_pos ⟨rfl, w⟩
theorem Try.lits60 (d : Nat) (a b : Int) (wa : (Lit.int .i64 a).wf = true) (wb : (Lit.int .i64 b).wf = true) : Try.prog.keyLits (d + 2) 60 [.int .i64 a, .int .i64 b] = some [.int .i64 a, .int .i64 b] := by
  unfold Program.keyLits
  rw [Try.underlying60]
  dsimp only
  first
  | (rw [if_pos ⟨by kernel_rfl, by kernel_rfl⟩]
     simp only [show Try.prog.cellsOf 3 = 1 from by kernel_rfl, List.mapM_cons, List.mapM_nil, List.drop_zero, List.drop_succ_cons, List.take_succ_cons, List.take_zero, Try.lits3 d a wa, Try.lits3 d b wb]
     rfl)
  | (rw [if_pos (show [Value.int .i64 a, Value.int .i64 b].length = Try.prog.cellsOf 60 from by rw [show Try.prog.cellsOf 60 = 2 from by kernel_rfl]; rfl)]
     simp [show Try.prog.cellsOf 3 = 1 from by kernel_rfl, List.range, List.range.loop, Try.lits3 d a wa, Try.lits3 d b wb])
theorem Try.key60 (p : Sm × Sm) : keyOf Try.prog 60 (pairV p) = some (pairL p) := by
  unfold keyOf
  rw [Try.underlying60]
  dsimp only
  rw [if_pos (by
    rw [show Try.prog.keyType 60 = true from by kernel_rfl]
    simp only [Value.formed, Try.underlying60, show Try.prog.cellsOf 60 = 2 from by kernel_rfl]
    rfl)]
  obtain ⟨d, hd⟩ : ∃ d, Try.prog.types.size + 1 = d + 2 := ⟨Try.prog.types.size - 1, by kernel_rfl⟩
  rw [hd, show (pairV p).cells.toList = [.int .i64 (p.1.val : Int), .int .i64 (p.2.val : Int)] from rfl, Try.lits60 d _ _ (sm_wf p.1) (sm_wf p.2)]
  rfl
theorem Try.kP : KeyT Try.prog 60 pairV pairL (fun _ => True) := pairT Try.keyed60 Try.key60
abbrev mapB (b : Nat) (ms : Hl) : Hp := Hp.map Try.prog 60 pairL vI b ms
def rowH (m : Pm) : Hp := mapB m.mb m.p.hl
abbrev recS (S : Nat) (c : Cf) (av pv : Value) (st : Bool) : Hp := Hp.rec_ S [.int .i64 ((c.n : Nat) : Int), .int .i64 ((c.f : Nat) : Int), .int .u32 ((c.L : Nat) : Int), .int .i64 ((c.snd : Nat) : Int), av, pv, .bool st]
def worldH (S : Nat) (c : Cf) (s : BS) : Hp := Hp.ex fun q : Value × Value × List Pm => Hp.pure (q.2.2.map Pm.p = s.ps) *
  (recS S c q.1 q.2.1 s.st * (Hp.own FG 5 q.1 s.all * (Hp.own FR 5 q.2.1 q.2.2 * Hp.big rowH q.2.2)))
theorem sep4R (p q r s R : Hp) : sep [p, q, r, s, R] = p * (q * (r * (s * R))) := by show p * (q * (r * (s * (R * 1)))) = _; rw [Hp.mul_one]
theorem worldH.open_ {W w : World} {S : Nat} {c : Cf} {s : BS} {R : Hp} (H : Sat W w (worldH S c s * R)) : ∃ (av pv : Value) (pms : List Pm), pms.map Pm.p = s.ps ∧ Sat W w (sep [recS S c av pv s.st, Hp.own FG 5 av s.all, Hp.own FR 5 pv pms, Hp.big rowH pms, R]) := by
  obtain ⟨⟨av, pv, pms⟩, H⟩ := H.ex
  obtain ⟨h1, H⟩ := (H.cast (Hp.mul_assoc ..)).pure
  exact ⟨av, pv, pms, h1, H.cast (by rw [sep4R]; simp only [Hp.mul_assoc])⟩
theorem worldH.shut {W w : World} {S : Nat} {c : Cf} {s : BS} {av pv : Value} {pms : List Pm} {R : Hp} (h : pms.map Pm.p = s.ps) (H : Sat W w (sep [recS S c av pv s.st, Hp.own FG 5 av s.all, Hp.own FR 5 pv pms, Hp.big rowH pms, R])) : Sat W w (sep [worldH S c s, R]) := by
  rw [sep1]
  refine Sat.exI (p := fun q : Value × Value × List Pm => Hp.pure (q.2.2.map Pm.p = s.ps) * (recS S c q.1 q.2.1 s.st * (Hp.own FG 5 q.1 s.all * (Hp.own FR 5 q.2.1 q.2.2 * Hp.big rowH q.2.2)))) (av, pv, pms) ?_
  refine (Sat.pureI h (H.cast ?_)).cast (Hp.mul_assoc ..).symm
  rw [sep4R]; simp only [Hp.mul_assoc]
end Go.Proofs.Ytbfcfekpfgpfbaa
