/- The assembly, in plain words. No condition. -/
import Derived.Test.YtfeeociajllbhaaDoorT
import Derived.Test.YtfeeociajllbhaaDoorW2
namespace Go.Proofs.YtfeeociajllbhaaDoor.Mt
open Go.RowKit
set_option linter.unusedVariables false
set_option linter.unusedSimpArgs false
set_option maxRecDepth 100000

structure Bk where
  par : Int
  rnd : Nat
structure Mm where
  vo : Nat
  kn : Nat
abbrev Lt := List ((Sm × Sm × Sm) × Int)
abbrev Gv := List ((Sm × Sm) × Int)
structure MC where
  n : Nat
  need : Nat
  L : Nat
structure MS where
  bl : List Bk
  vt : List Nat
  ms : List Mm
  lt : Lt
  gv : Gv
structure Sy where
  kind : Int
  who : Int
  blk : Int
  rnd : Int
  hi : Int
def smN (i : Nat) : Sm := ⟨i % 2048, Nat.mod_lt _ (by decide)⟩
theorem smN_val {i : Nat} (h : i < 2048) : (smN i).val = i := Nat.mod_eq_of_lt h
def liesB (L i : Nat) : Bool := L.testBit i
/-- how many bits are set -/
def pop (x : Nat) : Nat := ((List.range 32).filter fun i => x.testBit i).length
def isN (n : Nat) (x : Int) : Bool := decide (0 ≤ x ∧ x < n)
def voteM (s : MS) (b : Nat) : Nat := (s.vt[b]?).getD 0
def rndM (s : MS) (b : Nat) : Nat := ((s.bl[b]?).map Bk.rnd).getD 0
def parM (s : MS) (b : Nat) : Nat := (((s.bl[b]?).map Bk.par).getD 0).toNat
def certM (c : MC) (s : MS) (b : Nat) : Bool := decide (b = 0 ∨ c.need ≤ pop (voteM s b))
/-- has one given this round up, and told of no round above? -/
def toldM (lt : Lt) (r h i : Nat) : Bool := lt.any fun e => decide (e.1.1.val = r ∧ e.1.2.2.val ≤ h ∧ e.1.2.1.val = i)
def passM (c : MC) (s : MS) (r h : Nat) : Bool := decide (c.need ≤ ((List.range 32).filter fun i => toldM s.lt r h i).length)
def memM (s : MS) (i : Nat) : Mm := (s.ms[i]?).getD ⟨0, 0⟩
def agreesM (c : MC) (s : MS) (i b : Nat) : Bool :=
  decide ((memM s i).vo < rndM s b ∧ (rndM s (parM s b) + 1 = rndM s b ∨ passM c s (rndM s b - 1) (rndM s (parM s b)) = true))
def behindM (c : MC) (s : MS) (x : Sy) : Int × MS :=
  if isN s.bl.length x.blk = false ∨ x.rnd ≤ rndM s x.blk.toNat ∨ 1000 < x.rnd then (2, s)
  else if certM c s x.blk.toNat = false then (6, s)
  else if s.bl.length = 40 then (7, s)
  else (0, ⟨s.bl ++ [⟨x.blk, x.rnd.toNat⟩], s.vt ++ [0], s.ms, s.lt, s.gv⟩)
def votedM (c : MC) (s : MS) (i b : Nat) : MS :=
  ⟨s.bl, s.vt.set b (voteM s b ||| 2 ^ i), if liesB c.L i = true then s.ms else s.ms.set i ⟨rndM s b, max (memM s i).kn (rndM s (parM s b))⟩, s.lt, s.gv⟩
def voteStep (c : MC) (s : MS) (i : Nat) (x : Int) : Int × MS :=
  if isN s.bl.length x = false ∨ x = 0 then (2, s)
  else if (voteM s x.toNat).testBit i = true ∨ (liesB c.L i = false ∧ agreesM c s i x.toNat = false) then (6, s)
  else (0, votedM c s i x.toNat)
/-- is h the round of a certified block? -/
def roundM (c : MC) (s : MS) (h : Int) : Bool := (List.range s.bl.length).any fun b => decide (((rndM s b : Nat) : Int) = h) && certM c s b
def gaveM (gv : Gv) (i r : Nat) : Int := (getM gv (smN i, smN r)).getD 0
def lateM (c : MC) (s : MS) (i : Nat) (x : Sy) : Int × MS :=
  if x.rnd < 1 ∨ 1000 < x.rnd then (2, s)
  else if liesB c.L i = true then
    (if roundM c s x.hi = true then (0, ⟨s.bl, s.vt, s.ms, putM s.lt (smN x.rnd.toNat, smN i, smN x.hi.toNat) 1, s.gv⟩) else (2, s))
  else if 1 < gaveM s.gv i x.rnd.toNat + 1 then (6, ⟨s.bl, s.vt, s.ms, s.lt, putM s.gv (smN i, smN x.rnd.toNat) (gaveM s.gv i x.rnd.toNat + 1)⟩)
  else (0, ⟨s.bl, s.vt, s.ms.set i ⟨max (memM s i).vo x.rnd.toNat, (memM s i).kn⟩, putM s.lt (smN x.rnd.toNat, smN i, smN (memM s i).kn) 1, putM s.gv (smN i, smN x.rnd.toNat) (gaveM s.gv i x.rnd.toNat + 1)⟩)
def learnM (c : MC) (s : MS) (i : Nat) (x : Int) : Int × MS :=
  if isN s.bl.length x = false then (2, s)
  else if certM c s x.toNat = false ∨ liesB c.L i = true then (6, s)
  else (0, ⟨s.bl, s.vt, s.ms.set i ⟨(memM s i).vo, max (memM s i).kn (rndM s x.toNat)⟩, s.lt, s.gv⟩)
def stepM (c : MC) (s : MS) (x : Sy) : Int × MS :=
  if x.kind < 1 ∨ 4 < x.kind then (4, s)
  else if x.kind = 1 then behindM c s x
  else if isN c.n x.who = false then (2, s)
  else if x.kind = 2 then voteStep c s x.who.toNat x.blk
  else if x.kind = 3 then lateM c s x.who.toNat x
  else learnM c s x.who.toNat x.blk
def stM (c : MC) : MS → List Sy → MS
  | s, [] => s
  | s, x :: l => stM c (stepM c s x).2 l
def codesM (c : MC) : MS → List Sy → List Int
  | s, [] => []
  | s, x :: l => (stepM c s x).1 :: codesM c (stepM c s x).2 l
def ms0 (n : Nat) : MS := ⟨[⟨-1, 0⟩], [0], List.replicate n ⟨0, 0⟩, [], []⟩
theorem stM_app (c : MC) : ∀ (l l' : List Sy) (s : MS), stM c s (l ++ l') = stM c (stM c s l) l'
  | [], _, _ => rfl
  | x :: l, l', s => by simp only [List.cons_append, stM]; exact stM_app c l l' _
theorem codesM_app (c : MC) : ∀ (l l' : List Sy) (s : MS), codesM c s (l ++ l') = codesM c s l ++ codesM c (stM c s l) l'
  | [], _, _ => rfl
  | x :: l, l', s => by simp only [List.cons_append, stM, codesM]; rw [codesM_app c l l']
theorem codesM_len (c : MC) : ∀ (l : List Sy) (s : MS), (codesM c s l).length = l.length
  | [], _ => rfl
  | x :: l, s => by simp [codesM, codesM_len c l]
/-! in memory -/
abbrev FK (c : Bk) : List Value := [Value.int .i64 c.par, Value.int .i64 ((c.rnd : Nat) : Int)]
theorem FK_len (c : Bk) : (FK c).length = 2 := rfl
theorem FK_one (p : Bk) (u : Value) (h : u ∈ FK p) : u.oneCell' = true := by simp [FK] at h; rcases h with rfl | rfl <;> rfl
theorem Tryd.eK : Elem Tryd.prog 27 47 (.agg #[.int .i64 0, .int .i64 0]) 2 16 := ⟨Tryd.underlying27, by kernel_rfl, rfl, by decide⟩
abbrev FV (c : Nat) : List Value := [Value.int .u32 ((c : Nat) : Int)]
theorem FV_len (c : Nat) : (FV c).length = 1 := rfl
theorem FV_one (p : Nat) (u : Value) (h : u ∈ FV p) : u.oneCell' = true := by simp [FV] at h; subst h; rfl
theorem Tryd.eV : Elem Tryd.prog 48 22 (.int .u32 0) 1 4 := ⟨Tryd.underlying48, by kernel_rfl, rfl, by decide⟩
abbrev FR (c : Mm) : List Value := [Value.int .i64 ((c.vo : Nat) : Int), Value.int .i64 ((c.kn : Nat) : Int)]
theorem FR_len (c : Mm) : (FR c).length = 2 := rfl
theorem FR_one (p : Mm) (u : Value) (h : u ∈ FR p) : u.oneCell' = true := by simp [FR] at h; rcases h with rfl | rfl <;> rfl
theorem Tryd.eR : Elem Tryd.prog 49 90 (.agg #[.int .i64 0, .int .i64 0]) 2 16 := ⟨Tryd.underlying49, by kernel_rfl, rfl, by decide⟩
abbrev FZ (c : Int) : List Value := [Value.int .i64 c]
theorem FZ_len (c : Int) : (FZ c).length = 1 := rfl
theorem FZ_one (p : Int) (u : Value) (h : u ∈ FZ p) : u.oneCell' = true := by simp [FZ] at h; subst h; rfl
theorem Tryd.eZ : Elem Tryd.prog 26 31 (.int .i64 0) 1 8 := ⟨Tryd.underlying26, by kernel_rfl, rfl, by decide⟩
abbrev FI (c : Int) : List Value := [Value.int .i64 c]
theorem FI_len (c : Int) : (FI c).length = 1 := rfl
theorem FI_one (p : Int) (u : Value) (h : u ∈ FI p) : u.oneCell' = true := by simp [FI] at h; subst h; rfl
theorem Tryd.eI : Elem Tryd.prog 63 3 (.int .i64 0) 1 8 := ⟨Tryd.underlying63, by kernel_rfl, rfl, by decide⟩
abbrev FB (c : Bool) : List Value := [Value.bool c]
theorem FB_len (c : Bool) : (FB c).length = 1 := rfl
theorem FB_one (p : Bool) (u : Value) (h : u ∈ FB p) : u.oneCell' = true := by simp [FB] at h; subst h; rfl
theorem Tryd.eB : Elem Tryd.prog 28 4 (.bool false) 1 1 := ⟨Tryd.underlying28, by kernel_rfl, rfl, by decide⟩
abbrev FM (c : Sy) : List Value := [Value.int .i64 c.kind, Value.int .i64 c.who, Value.int .i64 c.blk, Value.int .i64 c.rnd, Value.int .i64 c.hi]
theorem FM_len (c : Sy) : (FM c).length = 5 := rfl
theorem FM_one (p : Sy) (u : Value) (h : u ∈ FM p) : u.oneCell' = true := by simp [FM] at h; rcases h with rfl | rfl | rfl | rfl | rfl <;> rfl
theorem Tryd.eM : Elem Tryd.prog 23 55 (.agg #[.int .i64 0, .int .i64 0, .int .i64 0, .int .i64 0, .int .i64 0]) 5 40 := ⟨Tryd.underlying23, by kernel_rfl, rfl, by decide⟩
abbrev vI (x : Int) : Value := .int .i64 x
theorem Tryd.litsI (d : Nat) (a : Int) (w : (Lit.int .i64 a).wf = true) : Tryd.prog.keyLits (d + 1) 3 [.int .i64 a] = some [.int .i64 a] := by
  unfold Program.keyLits
  rw [Tryd.underlying3]
  exact if_pos ⟨rfl, w⟩
end Go.Proofs.YtfeeociajllbhaaDoor.Mt
