/- Processes and messages, in plain words. No condition. -/
import Derived.Test.YtcjdphhofjibdaaT
import Derived.Test.YtcjdphhofjibdaaX17
namespace Go.Proofs.Ytcjdphhofjibdaa
open Go.RowKit
set_option linter.unusedVariables false
set_option linter.unusedSimpArgs false
set_option maxRecDepth 100000

structure Ms where
  frm : Nat
  need : List Nat
structure Pt where
  lst : List Nat
  cnt : List Nat
  cm : List (Nat × Nat)
  wts : List Nat
structure CS where
  all : List Ms
  ps : List Pt
structure Mv where
  kind : Int
  who : Int
  msg : Int
/-- may a message be heard? -/
def rdy (all : List Ms) (cnt : List Nat) (m : Nat) : Bool := match all[m]? with
  | none => false
  | some a => (List.range a.need.length).all fun i => decide (a.need.getD i 0 ≤ cnt.getD i 0)
def hear (all : List Ms) (p : Pt) (m : Nat) : Pt := match all[m]? with
  | none => p
  | some a => ⟨p.lst ++ [m], p.cnt.set a.frm (p.cnt.getD a.frm 0 + 1), p.cm, p.wts⟩
/-- the first place where it holds; the length where none is -/
def fst (q : Nat → Bool) : List Nat → Nat
  | [] => 0
  | x :: l => if q x = true then 0 else fst q l + 1
def stl (all : List Ms) : Nat → Pt → Pt
  | 0, p => p
  | k + 1, p => match p.wts[fst (rdy all p.cnt) p.wts]? with
    | none => p
    | some m => stl all k (hear all ⟨p.lst, p.cnt, p.cm, p.wts.eraseIdx (fst (rdy all p.cnt) p.wts)⟩ m)
def settle (all : List Ms) (p : Pt) : Pt := stl all p.wts.length p
def cntL (l : List Nat) (m : Nat) : Nat := l.countP (· < m)
def ins (l : List Nat) (m : Nat) : List Nat := l.take (cntL l m) ++ m :: l.drop (cntL l m)
def isN (n : Nat) (x : Int) : Bool := decide (0 ≤ x ∧ x < n)
def cmN (p : Pt) (m : Nat) : Nat := (getM p.cm m).getD 0
def stepC (s : CS) (x : Mv) : Int × CS :=
  if x.kind ≠ 1 ∧ x.kind ≠ 2 then (4, s)
  else if isN s.ps.length x.who = false then (2, s)
  else match s.ps[x.who.toNat]? with
    | none => (2, s)
    | some p =>
      if x.kind = 1 then (0, ⟨s.all ++ [⟨x.who.toNat, p.cnt⟩], s.ps.set x.who.toNat (hear (s.all ++ [⟨x.who.toNat, p.cnt⟩]) p s.all.length)⟩)
      else if isN s.all.length x.msg = false then (2, s)
      else match s.all[x.msg.toNat]? with
        | none => (2, s)
        | some a =>
          if a.frm = x.who.toNat then (2, s)
          else if 0 < cmN p x.msg.toNat then (6, ⟨s.all, s.ps.set x.who.toNat ⟨p.lst, p.cnt, putM p.cm x.msg.toNat (cmN p x.msg.toNat + 1), p.wts⟩⟩)
          else (0, ⟨s.all, s.ps.set x.who.toNat (settle s.all ⟨p.lst, p.cnt, putM p.cm x.msg.toNat (cmN p x.msg.toNat + 1), ins p.wts x.msg.toNat⟩)⟩)
def stC : CS → List Mv → CS
  | s, [] => s
  | s, x :: l => stC (stepC s x).2 l
def codesC : CS → List Mv → List Int
  | s, [] => []
  | s, x :: l => (stepC s x).1 :: codesC (stepC s x).2 l
def cs0 (n : Nat) : CS := ⟨[], List.replicate n ⟨[], List.replicate n 0, [], []⟩⟩
theorem stC_app : ∀ (l l' : List Mv) (s : CS), stC s (l ++ l') = stC (stC s l) l'
  | [], _, _ => rfl
  | c :: l, l', s => by simp only [List.cons_append, stC]; exact stC_app l l' _
theorem codesC_app : ∀ (l l' : List Mv) (s : CS), codesC s (l ++ l') = codesC s l ++ codesC (stC s l) l'
  | [], _, _ => rfl
  | c :: l, l', s => by simp only [List.cons_append, stC, codesC]; rw [codesC_app l l']
theorem codesC_len : ∀ (l : List Mv) (s : CS), (codesC s l).length = l.length
  | [], _ => rfl
  | c :: l, s => by simp [codesC, codesC_len l]
theorem fst_le (q : Nat → Bool) : ∀ l, fst q l ≤ l.length
  | [] => Nat.le_refl _
  | x :: l => by simp only [fst]; split <;> simp; exact fst_le q l
theorem fst_at {q : Nat → Bool} : ∀ {l : List Nat} {k x : Nat}, l[k]? = some x → k ≤ fst q l → (q x = true → fst q l = k) ∧ (q x = false → k + 1 ≤ fst q l)
  | [], k, x, h, _ => by simp at h
  | c :: l, 0, x, h, _ => by
    simp at h; subst h
    simp only [fst]
    exact ⟨fun h => by rw [if_pos h], fun h => by rw [if_neg (by rw [h]; decide)]; omega⟩
  | c :: l, k + 1, x, h, hk => by
    simp only [fst] at hk ⊢
    split at hk
    · omega
    · rename_i hc
      rw [if_neg hc]
      obtain ⟨h1, h2⟩ := fst_at (q := q) (l := l) (k := k) (x := x) (by simpa using h) (by omega)
      exact ⟨fun z => by rw [h1 z], fun z => by have := h2 z; omega⟩
theorem fst_here {q : Nat → Bool} : ∀ {l : List Nat} {x : Nat}, l[fst q l]? = some x → q x = true
  | [], x, h => by simp [fst] at h
  | c :: l, x, h => by
    simp only [fst] at h
    split at h
    · rename_i hc; simp at h; subst h; exact hc
    · exact fst_here (l := l) (by simpa using h)
theorem fst_none {q : Nat → Bool} : ∀ {l : List Nat}, l[fst q l]? = none → ∀ x ∈ l, q x = false
  | [], _, x, hx => by cases hx
  | c :: l, h, x, hx => by
    simp only [fst] at h
    split at h
    · simp at h
    · rename_i hc
      rcases List.mem_cons.1 hx with rfl | hx
      · simpa using hc
      · exact fst_none (l := l) (by simpa using h) x hx
/-! in memory -/
abbrev pN (i : Nat) : Value := .int .i64 ((i : Nat) : Int)
abbrev FN (i : Nat) : List Value := [pN i]
theorem FN_len (c : Nat) : (FN c).length = 1 := rfl
theorem FN_one (p : Nat) (u : Value) (h : u ∈ FN p) : u.oneCell' = true := by simp [FN] at h; subst h; rfl
theorem Try.eN : Elem Try.prog 30 3 (.int .i64 0) 1 8 := ⟨Try.underlying30, by kernel_rfl, rfl, by decide⟩
abbrev FP (b : Nat) : List Value := [ptr b 0]
theorem FP_len (c : Nat) : (FP c).length = 1 := rfl
theorem FP_one (p : Nat) (u : Value) (h : u ∈ FP p) : u.oneCell' = true := by simp [FP] at h; subst h; rfl
theorem Try.eP : Elem Try.prog 43 46 (.pointer none) 1 8 := ⟨Try.underlying43, by kernel_rfl, rfl, by decide⟩
structure Mm where
  frm : Nat
  a : Option Addr
  n : Nat
  c : Nat
  need : List Nat
abbrev FA (m : Mm) : List Value := [.int .i64 ((m.frm : Nat) : Int), .slice m.a m.n m.c]
theorem FA_len (c : Mm) : (FA c).length = 2 := rfl
theorem FA_one (p : Mm) (u : Value) (h : u ∈ FA p) : u.oneCell' = true := by simp [FA] at h; rcases h with rfl | rfl <;> rfl
theorem Try.eA : Elem Try.prog 42 53 (.agg #[.int .i64 0, .slice none 0 0]) 2 32 := ⟨Try.underlying42, by kernel_rfl, rfl, by decide⟩
theorem Try.kN : KeyT Try.prog 3 natV natL (fun n => n < 4611686018427387904) := natT Try.underlying3
abbrev mapB (b : Nat) (ms : List (Nat × Nat)) : Hp := Hp.map Try.prog 3 natL natV b ms
def needH (m : Mm) : Hp := Hp.own FN 1 (.slice m.a m.n m.c) m.need
structure Pm where
  b : Nat
  mb : Nat
  lv : Value
  cv : Value
  wv : Value
  p : Pt
def IsC (v : Value) : Prop := ∃ (a : Option Addr) (n c : Nat), c ≤ maxLen ∧ v = .slice a n c
theorem IsC.isS {v : Value} (h : IsC v) : IsS v := by obtain ⟨a, n, c, _, rfl⟩ := h; exact ⟨a, n, c, rfl⟩
def procH (m : Pm) : Hp := Hp.rec_ m.b [m.lv, m.cv, .map (some m.mb), m.wv] * (mapB m.mb m.p.cm * (Hp.own FN 1 m.lv m.p.lst * (Hp.own FN 1 m.cv m.p.cnt * Hp.own FN 1 m.wv m.p.wts)))
def toMs (m : Mm) : Ms := ⟨m.frm, m.need⟩
structure POk (m : Pm) : Prop where
  iw : IsC m.wv
  il : IsS m.lv
  ic : IsS m.cv
structure WOk (mms : List Mm) (pms : List Pm) (s : CS) : Prop where
  all : mms.map toMs = s.all
  ps : pms.map Pm.p = s.ps
  ok : ∀ m ∈ pms, POk m
def worldH (S : Nat) (s : CS) : Hp := Hp.ex fun q : Value × Value × List Mm × List Pm => Hp.pure (WOk q.2.2.1 q.2.2.2 s) *
  (Hp.rec_ S [q.1, q.2.1] * (Hp.own FA 2 q.1 q.2.2.1 * (Hp.big needH q.2.2.1 * (Hp.own FP 1 q.2.1 (q.2.2.2.map Pm.b) * Hp.big procH q.2.2.2))))
theorem sep5R (p q r s t R : Hp) : sep [p, q, r, s, t, R] = p * (q * (r * (s * (t * R)))) := by show p * (q * (r * (s * (t * (R * 1))))) = _; rw [Hp.mul_one]
abbrev WL (S : Nat) (av pv : Value) (mms : List Mm) (pms : List Pm) (R : Hp) : List Hp := [Hp.rec_ S [av, pv], Hp.own FA 2 av mms, Hp.big needH mms, Hp.own FP 1 pv (pms.map Pm.b), Hp.big procH pms, R]
theorem worldH.open_ {W w : World} {S : Nat} {s : CS} {R : Hp} (H : Sat W w (worldH S s * R)) : ∃ (av pv : Value) (mms : List Mm) (pms : List Pm), WOk mms pms s ∧ Sat W w (sep (WL S av pv mms pms R)) := by
  obtain ⟨⟨av, pv, mms, pms⟩, H⟩ := H.ex
  obtain ⟨h1, H⟩ := (H.cast (Hp.mul_assoc ..)).pure
  exact ⟨av, pv, mms, pms, h1, H.cast (by rw [sep5R]; simp only [Hp.mul_assoc])⟩
theorem worldH.shut {W w : World} {S : Nat} {s : CS} {av pv : Value} {mms : List Mm} {pms : List Pm} {R : Hp} (h : WOk mms pms s) (H : Sat W w (sep (WL S av pv mms pms R))) : Sat W w (worldH S s * R) := by
  refine Sat.exI (p := fun q : Value × Value × List Mm × List Pm => Hp.pure (WOk q.2.2.1 q.2.2.2 s) * (Hp.rec_ S [q.1, q.2.1] * (Hp.own FA 2 q.1 q.2.2.1 * (Hp.big needH q.2.2.1 * (Hp.own FP 1 q.2.1 (q.2.2.2.map Pm.b) * Hp.big procH q.2.2.2))))) (av, pv, mms, pms) ?_
  refine (Sat.pureI h (H.cast ?_)).cast (Hp.mul_assoc ..).symm
  rw [sep5R]; simp only [Hp.mul_assoc]
end Go.Proofs.Ytcjdphhofjibdaa
