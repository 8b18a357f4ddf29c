/- Seats in a ring, in plain words. No condition. -/
import Derived.Test.YteejbaindbiimaaT
import Derived.Test.YteejbaindbiimaaX16
import Derived.Test.YteejbaindbiimaaZ
namespace Go.Proofs.Yteejbaindbiimaa
open Go.RowKit
set_option linter.unusedVariables false
set_option linter.unusedSimpArgs false
set_option maxRecDepth 100000

structure Se where
  nm : Int
  pt : Bool
  q : List Int
structure RS where
  ss : List Se
  ch : List Nat
  sent : Nat
structure Mv where
  kind : Int
  who : Int
def upS (l : List Se) (i : Nat) (f : Se → Se) : List Se := match l[i]? with
  | some x => l.set i (f x)
  | none => l
theorem upS_at {l : List Se} {i : Nat} {x : Se} {f : Se → Se} (h : l[i]? = some x) : upS l i f = l.set i (f x) := by unfold upS; rw [h]
theorem upS_len (l : List Se) (i : Nat) (f : Se → Se) : (upS l i f).length = l.length := by unfold upS; split <;> simp
def sendR (s : RS) (i : Nat) (a : Int) : RS := ⟨upS (upS s.ss i fun x => { x with pt := true }) ((i + 1) % s.ss.length) fun x => { x with q := x.q ++ [a] }, s.ch, s.sent + 1⟩
def takeR (s : RS) (i : Nat) : Int × RS := match s.ss[i]? with
  | none => (5, s)
  | some x => match x.q with
    | [] => (5, s)
    | a :: l =>
      if x.nm < a then (0, sendR ⟨upS s.ss i fun x => { x with q := l }, s.ch, s.sent⟩ i a)
      else if a = x.nm then (0, ⟨upS s.ss i fun x => { x with q := l }, s.ch ++ [i], s.sent⟩)
      else if x.pt = false then (0, sendR ⟨upS s.ss i fun x => { x with q := l }, s.ch, s.sent⟩ i x.nm)
      else (0, ⟨upS s.ss i fun x => { x with q := l }, s.ch, s.sent⟩)
def isN (n : Nat) (x : Int) : Bool := decide (0 ≤ x ∧ x < n)
def stepR (s : RS) (c : Mv) : Int × RS :=
  if c.kind ≠ 1 ∧ c.kind ≠ 2 then (4, s)
  else if isN s.ss.length c.who = false then (2, s)
  else if c.kind = 2 then takeR s c.who.toNat
  else match s.ss[c.who.toNat]? with
    | none => (2, s)
    | some x => if x.pt = true then (6, s) else (0, sendR s c.who.toNat x.nm)
def stR : RS → List Mv → RS
  | s, [] => s
  | s, c :: l => stR (stepR s c).2 l
def codesR : RS → List Mv → List Int
  | s, [] => []
  | s, c :: l => (stepR s c).1 :: codesR (stepR s c).2 l
def rs0 (names : List Int) : RS := ⟨names.map fun x => ⟨x, false, []⟩, [], 0⟩
theorem stR_app : ∀ (l l' : List Mv) (s : RS), stR s (l ++ l') = stR (stR s l) l'
  | [], _, _ => rfl
  | c :: l, l', s => by simp only [List.cons_append, stR]; exact stR_app l l' _
theorem codesR_app : ∀ (l l' : List Mv) (s : RS), codesR s (l ++ l') = codesR s l ++ codesR (stR s l) l'
  | [], _, _ => rfl
  | c :: l, l', s => by simp only [List.cons_append, stR, codesR]; rw [codesR_app l l']
theorem codesR_len : ∀ (l : List Mv) (s : RS), (codesR s l).length = l.length
  | [], _ => rfl
  | c :: l, s => by simp [codesR, codesR_len l]
/-! in memory -/
theorem Try.eI : Elem Try.prog 22 3 (.int .i64 0) 1 8 := ⟨Try.underlying22, by kernel_rfl, rfl, by decide⟩
abbrev FN (i : Nat) : List Value := [.int .i64 ((i : Nat) : Int)]
theorem FN_len (c : Nat) : (FN c).length = 1 := rfl
theorem FN_one (p : Nat) (u : Value) (h : u ∈ FN p) : u.oneCell' = true := by simp [FN] at h; subst h; rfl
theorem Try.eN : Elem Try.prog 22 3 (.int .i64 0) 1 8 := ⟨Try.underlying22, by kernel_rfl, rfl, by decide⟩
abbrev FP (b : Nat) : List Value := [ptr b 0]
theorem FP_len (c : Nat) : (FP c).length = 1 := rfl
theorem FP_one (p : Nat) (u : Value) (h : u ∈ FP p) : u.oneCell' = true := by simp [FP] at h; subst h; rfl
theorem Try.eP : Elem Try.prog 41 44 (.pointer none) 1 8 := ⟨Try.underlying41, by kernel_rfl, rfl, by decide⟩
abbrev FZ (x : Int) : List Value := [.int .i64 x]
theorem FZ_len (x : Int) : (FZ x).length = 1 := rfl
theorem FZ_one (p : Int) (u : Value) (h : u ∈ FZ p) : u.oneCell' = true := by simp [FZ] at h; subst h; rfl
theorem Try.eZ : Elem Try.prog 24 27 (.int .i64 0) 1 8 := ⟨Try.underlying24, by kernel_rfl, rfl, by decide⟩
abbrev FM (c : Mv) : List Value := [.int .i64 c.kind, .int .i64 c.who]
theorem FM_len (c : Mv) : (FM c).length = 2 := rfl
theorem FM_one (p : Mv) (u : Value) (h : u ∈ FM p) : u.oneCell' = true := by simp [FM] at h; rcases h with rfl | rfl <;> rfl
theorem Try.eM : Elem Try.prog 23 34 (.agg #[.int .i64 0, .int .i64 0]) 2 16 := ⟨Try.underlying23, by kernel_rfl, rfl, by decide⟩
structure Pm where
  b : Nat
  v : Value
  s : Se
def seatH (m : Pm) : Hp := Hp.rec_ m.b [.int .i64 m.s.nm, .bool m.s.pt, m.v] * Hp.own SZ 1 m.v m.s.q
abbrev recS (S : Nat) (pv cv chv : Value) (sent : Nat) : Hp := Hp.rec_ S [pv, cv, chv, .int .i64 ((sent : Nat) : Int), .int .i64 0]
def worldH (S : Nat) (cv : Value) (s : RS) : Hp := Hp.ex fun q : Value × Value × List Pm => Hp.pure (q.2.2.map Pm.s = s.ss) *
  (recS S q.1 cv q.2.1 s.sent * (Hp.own FP 1 q.1 (q.2.2.map Pm.b) * (Hp.big seatH q.2.2 * Hp.own FN 1 q.2.1 s.ch)))
theorem sep4R (p q r s R : Hp) : sep [p, q, r, s, R] = p * (q * (r * (s * R))) := by show p * (q * (r * (s * (R * 1)))) = _; rw [Hp.mul_one]
theorem worldH.open_ {W w : World} {S : Nat} {cv : Value} {s : RS} {R : Hp} (H : Sat W w (worldH S cv s * R)) : ∃ (pv chv : Value) (pms : List Pm), pms.map Pm.s = s.ss ∧ Sat W w (sep [recS S pv cv chv s.sent, Hp.own FP 1 pv (pms.map Pm.b), Hp.big seatH pms, Hp.own FN 1 chv s.ch, R]) := by
  obtain ⟨⟨pv, chv, pms⟩, H⟩ := H.ex
  obtain ⟨h1, H⟩ := (H.cast (Hp.mul_assoc ..)).pure
  exact ⟨pv, chv, pms, h1, H.cast (by rw [sep4R]; simp only [Hp.mul_assoc])⟩
theorem worldH.shut {W w : World} {S : Nat} {cv : Value} {s : RS} {pv chv : Value} {pms : List Pm} {R : Hp} (h : pms.map Pm.s = s.ss) (H : Sat W w (sep [recS S pv cv chv s.sent, Hp.own FP 1 pv (pms.map Pm.b), Hp.big seatH pms, Hp.own FN 1 chv s.ch, R])) : Sat W w (sep [worldH S cv s, R]) := by
  rw [sep1]
  refine Sat.exI (p := fun q : Value × Value × List Pm => Hp.pure (q.2.2.map Pm.s = s.ss) * (recS S q.1 cv q.2.1 s.sent * (Hp.own FP 1 q.1 (q.2.2.map Pm.b) * (Hp.big seatH q.2.2 * Hp.own FN 1 q.2.1 s.ch)))) (pv, chv, pms) ?_
  refine (Sat.pureI h (H.cast ?_)).cast (Hp.mul_assoc ..).symm
  rw [sep4R]; simp only [Hp.mul_assoc]
theorem set_bM {pms : List Pm} {i : Nat} {m y : Pm} (hk : pms[i]? = some m) (hy : y.b = m.b) : (pms.set i y).map Pm.b = pms.map Pm.b := by
  refine List.ext_getElem? fun j => ?_
  rw [List.getElem?_map, List.getElem?_map]
  by_cases e : i = j
  · subst e; rw [List.getElem?_set_self (List.getElem?_eq_some_iff.1 hk).1, hk]; simp [hy]
  · rw [List.getElem?_set_ne e]
theorem map_upS {pms : List Pm} {i : Nat} {m y : Pm} {l : List Se} {f : Se → Se} (hp : pms.map Pm.s = l) (hk : pms[i]? = some m) (hy : y.s = f m.s) : (pms.set i y).map Pm.s = upS l i f := by
  have : l[i]? = some m.s := by rw [← hp, List.getElem?_map, hk]; rfl
  rw [upS_at this, List.map_set, hp, hy]
end Go.Proofs.Yteejbaindbiimaa
