/- What a script leads to, in plain words. No condition. -/
import Derived.Test.YtgnpngiecnkfiaaA4
import Derived.Test.YtgnpngiecnkfiaaX7
namespace Go.Proofs.Ytgnpngiecnkfiaa
open Go.RowKit
set_option linter.unusedVariables false
set_option linter.unusedSimpArgs false
set_option maxRecDepth 100000

abbrev FZ (x : Int) : List Value := [.int .i64 x]
abbrev FB (x : Bool) : List Value := [.bool x]
theorem FZ_len (x : Int) : (FZ x).length = 1 := rfl
theorem FB_len (x : Bool) : (FB x).length = 1 := rfl
theorem FZ_one (p : Int) (u : Value) (h : u ∈ FZ p) : u.oneCell' = true := by simp [FZ] at h; subst h; rfl
theorem FB_one (p : Bool) (u : Value) (h : u ∈ FB p) : u.oneCell' = true := by simp [FB] at h; subst h; rfl
theorem Try.eC : Elem Try.prog 23 27 (.int .i64 0) 1 8 := ⟨Try.underlying23, by kernel_rfl, rfl, by decide⟩
theorem Try.eB : Elem Try.prog 24 4 (.bool false) 1 1 := ⟨Try.underlying24, by kernel_rfl, rfl, by decide⟩
def qs0 (n : Nat) : QS := ⟨(List.replicate n (⟨false, false, some 0, 0⟩ : Pr)).set 0 (⟨true, true, none, 0⟩ : Pr), [], [], false⟩
def stQ (n : Nat) : QS → List Cm → QS
  | s, [] => s
  | s, c :: cs => stQ n (stepQ n s c).2 cs
def codesQ (n : Nat) : QS → List Cm → List Int
  | s, [] => []
  | s, c :: cs => (stepQ n s c).1 :: codesQ n (stepQ n s c).2 cs
theorem stQ_app (n : Nat) : ∀ (l l' : List Cm) (s : QS), stQ n s (l ++ l') = stQ n (stQ n s l) l'
  | [], _, _ => rfl
  | c :: l, l', s => stQ_app n l l' _
theorem codesQ_app (n : Nat) : ∀ (l l' : List Cm) (s : QS), codesQ n s (l ++ l') = codesQ n s l ++ codesQ n (stQ n s l) l'
  | [], _, _ => rfl
  | c :: l, l', s => by simp [codesQ, stQ, codesQ_app n l l']
theorem codesQ_len (n : Nat) : ∀ (l : List Cm) (s : QS), (codesQ n s l).length = l.length
  | [], _ => rfl
  | c :: l, s => by simp [codesQ, codesQ_len n l]
theorem stQ_snoc {n : Nat} {l : List Cm} {i : Nat} {c : Cm} {s : QS} (h : l[i]? = some c) : stQ n s (l.take (i + 1)) = (stepQ n (stQ n s (l.take i)) c).2 := by
  rw [take_of h, stQ_app]; rfl
theorem codesQ_snoc {n : Nat} {l : List Cm} {i : Nat} {c : Cm} {s : QS} (h : l[i]? = some c) : codesQ n s (l.take (i + 1)) = codesQ n s (l.take i) ++ [(stepQ n (stQ n s (l.take i)) c).1] := by
  rw [take_of h, codesQ_app]; rfl
theorem stQ_len (n : Nat) : ∀ (l : List Cm) (s : QS), (stQ n s l).ps.length = s.ps.length
  | [], _ => rfl
  | c :: l, s => by rw [stQ, stQ_len n l, stepQ_len]
theorem BdQ.run {n : Nat} : ∀ (l : List Cm) {m : Nat} {s : QS}, BdQ m s → BdQ (m + 2 * l.length) (stQ n s l)
  | [], m, s, h => h
  | c :: l, m, s, h => (BdQ.run l (h.step (n := n) c)).mono (by simp; omega)
theorem BdQ.zero (n : Nat) : BdQ 0 (qs0 n) := by
  refine ⟨Nat.le_refl _, Nat.le_refl _, fun k => Nat.le_refl _, fun k => Nat.le_refl _, fun p hp => ?_⟩
  rcases List.mem_or_eq_of_mem_set hp with h | rfl
  · rw [List.eq_of_mem_replicate h]; decide
  · decide
theorem qs0_len (n : Nat) : (qs0 n).ps.length = n := by simp [qs0]
def sumM : Cn → Nat
  | [] => 0
  | p :: l => p.2 + sumM l
theorem sumM_perm {l l' : Cn} (h : l.Perm l') : sumM l = sumM l' := by
  induction h with
  | nil => rfl
  | cons x _ ih => simp [sumM, ih]
  | swap x y l => simp [sumM]; omega
  | trans _ _ h1 h2 => exact h1.trans h2
theorem sumM_le {m : Nat} : ∀ {l : Cn}, (∀ p ∈ l, p.2 ≤ m) → sumM l ≤ l.length * m
  | [], _ => by simp [sumM]
  | p :: l, h => by
    have h1 := h p (by simp)
    have h2 := sumM_le (l := l) fun q hq => h q (by simp [hq])
    simp only [sumM, List.length_cons, Nat.add_mul, Nat.one_mul]; omega
theorem sumM_bd {m : Nat} {l : Cn} (hn : l.Pairwise (fun p q => p.1 ≠ q.1)) (hl : l.length ≤ m) (hc : ∀ k, cnt l k ≤ m) : sumM l ≤ m * m := by
  refine Nat.le_trans (sumM_le (m := m) fun p hp => ?_) (Nat.mul_le_mul_right m hl)
  have := hc p.1
  unfold cnt at this
  rw [getM_of hn (show (p.1, p.2) ∈ l from hp)] at this
  exact this
def awQ (s : QS) : Nat → Nat
  | 0 => 0
  | 1 => sumM s.ca
  | _ => sumM s.ca + sumM s.an
theorem nil_of_perm {l : Cn} {p : (Sm × Sm) × Nat} {r : Cn} (h : l.Perm (p :: r)) : l.length = r.length + 1 := by rw [h.length_eq]; rfl
end Go.Proofs.Ytgnpngiecnkfiaa
