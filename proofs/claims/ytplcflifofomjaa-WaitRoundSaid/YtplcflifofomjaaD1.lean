/- Needs, in plain words. No condition. -/
import Derived.Test.YtplcflifofomjaaT
import Derived.Test.YtplcflifofomjaaX19
namespace Go.Proofs.Ytplcflifofomjaa
open Go.RowKit
set_option linter.unusedVariables false
set_option linter.unusedSimpArgs false
set_option maxRecDepth 100000

structure Nd where
  who : Int
  all : Bool
  a : Option Addr
  n : Nat
  c : Nat
  fr : List Int
structure NdOk (n : Int) (x : Nd) : Prop where
  lt : x.fr.length ≤ 12
  w0 : 0 ≤ x.who
  w1 : x.who < n
  fr : ∀ k ∈ x.fr, 0 ≤ k ∧ k < n
/-- may needs be? -/
structure OkN (n : Int) (l : List Nd) : Prop where
  n1 : 1 ≤ n
  n12 : n ≤ 12
  len : (l.length : Int) ≤ n
  el : ∀ x ∈ l, NdOk n x
  dist : l.Pairwise (fun x y => x.who ≠ y.who)
def condN (f : List Bool) (x : Nd) : Bool := (x.all && !(x.fr.any fun k => !(f.getD k.toNat false))) || (!x.all && x.fr.any fun k => f.getD k.toNat false)
def stepN (f : List Bool) (x : Nd) : List Bool := if condN f x then f.set x.who.toNat true else f
def passN (l : List Nd) (f : List Bool) : List Bool := l.foldl stepN f
def f0N (l : List Nd) (f : List Bool) : List Bool := l.foldl (fun f x => f.set x.who.toNat false) f
def roundN (l : List Nd) : Nat → List Bool → List Bool
  | 0, f => f
  | r + 1, f => passN l (roundN l r f)
/-- who is not free, among the first -/
def stkU (f : List Bool) : Nat → List Nat
  | 0 => []
  | k + 1 => stkU f k ++ if f.getD k false then [] else [k]
def freeN (n : Nat) (l : List Nd) : List Bool := roundN l n (f0N l (List.replicate n true))
def stuckN (n : Nat) (l : List Nd) : List Nat := stkU (freeN n l) n
theorem stepN_len (f : List Bool) (x : Nd) : (stepN f x).length = f.length := by unfold stepN; split <;> simp
theorem passN_len : ∀ (l : List Nd) (f : List Bool), (passN l f).length = f.length
  | [], f => rfl
  | x :: l, f => by show (passN l (stepN f x)).length = _; rw [passN_len l, stepN_len]
theorem f0N_len : ∀ (l : List Nd) (f : List Bool), (f0N l f).length = f.length
  | [], f => rfl
  | x :: l, f => by show (f0N l (f.set x.who.toNat false)).length = _; rw [f0N_len l, List.length_set]
theorem roundN_len (l : List Nd) (f : List Bool) : ∀ r, (roundN l r f).length = f.length
  | 0 => rfl
  | r + 1 => by rw [roundN, passN_len, roundN_len l f r]
theorem stkU_le (f : List Bool) : ∀ k, (stkU f k).length ≤ k
  | 0 => Nat.le_refl _
  | k + 1 => by have := stkU_le f k; simp only [stkU, List.length_append]; split <;> simp <;> omega
theorem passN_snoc {l : List Nd} {f : List Bool} {i : Nat} {x : Nd} (h : l[i]? = some x) : passN (l.take (i + 1)) f = stepN (passN (l.take i) f) x := by
  unfold passN; rw [take_of h, List.foldl_append]; rfl
theorem f0N_snoc {l : List Nd} {f : List Bool} {i : Nat} {x : Nd} (h : l[i]? = some x) : f0N (l.take (i + 1)) f = (f0N (l.take i) f).set x.who.toNat false := by
  unfold f0N; rw [take_of h, List.foldl_append]; rfl
theorem getD_of {α : Type} {xs : List α} {k : Nat} {x d : α} (h : xs[k]? = some x) : xs.getD k d = x := by rw [List.getD_eq_getElem?_getD, h]; rfl
/-! the first place where it holds -/
def fst {α : Type} (q : α → Bool) : List α → Nat
  | [] => 0
  | x :: l => if q x = true then 0 else fst q l + 1
theorem fst_le {α : Type} (q : α → Bool) : ∀ l, fst q l ≤ l.length
  | [] => Nat.le_refl _
  | x :: l => by simp only [fst]; split <;> simp; exact fst_le q l
theorem fst_at {α : Type} {q : α → Bool} : ∀ {l : List α} {k : Nat} {x : α}, l[k]? = some x → k ≤ fst q l → (q x = true → fst q l = k) ∧ (q x = false → k + 1 ≤ fst q l)
  | [], k, x, h, _ => by simp at h
  | c :: l, 0, x, h, _ => by
    simp at h; subst h
    simp only [fst]
    exact ⟨fun h => by rw [if_pos h], fun h => by rw [if_neg (by rw [h]; decide)]; omega⟩
  | c :: l, k + 1, x, h, hk => by
    simp only [fst] at hk ⊢
    split at hk
    · omega
    · rename_i hc
      rw [if_neg hc]
      obtain ⟨h1, h2⟩ := fst_at (q := q) (l := l) (k := k) (x := x) (by simpa using h) (by omega)
      exact ⟨fun z => by rw [h1 z], fun z => by have := h2 z; omega⟩
theorem fst_any {α : Type} (q : α → Bool) : ∀ l : List α, decide (fst q l < l.length) = l.any q
  | [] => rfl
  | x :: l => by
    have ih := fst_any q l
    by_cases h : q x = true
    · simp [fst, h]
    · simp only [fst, List.any_cons, if_neg h, List.length_cons, Nat.add_lt_add_iff_right]
      rw [ih]; simp at h; rw [h]; rfl
/-! in memory -/
abbrev FN (i : Nat) : List Value := [.int .i64 ((i : Nat) : Int)]
theorem FN_len (c : Nat) : (FN c).length = 1 := rfl
theorem FN_one (p : Nat) (u : Value) (h : u ∈ FN p) : u.oneCell' = true := by simp [FN] at h; subst h; rfl
theorem Try.eN : Elem Try.prog 24 3 (.int .i64 0) 1 8 := ⟨Try.underlying24, by kernel_rfl, rfl, by decide⟩
abbrev FZ (x : Int) : List Value := [.int .i64 x]
theorem FZ_len (x : Int) : (FZ x).length = 1 := rfl
theorem FZ_one (p : Int) (u : Value) (h : u ∈ FZ p) : u.oneCell' = true := by simp [FZ] at h; subst h; rfl
theorem Try.eZ : Elem Try.prog 24 3 (.int .i64 0) 1 8 := ⟨Try.underlying24, by kernel_rfl, rfl, by decide⟩
abbrev FB (b : Bool) : List Value := [.bool b]
theorem FB_len (x : Bool) : (FB x).length = 1 := rfl
theorem FB_one (p : Bool) (u : Value) (h : u ∈ FB p) : u.oneCell' = true := by simp [FB] at h; subst h; rfl
theorem Try.eB : Elem Try.prog 36 4 (.bool false) 1 1 := ⟨Try.underlying36, by kernel_rfl, rfl, by decide⟩
abbrev FD (x : Nd) : List Value := [.int .i64 x.who, .bool x.all, .slice x.a x.n x.c]
theorem FD_len (x : Nd) : (FD x).length = 3 := rfl
theorem FD_one (p : Nd) (u : Value) (h : u ∈ FD p) : u.oneCell' = true := by simp [FD] at h; rcases h with rfl | rfl | rfl <;> rfl
theorem Try.kN : KeyT Try.prog 3 natV natL (fun n => n < 4611686018427387904) := natT Try.underlying3
abbrev mapB (b : Nat) (ms : List (Nat × Nat)) : Hp := Hp.map Try.prog 3 natL natV b ms
/-- needs, read in memory -/
structure NdS (W : World) (v : Value) (l : List Nd) : Prop where
  sl : SlS FD 3 W v l
  fr : ∀ x ∈ l, SlS FZ 1 W (.slice x.a x.n x.c) x.fr
theorem NdS.below {W w : World} {v : Value} {l : List Nd} (h : NdS W v l) (hb : Below W.heap.size W w) : NdS w v l := ⟨h.sl.below hb, fun x hx => (h.fr x hx).below hb⟩
end Go.Proofs.Ytplcflifofomjaa
