/- Histories, orders of them, and the first one, in plain words. No condition. -/
import Derived.Test.YtjiefamdpbnngaaT
import Derived.Test.YtjiefamdpbnngaaX10
namespace Go.Proofs.Ytjiefamdpbnngaa.Lin
open Go.RowKit
set_option linter.unusedVariables false
set_option linter.unusedSimpArgs false
set_option maxRecDepth 100000

structure Op where
  (who reg : Int)
  write : Bool
  (val fr to : Int)
abbrev FO (e : Op) : List Value := [.int .i64 e.who, .int .i64 e.reg, .bool e.write, .int .i64 e.val, .int .i64 e.fr, .int .i64 e.to]
abbrev FN (i : Nat) : List Value := [.int .i64 ((i : Nat) : Int)]
abbrev FZ (i : Int) : List Value := [.int .i64 i]
theorem FO_len (c : Op) : (FO c).length = 6 := rfl
theorem FN_len (c : Nat) : (FN c).length = 1 := rfl
theorem FZ_len (c : Int) : (FZ c).length = 1 := rfl
theorem FN_one (p : Nat) (u : Value) (h : u ∈ FN p) : u.oneCell' = true := by simp [FN] at h; subst h; rfl
theorem FZ_one (p : Int) (u : Value) (h : u ∈ FZ p) : u.oneCell' = true := by simp [FZ] at h; subst h; rfl
theorem FO_one (p : Op) (u : Value) (h : u ∈ FO p) : u.oneCell' = true := by simp [FO] at h; rcases h with rfl | rfl | rfl | rfl | rfl | rfl <;> rfl
theorem Try.eN : Elem Try.prog 38 3 (.int .i64 0) 1 8 := ⟨Try.underlying38, by kernel_rfl, rfl, by decide⟩
theorem Try.eO : Elem Try.prog 26 33 (.agg #[.int .i64 0, .int .i64 0, .bool false, .int .i64 0, .int .i64 0, .int .i64 0]) 6 48 := ⟨Try.underlying26, by kernel_rfl, rfl, by decide⟩

def aheadB (a b : Op) : Bool := decide (0 ≤ a.to) && decide (a.to < b.fr)
theorem aheadB_iff {a b : Op} : aheadB a b = true ↔ 0 ≤ a.to ∧ a.to < b.fr := by simp [aheadB]
structure OkH (h : List Op) : Prop where
  len : h.length ≤ 8
  reg : ∀ (i : Nat) (a : Op), h[i]? = some a → 0 ≤ a.reg ∧ a.reg < 4 ∧ 0 ≤ a.fr ∧ (a.to = -1 ∨ a.fr < a.to)
  two : ∀ (i j : Nat) (a b : Op), h[i]? = some a → h[j]? = some b → i ≠ j → a.who = b.who → aheadB a b = true ∨ aheadB b a = true

def updR (R : Nat → Int) (j : Nat) (v : Int) : Nat → Int := fun k => if k = j then v else R k
def stepR (R : Nat → Int) (a : Op) : Nat → Int := if a.write = true then updR R a.reg.toNat a.val else R
def goR (h : List Op) (R : Nat → Int) (i : Nat) : Nat → Int := match h[i]? with | some a => stepR R a | none => R
def regsL (h : List Op) (l : List Nat) : Nat → Int := l.foldl (goR h) (fun _ => 0)
theorem regsL_snoc {h : List Op} {l : List Nat} {i : Nat} {a : Op} (hi : h[i]? = some a) : regsL h (l ++ [i]) = stepR (regsL h l) a := by
  unfold regsL; rw [List.foldl_append]; simp [goR, hi]

def fullB (h : List Op) (l : List Nat) : Bool := (List.range h.length).all fun i => match h[i]? with | some a => !(decide (0 ≤ a.to)) || decide (i ∈ l) | none => true
theorem fullB_iff {h : List Op} {l : List Nat} : fullB h l = true ↔ ∀ (i : Nat) (a : Op), h[i]? = some a → 0 ≤ a.to → i ∈ l := by
  unfold fullB
  rw [List.all_eq_true]
  constructor
  · intro H i a hi h0
    have := H i (List.mem_range.2 (List.getElem?_eq_some_iff.1 hi).1)
    simpa [hi, h0] using this
  · intro H i hi
    obtain ⟨a, ha⟩ := get_of_lt (List.mem_range.1 hi)
    rw [ha]
    by_cases h0 : 0 ≤ a.to
    · simp [H i a ha h0]
    · simp [h0]
def mayB (h : List Op) (l : List Nat) (i : Nat) : Bool := !decide (i ∈ l) && match h[i]? with
  | some a => (a.write || (decide (0 ≤ a.to) && decide (regsL h l a.reg.toNat = a.val))) && (List.range h.length).all fun j => match h[j]? with | some b => decide (j ∈ l) || !aheadB b a | none => true
  | none => false
theorem mayB_iff {h : List Op} {l : List Nat} {i : Nat} {a : Op} (hi : h[i]? = some a) : mayB h l i = true ↔ ¬ i ∈ l ∧ (a.write = true ∨ (0 ≤ a.to ∧ regsL h l a.reg.toNat = a.val)) ∧ ∀ (j : Nat) (b : Op), h[j]? = some b → ¬ j ∈ l → ¬ aheadB b a = true := by
  unfold mayB
  rw [hi]
  simp only [Bool.and_eq_true, Bool.not_eq_true', decide_eq_false_iff_not, Bool.or_eq_true, decide_eq_true_eq]
  refine and_congr_right fun _ => and_congr_right fun _ => ?_
  rw [List.all_eq_true]
  constructor
  · intro H j b hj hn hab
    have := H j (List.mem_range.2 (List.getElem?_eq_some_iff.1 hj).1)
    rw [hj] at this
    simp [hn, hab] at this
  · intro H j hj
    obtain ⟨b, hb⟩ := get_of_lt (List.mem_range.1 hj)
    rw [hb]
    by_cases hm : j ∈ l
    · simp [hm]
    · have := H j b hb hm
      simp [hm, this]
theorem mayB_lt {h : List Op} {l : List Nat} {i : Nat} (H : mayB h l i = true) : i < h.length ∧ ¬ i ∈ l := by
  unfold mayB at H
  cases e : h[i]? with
  | none => rw [e] at H; simp at H
  | some a => rw [e] at H; simp at H; exact ⟨(List.getElem?_eq_some_iff.1 e).1, H.1⟩

def findL (h : List Op) : Nat → List Nat → Option (List Nat)
  | 0, l => some l
  | n + 1, l => if fullB h l = true then some l else (List.range h.length).findSome? fun i => if mayB h l i = true then findL h n (l ++ [i]) else none
def FL (h : List Op) (l : List Nat) : Option (List Nat) := findL h (h.length - l.length) l
structure Gd (h : List Op) (l : List Nat) : Prop where
  nd : l.Nodup
  lt : ∀ i ∈ l, i < h.length
theorem Gd.nil (h : List Op) : Gd h [] := ⟨List.nodup_nil, fun i hi => by cases hi⟩
theorem nodup_len : ∀ (n : Nat) (l : List Nat), l.Nodup → (∀ i ∈ l, i < n) → l.length ≤ n
  | 0, l, _, hl => by
    cases l with
    | nil => simp
    | cons a l => have := hl a (by simp); omega
  | n + 1, l, hn, hl => by
    have h1 := nodup_len n (l.erase n) (hn.erase n) (fun i hi => by
      have h2 := hl i (List.mem_of_mem_erase hi)
      have h3 : i ≠ n := fun e => by subst e; exact absurd hi (hn.not_mem_erase)
      omega)
    have h2 : l.length ≤ (l.erase n).length + 1 := by
      by_cases hm : n ∈ l
      · rw [List.length_erase_of_mem hm]; omega
      · rw [List.erase_of_not_mem hm]; omega
    omega
theorem Gd.len {h : List Op} {l : List Nat} (G : Gd h l) : l.length ≤ h.length := by exact nodup_len _ _ G.nd G.lt
theorem Gd.snoc {h : List Op} {l : List Nat} {i : Nat} (G : Gd h l) (hi : i < h.length) (hn : ¬ i ∈ l) : Gd h (l ++ [i]) :=
  ⟨List.nodup_append.2 ⟨G.nd, by simp, fun a ha b hb => by simp at hb; subst hb; exact fun e => hn (e ▸ ha)⟩, fun j hj => by
    rcases List.mem_append.1 hj with h1 | h1
    · exact G.lt j h1
    · simp at h1; omega⟩
theorem Gd.all {h : List Op} {l : List Nat} (G : Gd h l) (hl : l.length = h.length) {i : Nat} (hi : i < h.length) : i ∈ l := by
  refine Classical.byContradiction fun hn => ?_
  have := (G.snoc hi hn).len
  simp at this; omega
theorem FL_eq {h : List Op} {l : List Nat} (G : Gd h l) : FL h l = if fullB h l = true then some l else (List.range h.length).findSome? fun i => if mayB h l i = true then FL h (l ++ [i]) else none := by
  unfold FL
  have := G.len
  cases e : h.length - l.length with
  | zero =>
    have hf : fullB h l = true := fullB_iff.2 fun i a hi _ => G.all (by omega) (List.getElem?_eq_some_iff.1 hi).1
    rw [if_pos hf]; rfl
  | succ n =>
    rw [findL]
    have : (fun i => if mayB h l i = true then findL h n (l ++ [i]) else none) = fun i => if mayB h l i = true then findL h (h.length - (l ++ [i]).length) (l ++ [i]) else none := funext fun i => by
      rw [show h.length - (l ++ [i]).length = n by simp; omega]
    rw [this]
end Go.Proofs.Ytjiefamdpbnngaa.Lin
