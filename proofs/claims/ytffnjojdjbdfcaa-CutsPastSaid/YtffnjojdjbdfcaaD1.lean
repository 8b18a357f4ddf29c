/- Events and cuts, in plain words. No condition. -/
import Derived.Test.YtffnjojdjbdfcaaT
import Derived.Test.YtffnjojdjbdfcaaX12
import Derived.Test.YtffnjojdjbdfcaaA2
namespace Go.Proofs.Ytffnjojdjbdfcaa
open Go.RowKit
set_option linter.unusedVariables false
set_option linter.unusedSimpArgs false
set_option maxRecDepth 100000

structure En where
  kind : Int
  who : Nat
  src : Int
def En.raw (e : En) : Ev := ⟨e.kind, e.who, e.src⟩
abbrev FEn (e : En) : List Value := [.int .i64 e.kind, .int .i64 ((e.who : Nat) : Int), .int .i64 e.src]
abbrev FN (i : Nat) : List Value := [.int .i64 ((i : Nat) : Int)]
abbrev FZ (i : Int) : List Value := [.int .i64 i]
abbrev FB (b : Bool) : List Value := [.bool b]
structure Rw where
  a : Option Addr
  (n c : Nat)
  xs : List Nat
abbrev FW (r : Rw) : List Value := [.slice r.a r.n r.c]
theorem FEn_len (c : En) : (FEn c).length = 3 := rfl
theorem FN_len (c : Nat) : (FN c).length = 1 := rfl
theorem FZ_len (c : Int) : (FZ c).length = 1 := rfl
theorem FB_len (c : Bool) : (FB c).length = 1 := rfl
theorem FW_len (c : Rw) : (FW c).length = 1 := rfl
theorem FW_one (p : Rw) (u : Value) (h : u ∈ FW p) : u.oneCell' = true := by simp [FW] at h; subst h; rfl
theorem FN_one (p : Nat) (u : Value) (h : u ∈ FN p) : u.oneCell' = true := by simp [FN] at h; subst h; rfl
theorem FZ_one (p : Int) (u : Value) (h : u ∈ FZ p) : u.oneCell' = true := by simp [FZ] at h; subst h; rfl
theorem FB_one (p : Bool) (u : Value) (h : u ∈ FB p) : u.oneCell' = true := by simp [FB] at h; subst h; rfl
theorem Try.eN : Elem Try.prog 23 3 (.int .i64 0) 1 8 := ⟨Try.underlying23, by kernel_rfl, rfl, by decide⟩
theorem Try.eB : Elem Try.prog 50 4 (.bool false) 1 1 := ⟨Try.underlying50, by kernel_rfl, rfl, by decide⟩
/-- how many of the first k are p's -/
def cntL (l : List En) (p k : Nat) : Nat := ((l.take k).filter (fun e => decide (e.who = p))).length
def ofL (l : List En) (p k : Nat) : List Nat := (List.range k).filter (fun i => match l[i]? with | some e => decide (e.who = p) | none => false)
structure OkC (n : Nat) (l : List En) : Prop where
  low : 1 ≤ n
  high : n ≤ 6
  few : l.length ≤ 60
  all : ∀ (i : Nat) (e : En), l[i]? = some e → (e.kind = 1 ∨ e.kind = 2 ∨ e.kind = 3) ∧ e.who < n ∧ (e.kind = 3 → 0 ≤ e.src ∧ e.src.toNat < i ∧ ∃ s, l[e.src.toNat]? = some s)
theorem raw_of {n : Nat} {r : List Ev} (h : OkE n r) : ∃ l : List En, r = l.map En.raw ∧ OkC n l := by
  have hlow := h.low
  have hhigh := h.high
  refine ⟨r.map fun a => ⟨a.kind, a.who.toNat, a.src⟩, ?_, ⟨by omega, by omega, by rw [List.length_map]; exact h.few, fun i a hi => ?_⟩⟩
  · rw [List.map_map]
    conv => lhs; rw [← List.map_id r]
    refine List.map_congr_left fun a ha => ?_
    obtain ⟨i, hi⟩ := List.getElem?_of_mem ha
    have := (h.all i a hi).2.1
    obtain ⟨k, t, m⟩ := a
    simp only [Function.comp, En.raw, id]
    simp at this
    rw [Int.toNat_of_nonneg this]
  · rw [List.getElem?_map] at hi
    cases e : r[i]? with
    | none => rw [e] at hi; cases hi
    | some b =>
      rw [e] at hi; cases hi
      obtain ⟨h1, h2, h3, h4⟩ := h.all i b e
      refine ⟨h1, by simp; omega, fun hk => ?_⟩
      obtain ⟨j, s, e1, e2, e3, _⟩ := h4 hk
      simp only
      rw [e1]
      refine ⟨by omega, by simpa using e2, ⟨s.kind, s.who.toNat, s.src⟩, ?_⟩
      rw [Int.toNat_natCast, List.getElem?_map, e3]; rfl
theorem ok_raw {n : Nat} {l : List En} (h : OkE n (l.map En.raw)) : OkC n l := by
  have hlow := h.low
  have hhigh := h.high
  refine ⟨by omega, by omega, by have := h.few; rwa [List.length_map] at this, fun i e hi => ?_⟩
  obtain ⟨h1, h2, h3, h4⟩ := h.all i e.raw (by rw [List.getElem?_map, hi]; rfl)
  refine ⟨h1, by simp only [En.raw] at h3; omega, fun hk => ?_⟩
  obtain ⟨j, s, e1, e2, e3, _⟩ := h4 hk
  simp only [En.raw] at e1
  rw [e1, Int.toNat_natCast]
  rw [List.getElem?_map] at e3
  cases q : l[j]? with
  | none => rw [q] at e3; cases e3
  | some t => exact ⟨by omega, e2, t, rfl⟩
theorem sls_raw {w : World} {v : Value} {l : List En} : SlS FE 3 w v (l.map En.raw) ↔ SlS FEn 3 w v l := by
  constructor
  · rintro ⟨a, c, e, hm, hn, hc⟩
    rw [List.length_map] at e hm hn
    exact ⟨a, c, e, hm, hn, fun j x hx => hc j x.raw (by rw [List.getElem?_map, hx]; rfl)⟩
  · rintro ⟨a, c, e, hm, hn, hc⟩
    refine ⟨a, c, by rw [List.length_map]; exact e, by rw [List.length_map]; exact hm, by rw [List.length_map]; exact hn, fun j x hx => ?_⟩
    rw [List.getElem?_map] at hx
    cases e2 : l[j]? with
    | none => rw [e2] at hx; cases hx
    | some y => rw [e2] at hx; cases hx; exact hc j y e2
theorem sls_nat {w : World} {v : Value} {ms : List Nat} : SlS FN 1 w v ms ↔ SlS FZ 1 w v (ms.map (Nat.cast : Nat → Int)) := by
  constructor
  · rintro ⟨a, c, e, hm, hn, hc⟩
    refine ⟨a, c, by rw [List.length_map]; exact e, by rw [List.length_map]; exact hm, by rw [List.length_map]; exact hn, fun j x hx => ?_⟩
    rw [List.getElem?_map] at hx
    cases e2 : ms[j]? with
    | none => rw [e2] at hx; cases hx
    | some y => rw [e2] at hx; cases hx; exact hc j y e2
  · rintro ⟨a, c, e, hm, hn, hc⟩
    rw [List.length_map] at e hm hn
    exact ⟨a, c, e, hm, hn, fun j x hx => hc j (x : Int) (by rw [List.getElem?_map, hx]; rfl)⟩
theorem cnt_succ {l : List En} {p k : Nat} {e : En} (h : l[k]? = some e) : cntL l p (k + 1) = cntL l p k + (if e.who = p then 1 else 0) := by
  unfold cntL
  rw [take_of h, List.filter_append, List.length_append]
  by_cases q : e.who = p <;> simp [q]
theorem of_succ {l : List En} {p k : Nat} {e : En} (h : l[k]? = some e) : ofL l p (k + 1) = ofL l p k ++ (if e.who = p then [k] else []) := by
  unfold ofL
  rw [List.range_succ, List.filter_append]
  by_cases q : e.who = p <;> simp [h, q]
theorem of_len {l : List En} {p : Nat} : ∀ {k : Nat}, k ≤ l.length → (ofL l p k).length = cntL l p k
  | 0, _ => by simp [ofL, cntL]
  | k + 1, hk => by
    obtain ⟨e, he⟩ := get_of_lt (xs := l) (k := k) (by omega)
    rw [of_succ he, cnt_succ he, List.length_append, of_len (k := k) (by omega)]
    by_cases q : e.who = p <;> simp [q]
theorem cnt_le (l : List En) (p k : Nat) : cntL l p k ≤ k := Nat.le_trans (List.length_filter_le ..) (by rw [List.length_take]; omega)
theorem cnt_mono {l : List En} {p j k : Nat} (h : j ≤ k) : cntL l p j ≤ cntL l p k := by
  unfold cntL
  rw [show l.take j = (l.take k).take j by rw [List.take_take, Nat.min_eq_left h]]
  exact List.Sublist.length_le (List.Sublist.filter _ (List.take_sublist ..))
/-- the events of p, one by one -/
theorem of_get {l : List En} {p : Nat} : ∀ {k i : Nat} {e : En}, k ≤ l.length → i < k → l[i]? = some e → e.who = p → (ofL l p k)[cntL l p i]? = some i
  | 0, i, e, _, h, _, _ => by omega
  | k + 1, i, e, hk, h, he, hp => by
    obtain ⟨e', he'⟩ := get_of_lt (xs := l) (k := k) (by omega)
    rw [of_succ he']
    rcases Nat.lt_or_eq_of_le (Nat.le_of_lt_succ h) with h1 | rfl
    · have h2 := of_get (k := k) (by omega) h1 he hp
      rw [List.getElem?_append_left (List.getElem?_eq_some_iff.1 h2).1]; exact h2
    · cases he.symm.trans he'
      rw [if_pos hp, List.getElem?_append_right (by rw [of_len (by omega)]; exact Nat.le_refl _), of_len (by omega), Nat.sub_self]; rfl
theorem of_inv {l : List En} {p : Nat} : ∀ {k q i : Nat}, k ≤ l.length → (ofL l p k)[q]? = some i → i < k ∧ (∃ e, l[i]? = some e ∧ e.who = p) ∧ cntL l p i = q
  | 0, q, i, _, h => by simp [ofL] at h
  | k + 1, q, i, hk, h => by
    obtain ⟨e', he'⟩ := get_of_lt (xs := l) (k := k) (by omega)
    rw [of_succ he'] at h
    rcases Nat.lt_or_ge q (ofL l p k).length with h1 | h1
    · rw [List.getElem?_append_left h1] at h
      obtain ⟨h2, h3⟩ := of_inv (k := k) (by omega) h
      exact ⟨by omega, h3⟩
    · rw [List.getElem?_append_right h1] at h
      split at h
      · rename_i hp
        have := (List.getElem?_eq_some_iff.1 h).1
        simp at this
        rw [show q - (ofL l p k).length = 0 by omega] at h
        simp at h
        subst h
        rw [of_len (by omega)] at h1 this
        exact ⟨by omega, ⟨e', he', hp⟩, by omega⟩
      · simp at h
/-- a cut: how many of each one's events -/
structure Cut (n : Nat) (l : List En) (c : List Nat) : Prop where
  len : c.length = n
  le : ∀ (p k : Nat), c[p]? = some k → k ≤ cntL l p l.length
/-- is an event in a cut? -/
def inC (l : List En) (c : List Nat) (i : Nat) : Prop := ∃ e, l[i]? = some e ∧ cntL l e.who i < c.getD e.who 0
def Whole (l : List En) (c : List Nat) : Prop := ∀ (i : Nat) (e : En), l[i]? = some e → e.kind = 3 → inC l c i → inC l c e.src.toNat
def LeC (a b : List Nat) : Prop := ∀ p, a.getD p 0 ≤ b.getD p 0
end Go.Proofs.Ytffnjojdjbdfcaa
