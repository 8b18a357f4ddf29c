/- The first that; is there one; a copy; what comes once; what is not struck. The walks. No condition. -/
import Derived.Test.YtpjkpnfelpfhaaaS26
import Derived.Test.YtpjkpnfelpfhaaaW2
namespace Go.Proofs.Ytpjkpnfelpfhaaa
open Go.RowKit
set_option linter.unusedVariables false
set_option linter.unusedSimpArgs false
set_option maxRecDepth 100000

def fst {α : Type} (q : α → Bool) : List α → Nat
  | [] => 0
  | x :: l => if q x = true then 0 else fst q l + 1
theorem fst_le {α : Type} (q : α → Bool) : ∀ l, fst q l ≤ l.length
  | [] => Nat.le_refl _
  | x :: l => by simp only [fst]; split <;> simp; exact fst_le q l
theorem fst_at {α : Type} {q : α → Bool} : ∀ {l : List α} {k : Nat} {x : α}, l[k]? = some x → k ≤ fst q l → (q x = true → fst q l = k) ∧ (q x = false → k + 1 ≤ fst q l)
  | [], k, x, h, _ => by simp at h
  | c :: l, 0, x, h, _ => by
    simp at h; subst h
    simp only [fst]
    exact ⟨fun h => by rw [if_pos h], fun h => by rw [if_neg (by rw [h]; decide)]; omega⟩
  | c :: l, k + 1, x, h, hk => by
    simp only [fst] at hk ⊢
    split at hk
    · omega
    · rename_i hc
      rw [if_neg hc]
      obtain ⟨h1, h2⟩ := fst_at (q := q) (l := l) (k := k) (x := x) (by simpa using h) (by omega)
      exact ⟨fun z => by rw [h1 z], fun z => by have := h2 z; omega⟩
theorem fst_any {α : Type} (q : α → Bool) : ∀ l : List α, decide (fst q l < l.length) = l.any q
  | [] => rfl
  | x :: l => by
    have ih := fst_any q l
    by_cases h : q x = true
    · simp [fst, h]
    · simp only [fst, List.any_cons, if_neg h, List.length_cons, Nat.add_lt_add_iff_right]
      rw [ih]; simp at h; rw [h]; rfl
def idxI (q : Nat → Bool) (xs : List Nat) : Int := if fst q xs < xs.length then ((fst q xs : Nat) : Int) else -1
abbrev idxV (q : Nat → Bool) (xs : List Nat) : Value := .int .i64 (idxI q xs)
theorem fst_filter {α : Type} (q : α → Bool) : ∀ xs : List α, fst q xs < xs.length → (xs.take (fst q xs + 1)).filter (fun x => !q x) = xs.take (fst q xs)
  | [], h => absurd h (Nat.not_lt_zero _)
  | x :: l, h => by
    by_cases hx : q x = true
    · simp [fst, hx]
    · simp only [fst, if_neg hx, List.length_cons] at h ⊢
      rw [List.take_succ_cons, List.take_succ_cons, List.filter_cons_of_pos (by simp; simpa using hx), fst_filter q l (by omega)]
theorem fst_all {α : Type} (q : α → Bool) : ∀ xs : List α, ¬ fst q xs < xs.length → xs.filter (fun x => !q x) = xs
  | [], _ => rfl
  | x :: l, h => by
    by_cases hx : q x = true
    · simp [fst, hx] at h
    · simp only [fst, if_neg hx, List.length_cons] at h
      rw [List.filter_cons_of_pos (by simp; simpa using hx), fst_all q l (by omega)]
theorem take_snoc9 {xs : List Nat} {i x : Nat} (h : xs[i]? = some x) : xs.take (i + 1) = xs.take i ++ [x] := by rw [List.take_add_one, h]; rfl
theorem set_take9 {ys : List Nat} {i x : Nat} (hi : i < ys.length) : (ys.set i x).take (i + 1) = ys.take i ++ [x] := by
  rw [take_snoc9 (x := x) (by rw [List.getElem?_set_self hi]), List.take_set_of_le (Nat.le_refl _)]
/-- neighbours alike but once -/
def cmL (xs : List Nat) : Nat → List Nat
  | 0 => []
  | n + 1 => if 0 < n ∧ xs[n - 1]? = xs[n]? then cmL xs n else cmL xs n ++ (xs[n]?).toList
theorem cmL_new {xs : List Nat} {n x : Nat} (hx : xs[n]? = some x) (h : n = 0 ∨ xs[n - 1]? ≠ some x) : cmL xs (n + 1) = cmL xs n ++ [x] := by
  rw [cmL, if_neg (fun q => by rcases h with h | h; omega; exact h (q.2.trans hx)), hx]; rfl
theorem cmL_old {xs : List Nat} {n x : Nat} (hn : 0 < n) (hx : xs[n]? = some x) (h : xs[n - 1]? = some x) : cmL xs (n + 1) = cmL xs n := by rw [cmL, if_pos ⟨hn, h.trans hx.symm⟩]
theorem cmL_short : ∀ {xs : List Nat}, xs.length < 2 → cmL xs xs.length = xs
  | [], _ => rfl
  | [x], _ => by simp [cmL]
  | x :: y :: l, h => by simp only [List.length_cons] at h; omega
theorem cmL_len (xs : List Nat) : ∀ n, (cmL xs n).length ≤ n
  | 0 => Nat.le_refl _
  | n + 1 => by
    have := cmL_len xs n
    rw [cmL]
    split
    · omega
    · rw [List.length_append]
      cases xs[n]? <;> simp <;> omega
theorem index_any30 {W : World} {wv : Value} {xs : List Nat} {q : Nat → Bool} {b1 : Nat} (hx : SlS FU 1 W wv xs) (hq : ∀ w', Below W.heap.size W w' → ∀ x ∈ xs, Calls Try.prog 30 #[.int .u32 ((x : Nat) : Int), ptr b1 0] w' fun e w2 => e = .returned (.bool (q x)) ∧ Below w'.heap.size w' w2) :
    Calls Try.prog 38 #[wv, .func (.func 30) #[] #[ptr b1 0]] W fun e w' => e = .returned (idxV q xs) ∧ Below W.heap.size W w' := by
  have m1 := sls_bd hx
  refine calls_pure (Gx.enter (l := []) Try.func38 rfl Try.ntmps38 rfl (Sat.start W) ?_)
  refine Gx.know (m' := [(0, wv), (1, .func (.func 30) #[] #[ptr b1 0])]) (.cons rfl (.cons rfl .nil)) ?_
  refine Gx.seq ?_
  refine Gx.region ?_
  refine Gx.val rfl rfl rfl (val_assign rfl rfl) ?_
  refine Gx.done ?_
  refine Gx.thenN ?_
  refine Gx.seq ?_
  refine Gx.seq ?_
  refine Gx.region ?_
  refine Gx.val rfl rfl rfl (val_move rfl rfl) ?_
  refine Gx.val rfl rfl rfl (val_len rfl Try.underlying22 rfl (len_base hx)) ?_
  refine Gx.val rfl rfl rfl (val_move rfl rfl) ?_
  refine Gx.done ?_
  refine Gx.thenN ?_
  refine Gx.block ?_
  refine Gx.loop (ι := Nat) (fun ξ => (ξ ≤ fst q xs)) (fun ξ => [(0, wv), (1, .func (.func 30) #[] #[ptr b1 0]), (6, wv), (7, .int .i64 ((xs.length : Nat) : Int)), (8, .int .i64 ((ξ : Nat) : Int))]) (fun ξ => []) (fun ξ => xs.length - ξ) 0 (Nat.zero_le _) ((.cons rfl (.cons rfl (.cons rfl (.cons rfl (.cons rfl .nil)))))) rfl ?_
  rintro k hk
  refine Gx.know (m' := [(0, wv), (1, .func (.func 30) #[] #[ptr b1 0]), (6, wv), (7, .int .i64 ((xs.length : Nat) : Int)), (8, .int .i64 ((k : Nat) : Int))]) (.cons rfl (.cons rfl (.cons rfl (.cons rfl (.cons rfl .nil))))) (Gx.norm (l' := []) rfl ?_)
  refine Gx.seq ?_
  refine Gx.region ?_
  refine Gx.val rfl rfl rfl (val_lss rfl rfl rfl) ?_
  refine Gx.done ?_
  refine Gx.thenN ?_
  refine Gx.seq ?_
  refine Gx.dec rfl (fun h1 => ?_) (fun h1 => ?_)
  · refine Gx.skip ?_
    refine Gx.thenN ?_
    refine Gx.seq ?_
    refine Gx.block ?_
    refine Gx.seq ?_
    refine Gx.region ?_
    refine Gx.val rfl rfl rfl (val_move rfl rfl) ?_
    refine Gx.val rfl rfl rfl (val_assign rfl rfl) ?_
    refine Gx.done ?_
    refine Gx.thenN ?_
    refine Gx.seq ?_
    refine Gx.region ?_
    refine Gx.val rfl rfl rfl (val_move rfl rfl) ?_
    refine Gx.val rfl rfl rfl (val_move rfl rfl) ?_
    refine Gx.val rfl rfl rfl (val_move rfl rfl) ?_
    obtain ⟨x2, hx2⟩ := get_of_lt (xs := xs) (k := k) (by omega)
    refine Gx.val rfl rfl rfl (val_ixa rfl Try.underlying22 Try.ty28 rfl rfl (j := k) (rfl) (reach_base hx hx2)) ?_
    refine Gx.val rfl rfl rfl (val_load rfl Try.ty28 rfl rfl (cell_base (i := 0) hx hx2 rfl)) ?_
    refine Gx.val rfl rfl rfl (val_callV (vs := [.int .u32 ((x2 : Nat) : Int)]) (fs := []) (cs := [ptr b1 0]) rfl Try.fn30 rfl rfl (fun w H => hq w H.below x2 (List.mem_of_getElem? hx2))) ?_
    refine Gx.done ?_
    refine Gx.thenN ?_
    refine Gx.bool rfl (fun h3 => ?_) (fun h3 => ?_)
    · refine Gx.seq ?_
      refine Gx.region ?_
      refine Gx.val rfl rfl rfl (val_move rfl rfl) ?_
      refine Gx.val rfl rfl rfl (val_assign rfl rfl) ?_
      refine Gx.done ?_
      refine Gx.thenN ?_
      refine Gx.ret ?_
      refine Gx.blkR ?_
      refine Gx.thenR ?_
      refine Gx.thenR ?_
      refine Gx.blkR ?_
      refine Gx.thenR ?_
      refine Gx.ret1 Try.results38 rfl ?_
      have h9 := (fst_at hx2 hk).1 h3
      have h8 := (List.getElem?_eq_some_iff.1 hx2).1
      exact (by unfold idxV idxI; rw [if_pos (by omega), h9])
    · refine Gx.skip ?_
      refine Gx.blkN ?_
      refine Gx.thenN ?_
      refine Gx.region ?_
      refine Gx.val rfl rfl rfl (val_add rfl rfl rfl (r := ((k + 1 : Nat) : Int)) (w64 (by omega) (by omega))) ?_
      refine Gx.val rfl rfl rfl (val_move rfl rfl) ?_
      refine Gx.done ?_
      refine Gx.thenN ?_
      exact Gx.round (k + 1) ((fst_at hx2 hk).2 (by simpa using h3)) (by first | omega | (dsimp only; omega)) ((.cons rfl (.cons rfl (.cons rfl (.cons rfl (.cons rfl .nil)))))) rfl
  · refine Gx.exit ?_
    refine Gx.thenE ?_
    refine Gx.thenE ?_
    refine Gx.blkE ?_
    refine Gx.thenN ?_
    refine Gx.seq ?_
    refine Gx.region ?_
    refine Gx.val rfl rfl rfl (val_assign rfl rfl) ?_
    refine Gx.done ?_
    refine Gx.thenN ?_
    refine Gx.ret ?_
    refine Gx.ret1 Try.results38 rfl ?_
    have h9 := fst_le q xs
    exact (by unfold idxV idxI; rw [if_neg (by omega)])

theorem contains_any30 {W : World} {wv : Value} {xs : List Nat} {q : Nat → Bool} {b1 : Nat} (hx : SlS FU 1 W wv xs) (hq : ∀ w', Below W.heap.size W w' → ∀ x ∈ xs, Calls Try.prog 30 #[.int .u32 ((x : Nat) : Int), ptr b1 0] w' fun e w2 => e = .returned (.bool (q x)) ∧ Below w'.heap.size w' w2) :
    Calls Try.prog 27 #[wv, .func (.func 30) #[] #[ptr b1 0]] W fun e w' => e = .returned (.bool (xs.any q)) ∧ Below W.heap.size W w' := by
  refine calls_pure (Gx.enter (l := []) Try.func27 rfl Try.ntmps27 rfl (Sat.start W) ?_)
  refine Gx.know (m' := [(0, wv), (1, .func (.func 30) #[] #[ptr b1 0])]) (.cons rfl (.cons rfl .nil)) ?_
  refine Gx.seq ?_
  refine Gx.region ?_
  refine Gx.val rfl rfl rfl (val_assign rfl rfl) ?_
  refine Gx.done ?_
  refine Gx.thenN ?_
  refine Gx.seq ?_
  refine Gx.region ?_
  refine Gx.val rfl rfl rfl (val_move rfl rfl) ?_
  refine Gx.val rfl rfl rfl (val_move rfl rfl) ?_
  refine Gx.val rfl rfl rfl (val_call (vs := [wv, .func (.func 30) #[] #[ptr b1 0]]) rfl Try.fn38 rfl (fun w H => index_any30 (hx.below H.below) (fun w' hb x hx' => hq w' (H.below.trans (hb.mono H.size)) x hx'))) ?_
  refine Gx.val rfl rfl rfl (val_geq rfl rfl rfl) ?_
  refine Gx.val rfl rfl rfl (val_assign rfl rfl) ?_
  refine Gx.done ?_
  refine Gx.thenN ?_
  refine Gx.ret ?_
  refine Gx.ret1 Try.results27 rfl ?_
  exact congrArg Value.bool (by rw [← fst_any, decide_eq_decide]; unfold idxI; split <;> omega)

theorem index_any36 {W : World} {wv : Value} {xs : List Nat} {q : Nat → Bool} {b1 : Nat} (hx : SlS FU 1 W wv xs) (hq : ∀ w', Below W.heap.size W w' → ∀ x ∈ xs, Calls Try.prog 36 #[.int .u32 ((x : Nat) : Int), ptr b1 0] w' fun e w2 => e = .returned (.bool (q x)) ∧ Below w'.heap.size w' w2) :
    Calls Try.prog 38 #[wv, .func (.func 36) #[] #[ptr b1 0]] W fun e w' => e = .returned (idxV q xs) ∧ Below W.heap.size W w' := by
  have m1 := sls_bd hx
  refine calls_pure (Gx.enter (l := []) Try.func38 rfl Try.ntmps38 rfl (Sat.start W) ?_)
  refine Gx.know (m' := [(0, wv), (1, .func (.func 36) #[] #[ptr b1 0])]) (.cons rfl (.cons rfl .nil)) ?_
  refine Gx.seq ?_
  refine Gx.region ?_
  refine Gx.val rfl rfl rfl (val_assign rfl rfl) ?_
  refine Gx.done ?_
  refine Gx.thenN ?_
  refine Gx.seq ?_
  refine Gx.seq ?_
  refine Gx.region ?_
  refine Gx.val rfl rfl rfl (val_move rfl rfl) ?_
  refine Gx.val rfl rfl rfl (val_len rfl Try.underlying22 rfl (len_base hx)) ?_
  refine Gx.val rfl rfl rfl (val_move rfl rfl) ?_
  refine Gx.done ?_
  refine Gx.thenN ?_
  refine Gx.block ?_
  refine Gx.loop (ι := Nat) (fun ξ => (ξ ≤ fst q xs)) (fun ξ => [(0, wv), (1, .func (.func 36) #[] #[ptr b1 0]), (6, wv), (7, .int .i64 ((xs.length : Nat) : Int)), (8, .int .i64 ((ξ : Nat) : Int))]) (fun ξ => []) (fun ξ => xs.length - ξ) 0 (Nat.zero_le _) ((.cons rfl (.cons rfl (.cons rfl (.cons rfl (.cons rfl .nil)))))) rfl ?_
  rintro k hk
  refine Gx.know (m' := [(0, wv), (1, .func (.func 36) #[] #[ptr b1 0]), (6, wv), (7, .int .i64 ((xs.length : Nat) : Int)), (8, .int .i64 ((k : Nat) : Int))]) (.cons rfl (.cons rfl (.cons rfl (.cons rfl (.cons rfl .nil))))) (Gx.norm (l' := []) rfl ?_)
  refine Gx.seq ?_
  refine Gx.region ?_
  refine Gx.val rfl rfl rfl (val_lss rfl rfl rfl) ?_
  refine Gx.done ?_
  refine Gx.thenN ?_
  refine Gx.seq ?_
  refine Gx.dec rfl (fun h1 => ?_) (fun h1 => ?_)
  · refine Gx.skip ?_
    refine Gx.thenN ?_
    refine Gx.seq ?_
    refine Gx.block ?_
    refine Gx.seq ?_
    refine Gx.region ?_
    refine Gx.val rfl rfl rfl (val_move rfl rfl) ?_
    refine Gx.val rfl rfl rfl (val_assign rfl rfl) ?_
    refine Gx.done ?_
    refine Gx.thenN ?_
    refine Gx.seq ?_
    refine Gx.region ?_
    refine Gx.val rfl rfl rfl (val_move rfl rfl) ?_
    refine Gx.val rfl rfl rfl (val_move rfl rfl) ?_
    refine Gx.val rfl rfl rfl (val_move rfl rfl) ?_
    obtain ⟨x2, hx2⟩ := get_of_lt (xs := xs) (k := k) (by omega)
    refine Gx.val rfl rfl rfl (val_ixa rfl Try.underlying22 Try.ty28 rfl rfl (j := k) (rfl) (reach_base hx hx2)) ?_
    refine Gx.val rfl rfl rfl (val_load rfl Try.ty28 rfl rfl (cell_base (i := 0) hx hx2 rfl)) ?_
    refine Gx.val rfl rfl rfl (val_callV (vs := [.int .u32 ((x2 : Nat) : Int)]) (fs := []) (cs := [ptr b1 0]) rfl Try.fn36 rfl rfl (fun w H => hq w H.below x2 (List.mem_of_getElem? hx2))) ?_
    refine Gx.done ?_
    refine Gx.thenN ?_
    refine Gx.bool rfl (fun h3 => ?_) (fun h3 => ?_)
    · refine Gx.seq ?_
      refine Gx.region ?_
      refine Gx.val rfl rfl rfl (val_move rfl rfl) ?_
      refine Gx.val rfl rfl rfl (val_assign rfl rfl) ?_
      refine Gx.done ?_
      refine Gx.thenN ?_
      refine Gx.ret ?_
      refine Gx.blkR ?_
      refine Gx.thenR ?_
      refine Gx.thenR ?_
      refine Gx.blkR ?_
      refine Gx.thenR ?_
      refine Gx.ret1 Try.results38 rfl ?_
      have h9 := (fst_at hx2 hk).1 h3
      have h8 := (List.getElem?_eq_some_iff.1 hx2).1
      exact (by unfold idxV idxI; rw [if_pos (by omega), h9])
    · refine Gx.skip ?_
      refine Gx.blkN ?_
      refine Gx.thenN ?_
      refine Gx.region ?_
      refine Gx.val rfl rfl rfl (val_add rfl rfl rfl (r := ((k + 1 : Nat) : Int)) (w64 (by omega) (by omega))) ?_
      refine Gx.val rfl rfl rfl (val_move rfl rfl) ?_
      refine Gx.done ?_
      refine Gx.thenN ?_
      exact Gx.round (k + 1) ((fst_at hx2 hk).2 (by simpa using h3)) (by first | omega | (dsimp only; omega)) ((.cons rfl (.cons rfl (.cons rfl (.cons rfl (.cons rfl .nil)))))) rfl
  · refine Gx.exit ?_
    refine Gx.thenE ?_
    refine Gx.thenE ?_
    refine Gx.blkE ?_
    refine Gx.thenN ?_
    refine Gx.seq ?_
    refine Gx.region ?_
    refine Gx.val rfl rfl rfl (val_assign rfl rfl) ?_
    refine Gx.done ?_
    refine Gx.thenN ?_
    refine Gx.ret ?_
    refine Gx.ret1 Try.results38 rfl ?_
    have h9 := fst_le q xs
    exact (by unfold idxV idxI; rw [if_neg (by omega)])

theorem contains_any36 {W : World} {wv : Value} {xs : List Nat} {q : Nat → Bool} {b1 : Nat} (hx : SlS FU 1 W wv xs) (hq : ∀ w', Below W.heap.size W w' → ∀ x ∈ xs, Calls Try.prog 36 #[.int .u32 ((x : Nat) : Int), ptr b1 0] w' fun e w2 => e = .returned (.bool (q x)) ∧ Below w'.heap.size w' w2) :
    Calls Try.prog 27 #[wv, .func (.func 36) #[] #[ptr b1 0]] W fun e w' => e = .returned (.bool (xs.any q)) ∧ Below W.heap.size W w' := by
  refine calls_pure (Gx.enter (l := []) Try.func27 rfl Try.ntmps27 rfl (Sat.start W) ?_)
  refine Gx.know (m' := [(0, wv), (1, .func (.func 36) #[] #[ptr b1 0])]) (.cons rfl (.cons rfl .nil)) ?_
  refine Gx.seq ?_
  refine Gx.region ?_
  refine Gx.val rfl rfl rfl (val_assign rfl rfl) ?_
  refine Gx.done ?_
  refine Gx.thenN ?_
  refine Gx.seq ?_
  refine Gx.region ?_
  refine Gx.val rfl rfl rfl (val_move rfl rfl) ?_
  refine Gx.val rfl rfl rfl (val_move rfl rfl) ?_
  refine Gx.val rfl rfl rfl (val_call (vs := [wv, .func (.func 36) #[] #[ptr b1 0]]) rfl Try.fn38 rfl (fun w H => index_any36 (hx.below H.below) (fun w' hb x hx' => hq w' (H.below.trans (hb.mono H.size)) x hx'))) ?_
  refine Gx.val rfl rfl rfl (val_geq rfl rfl rfl) ?_
  refine Gx.val rfl rfl rfl (val_assign rfl rfl) ?_
  refine Gx.done ?_
  refine Gx.thenN ?_
  refine Gx.ret ?_
  refine Gx.ret1 Try.results27 rfl ?_
  exact congrArg Value.bool (by rw [← fst_any, decide_eq_decide]; unfold idxI; split <;> omega)

theorem index_any28 {W : World} {wv : Value} {xs : List Nat} {q : Nat → Bool} {b1 : Nat} (hx : SlS FU 1 W wv xs) (hq : ∀ w', Below W.heap.size W w' → ∀ x ∈ xs, Calls Try.prog 28 #[.int .u32 ((x : Nat) : Int), ptr b1 0] w' fun e w2 => e = .returned (.bool (q x)) ∧ Below w'.heap.size w' w2) :
    Calls Try.prog 38 #[wv, .func (.func 28) #[] #[ptr b1 0]] W fun e w' => e = .returned (idxV q xs) ∧ Below W.heap.size W w' := by
  have m1 := sls_bd hx
  refine calls_pure (Gx.enter (l := []) Try.func38 rfl Try.ntmps38 rfl (Sat.start W) ?_)
  refine Gx.know (m' := [(0, wv), (1, .func (.func 28) #[] #[ptr b1 0])]) (.cons rfl (.cons rfl .nil)) ?_
  refine Gx.seq ?_
  refine Gx.region ?_
  refine Gx.val rfl rfl rfl (val_assign rfl rfl) ?_
  refine Gx.done ?_
  refine Gx.thenN ?_
  refine Gx.seq ?_
  refine Gx.seq ?_
  refine Gx.region ?_
  refine Gx.val rfl rfl rfl (val_move rfl rfl) ?_
  refine Gx.val rfl rfl rfl (val_len rfl Try.underlying22 rfl (len_base hx)) ?_
  refine Gx.val rfl rfl rfl (val_move rfl rfl) ?_
  refine Gx.done ?_
  refine Gx.thenN ?_
  refine Gx.block ?_
  refine Gx.loop (ι := Nat) (fun ξ => (ξ ≤ fst q xs)) (fun ξ => [(0, wv), (1, .func (.func 28) #[] #[ptr b1 0]), (6, wv), (7, .int .i64 ((xs.length : Nat) : Int)), (8, .int .i64 ((ξ : Nat) : Int))]) (fun ξ => []) (fun ξ => xs.length - ξ) 0 (Nat.zero_le _) ((.cons rfl (.cons rfl (.cons rfl (.cons rfl (.cons rfl .nil)))))) rfl ?_
  rintro k hk
  refine Gx.know (m' := [(0, wv), (1, .func (.func 28) #[] #[ptr b1 0]), (6, wv), (7, .int .i64 ((xs.length : Nat) : Int)), (8, .int .i64 ((k : Nat) : Int))]) (.cons rfl (.cons rfl (.cons rfl (.cons rfl (.cons rfl .nil))))) (Gx.norm (l' := []) rfl ?_)
  refine Gx.seq ?_
  refine Gx.region ?_
  refine Gx.val rfl rfl rfl (val_lss rfl rfl rfl) ?_
  refine Gx.done ?_
  refine Gx.thenN ?_
  refine Gx.seq ?_
  refine Gx.dec rfl (fun h1 => ?_) (fun h1 => ?_)
  · refine Gx.skip ?_
    refine Gx.thenN ?_
    refine Gx.seq ?_
    refine Gx.block ?_
    refine Gx.seq ?_
    refine Gx.region ?_
    refine Gx.val rfl rfl rfl (val_move rfl rfl) ?_
    refine Gx.val rfl rfl rfl (val_assign rfl rfl) ?_
    refine Gx.done ?_
    refine Gx.thenN ?_
    refine Gx.seq ?_
    refine Gx.region ?_
    refine Gx.val rfl rfl rfl (val_move rfl rfl) ?_
    refine Gx.val rfl rfl rfl (val_move rfl rfl) ?_
    refine Gx.val rfl rfl rfl (val_move rfl rfl) ?_
    obtain ⟨x2, hx2⟩ := get_of_lt (xs := xs) (k := k) (by omega)
    refine Gx.val rfl rfl rfl (val_ixa rfl Try.underlying22 Try.ty28 rfl rfl (j := k) (rfl) (reach_base hx hx2)) ?_
    refine Gx.val rfl rfl rfl (val_load rfl Try.ty28 rfl rfl (cell_base (i := 0) hx hx2 rfl)) ?_
    refine Gx.val rfl rfl rfl (val_callV (vs := [.int .u32 ((x2 : Nat) : Int)]) (fs := []) (cs := [ptr b1 0]) rfl Try.fn28 rfl rfl (fun w H => hq w H.below x2 (List.mem_of_getElem? hx2))) ?_
    refine Gx.done ?_
    refine Gx.thenN ?_
    refine Gx.bool rfl (fun h3 => ?_) (fun h3 => ?_)
    · refine Gx.seq ?_
      refine Gx.region ?_
      refine Gx.val rfl rfl rfl (val_move rfl rfl) ?_
      refine Gx.val rfl rfl rfl (val_assign rfl rfl) ?_
      refine Gx.done ?_
      refine Gx.thenN ?_
      refine Gx.ret ?_
      refine Gx.blkR ?_
      refine Gx.thenR ?_
      refine Gx.thenR ?_
      refine Gx.blkR ?_
      refine Gx.thenR ?_
      refine Gx.ret1 Try.results38 rfl ?_
      have h9 := (fst_at hx2 hk).1 h3
      have h8 := (List.getElem?_eq_some_iff.1 hx2).1
      exact (by unfold idxV idxI; rw [if_pos (by omega), h9])
    · refine Gx.skip ?_
      refine Gx.blkN ?_
      refine Gx.thenN ?_
      refine Gx.region ?_
      refine Gx.val rfl rfl rfl (val_add rfl rfl rfl (r := ((k + 1 : Nat) : Int)) (w64 (by omega) (by omega))) ?_
      refine Gx.val rfl rfl rfl (val_move rfl rfl) ?_
      refine Gx.done ?_
      refine Gx.thenN ?_
      exact Gx.round (k + 1) ((fst_at hx2 hk).2 (by simpa using h3)) (by first | omega | (dsimp only; omega)) ((.cons rfl (.cons rfl (.cons rfl (.cons rfl (.cons rfl .nil)))))) rfl
  · refine Gx.exit ?_
    refine Gx.thenE ?_
    refine Gx.thenE ?_
    refine Gx.blkE ?_
    refine Gx.thenN ?_
    refine Gx.seq ?_
    refine Gx.region ?_
    refine Gx.val rfl rfl rfl (val_assign rfl rfl) ?_
    refine Gx.done ?_
    refine Gx.thenN ?_
    refine Gx.ret ?_
    refine Gx.ret1 Try.results38 rfl ?_
    have h9 := fst_le q xs
    exact (by unfold idxV idxI; rw [if_neg (by omega)])

theorem contains_any28 {W : World} {wv : Value} {xs : List Nat} {q : Nat → Bool} {b1 : Nat} (hx : SlS FU 1 W wv xs) (hq : ∀ w', Below W.heap.size W w' → ∀ x ∈ xs, Calls Try.prog 28 #[.int .u32 ((x : Nat) : Int), ptr b1 0] w' fun e w2 => e = .returned (.bool (q x)) ∧ Below w'.heap.size w' w2) :
    Calls Try.prog 27 #[wv, .func (.func 28) #[] #[ptr b1 0]] W fun e w' => e = .returned (.bool (xs.any q)) ∧ Below W.heap.size W w' := by
  refine calls_pure (Gx.enter (l := []) Try.func27 rfl Try.ntmps27 rfl (Sat.start W) ?_)
  refine Gx.know (m' := [(0, wv), (1, .func (.func 28) #[] #[ptr b1 0])]) (.cons rfl (.cons rfl .nil)) ?_
  refine Gx.seq ?_
  refine Gx.region ?_
  refine Gx.val rfl rfl rfl (val_assign rfl rfl) ?_
  refine Gx.done ?_
  refine Gx.thenN ?_
  refine Gx.seq ?_
  refine Gx.region ?_
  refine Gx.val rfl rfl rfl (val_move rfl rfl) ?_
  refine Gx.val rfl rfl rfl (val_move rfl rfl) ?_
  refine Gx.val rfl rfl rfl (val_call (vs := [wv, .func (.func 28) #[] #[ptr b1 0]]) rfl Try.fn38 rfl (fun w H => index_any28 (hx.below H.below) (fun w' hb x hx' => hq w' (H.below.trans (hb.mono H.size)) x hx'))) ?_
  refine Gx.val rfl rfl rfl (val_geq rfl rfl rfl) ?_
  refine Gx.val rfl rfl rfl (val_assign rfl rfl) ?_
  refine Gx.done ?_
  refine Gx.thenN ?_
  refine Gx.ret ?_
  refine Gx.ret1 Try.results27 rfl ?_
  exact congrArg Value.bool (by rw [← fst_any, decide_eq_decide]; unfold idxI; split <;> omega)

theorem index_any35 {W : World} {wv : Value} {xs : List Nat} {q : Nat → Bool} {b1 : Nat} (hx : SlS FU 1 W wv xs) (hq : ∀ w', Below W.heap.size W w' → ∀ x ∈ xs, Calls Try.prog 35 #[.int .u32 ((x : Nat) : Int), ptr b1 0] w' fun e w2 => e = .returned (.bool (q x)) ∧ Below w'.heap.size w' w2) :
    Calls Try.prog 38 #[wv, .func (.func 35) #[] #[ptr b1 0]] W fun e w' => e = .returned (idxV q xs) ∧ Below W.heap.size W w' := by
  have m1 := sls_bd hx
  refine calls_pure (Gx.enter (l := []) Try.func38 rfl Try.ntmps38 rfl (Sat.start W) ?_)
  refine Gx.know (m' := [(0, wv), (1, .func (.func 35) #[] #[ptr b1 0])]) (.cons rfl (.cons rfl .nil)) ?_
  refine Gx.seq ?_
  refine Gx.region ?_
  refine Gx.val rfl rfl rfl (val_assign rfl rfl) ?_
  refine Gx.done ?_
  refine Gx.thenN ?_
  refine Gx.seq ?_
  refine Gx.seq ?_
  refine Gx.region ?_
  refine Gx.val rfl rfl rfl (val_move rfl rfl) ?_
  refine Gx.val rfl rfl rfl (val_len rfl Try.underlying22 rfl (len_base hx)) ?_
  refine Gx.val rfl rfl rfl (val_move rfl rfl) ?_
  refine Gx.done ?_
  refine Gx.thenN ?_
  refine Gx.block ?_
  refine Gx.loop (ι := Nat) (fun ξ => (ξ ≤ fst q xs)) (fun ξ => [(0, wv), (1, .func (.func 35) #[] #[ptr b1 0]), (6, wv), (7, .int .i64 ((xs.length : Nat) : Int)), (8, .int .i64 ((ξ : Nat) : Int))]) (fun ξ => []) (fun ξ => xs.length - ξ) 0 (Nat.zero_le _) ((.cons rfl (.cons rfl (.cons rfl (.cons rfl (.cons rfl .nil)))))) rfl ?_
  rintro k hk
  refine Gx.know (m' := [(0, wv), (1, .func (.func 35) #[] #[ptr b1 0]), (6, wv), (7, .int .i64 ((xs.length : Nat) : Int)), (8, .int .i64 ((k : Nat) : Int))]) (.cons rfl (.cons rfl (.cons rfl (.cons rfl (.cons rfl .nil))))) (Gx.norm (l' := []) rfl ?_)
  refine Gx.seq ?_
  refine Gx.region ?_
  refine Gx.val rfl rfl rfl (val_lss rfl rfl rfl) ?_
  refine Gx.done ?_
  refine Gx.thenN ?_
  refine Gx.seq ?_
  refine Gx.dec rfl (fun h1 => ?_) (fun h1 => ?_)
  · refine Gx.skip ?_
    refine Gx.thenN ?_
    refine Gx.seq ?_
    refine Gx.block ?_
    refine Gx.seq ?_
    refine Gx.region ?_
    refine Gx.val rfl rfl rfl (val_move rfl rfl) ?_
    refine Gx.val rfl rfl rfl (val_assign rfl rfl) ?_
    refine Gx.done ?_
    refine Gx.thenN ?_
    refine Gx.seq ?_
    refine Gx.region ?_
    refine Gx.val rfl rfl rfl (val_move rfl rfl) ?_
    refine Gx.val rfl rfl rfl (val_move rfl rfl) ?_
    refine Gx.val rfl rfl rfl (val_move rfl rfl) ?_
    obtain ⟨x2, hx2⟩ := get_of_lt (xs := xs) (k := k) (by omega)
    refine Gx.val rfl rfl rfl (val_ixa rfl Try.underlying22 Try.ty28 rfl rfl (j := k) (rfl) (reach_base hx hx2)) ?_
    refine Gx.val rfl rfl rfl (val_load rfl Try.ty28 rfl rfl (cell_base (i := 0) hx hx2 rfl)) ?_
    refine Gx.val rfl rfl rfl (val_callV (vs := [.int .u32 ((x2 : Nat) : Int)]) (fs := []) (cs := [ptr b1 0]) rfl Try.fn35 rfl rfl (fun w H => hq w H.below x2 (List.mem_of_getElem? hx2))) ?_
    refine Gx.done ?_
    refine Gx.thenN ?_
    refine Gx.bool rfl (fun h3 => ?_) (fun h3 => ?_)
    · refine Gx.seq ?_
      refine Gx.region ?_
      refine Gx.val rfl rfl rfl (val_move rfl rfl) ?_
      refine Gx.val rfl rfl rfl (val_assign rfl rfl) ?_
      refine Gx.done ?_
      refine Gx.thenN ?_
      refine Gx.ret ?_
      refine Gx.blkR ?_
      refine Gx.thenR ?_
      refine Gx.thenR ?_
      refine Gx.blkR ?_
      refine Gx.thenR ?_
      refine Gx.ret1 Try.results38 rfl ?_
      have h9 := (fst_at hx2 hk).1 h3
      have h8 := (List.getElem?_eq_some_iff.1 hx2).1
      exact (by unfold idxV idxI; rw [if_pos (by omega), h9])
    · refine Gx.skip ?_
      refine Gx.blkN ?_
      refine Gx.thenN ?_
      refine Gx.region ?_
      refine Gx.val rfl rfl rfl (val_add rfl rfl rfl (r := ((k + 1 : Nat) : Int)) (w64 (by omega) (by omega))) ?_
      refine Gx.val rfl rfl rfl (val_move rfl rfl) ?_
      refine Gx.done ?_
      refine Gx.thenN ?_
      exact Gx.round (k + 1) ((fst_at hx2 hk).2 (by simpa using h3)) (by first | omega | (dsimp only; omega)) ((.cons rfl (.cons rfl (.cons rfl (.cons rfl (.cons rfl .nil)))))) rfl
  · refine Gx.exit ?_
    refine Gx.thenE ?_
    refine Gx.thenE ?_
    refine Gx.blkE ?_
    refine Gx.thenN ?_
    refine Gx.seq ?_
    refine Gx.region ?_
    refine Gx.val rfl rfl rfl (val_assign rfl rfl) ?_
    refine Gx.done ?_
    refine Gx.thenN ?_
    refine Gx.ret ?_
    refine Gx.ret1 Try.results38 rfl ?_
    have h9 := fst_le q xs
    exact (by unfold idxV idxI; rw [if_neg (by omega)])

theorem delete_any {W w : World} {v : Value} {xs : List Nat} {q : Nat → Bool} {b1 : Nat} {R : Hp} (hi : IsS v) (hl : xs.length ≤ 65000)
    (hq : ∀ w', (∃ zs, Sat W w' (Hp.own FU 1 v zs * R)) → ∀ w1, Below w'.heap.size w' w1 → ∀ x ∈ xs, Calls Try.prog 35 #[.int .u32 ((x : Nat) : Int), ptr b1 0] w1 fun e w2 => e = .returned (.bool (q x)) ∧ Below w1.heap.size w1 w2) (H : Sat W w (Hp.own FU 1 v xs * R)) :
    Calls Try.prog 34 #[v, .func (.func 35) #[] #[ptr b1 0]] w (Ret W fun u l => IsS u ∧ sep l = Hp.own FU 1 u (xs.filter fun x => !q x) * R) := by
  refine Gx.enter (l := [Hp.own FU 1 v xs, R]) Try.func34 rfl Try.ntmps34 rfl (H.frame1) ?_
  refine Gx.know (m' := [(0, v), (1, .func (.func 35) #[] #[ptr b1 0])]) (.cons rfl (.cons rfl .nil)) ?_
  refine Gx.seq ?_
  refine Gx.region ?_
  refine Gx.val rfl rfl rfl (val_assign rfl rfl) ?_
  refine Gx.done ?_
  refine Gx.thenN ?_
  refine Gx.seq ?_
  refine Gx.region ?_
  refine Gx.val rfl rfl rfl (val_move rfl rfl) ?_
  refine Gx.val rfl rfl rfl (val_move rfl rfl) ?_
  refine Gx.val rfl rfl rfl (val_call (vs := [v, .func (.func 35) #[] #[ptr b1 0]]) rfl Try.fn38 rfl (fun w H => index_any35 ((H.at_ (k := 0) rfl).sls (by omega)) (hq w ⟨xs, H.cast (by rw [sep1])⟩))) ?_
  refine Gx.val rfl rfl rfl (val_assign rfl rfl) ?_
  refine Gx.done ?_
  refine Gx.thenN ?_
  refine Gx.seq ?_
  refine Gx.seq ?_
  refine Gx.region ?_
  refine Gx.val rfl rfl rfl (val_move rfl rfl) ?_
  refine Gx.val rfl rfl rfl (val_eql rfl rfl rfl) ?_
  refine Gx.done ?_
  refine Gx.thenN ?_
  refine Gx.dec rfl (fun h1 => ?_) (fun h1 => ?_)
  · refine Gx.seq ?_
    refine Gx.region ?_
    refine Gx.val rfl rfl rfl (val_move rfl rfl) ?_
    refine Gx.val rfl rfl rfl (val_assign rfl rfl) ?_
    refine Gx.done ?_
    refine Gx.thenN ?_
    refine Gx.ret ?_
    refine Gx.thenR ?_
    have hnf : ¬ fst q xs < xs.length := fun h => by
      have e9 : idxI q xs = ((fst q xs : Nat) : Int) := by unfold idxI; rw [if_pos h]
      omega
    refine Gx.ret1 Try.results34 rfl ?_
    exact ⟨hi, by rw [fst_all q xs hnf]; exact sep1 _ _⟩
  · refine Gx.skip ?_
    refine Gx.thenN ?_
    refine Gx.seq ?_
    refine Gx.seq ?_
    have hfi : fst q xs < xs.length := by
      rcases Nat.lt_or_ge (fst q xs) xs.length with h | h
      · exact h
      · exfalso
        have e9 : idxI q xs = -1 := by unfold idxI; rw [if_neg (by omega)]
        omega
    have hie : idxI q xs = ((fst q xs : Nat) : Int) := by unfold idxI; rw [if_pos hfi]
    refine Gx.slot (t := 5) (v := .int .i64 ((fst q xs : Nat) : Int)) (by rw [← hie]; rfl) ?_
    refine Gx.region ?_
    refine Gx.val rfl rfl rfl (val_move rfl rfl) ?_
    refine Gx.val rfl rfl rfl (val_add rfl rfl rfl (r := ((fst q xs + 1 : Nat) : Int)) (w64 (by omega) (by omega))) ?_
    refine Gx.val rfl rfl rfl (val_assign rfl rfl) ?_
    refine Gx.done ?_
    refine Gx.thenN ?_
    refine Gx.block ?_
    refine Gx.loop (ι := Nat × Nat × (List Nat)) (fun ξ => (ξ.1 + 1 ≤ ξ.2.1) ∧ (ξ.2.1 ≤ xs.length) ∧ (ξ.2.2.length = xs.length) ∧ (ξ.2.2.take ξ.1 = (xs.take ξ.2.1).filter (fun x => !q x)) ∧ (∀ k, ξ.2.1 ≤ k → ξ.2.2[k]? = xs[k]?)) (fun ξ => [(0, v), (1, .func (.func 35) #[] #[ptr b1 0]), (5, .int .i64 ((ξ.1 : Nat) : Int)), (6, .int .i64 ((ξ.2.1 : Nat) : Int))]) (fun ξ => [Hp.own FU 1 v ξ.2.2, R]) (fun ξ => xs.length - ξ.2.1) (fst q xs, fst q xs + 1, xs) ⟨by first | omega | (dsimp only; omega), by first | omega | (dsimp only; omega), rfl, (fst_filter q xs hfi).symm, fun _ _ => rfl⟩ ((.cons rfl (.cons rfl (.cons rfl (.cons rfl .nil))))) rfl ?_
    rintro ⟨i3, j, ys⟩ ⟨hij, hj, hyl, htk, hrs⟩
    dsimp only at hij hj hyl htk hrs
    refine Gx.know (m' := [(0, v), (1, .func (.func 35) #[] #[ptr b1 0]), (5, .int .i64 ((i3 : Nat) : Int)), (6, .int .i64 ((j : Nat) : Int))]) (.cons rfl (.cons rfl (.cons rfl (.cons rfl .nil)))) (Gx.norm (l' := [Hp.own FU 1 v ys, R]) rfl ?_)
    refine Gx.seq ?_
    refine Gx.seq ?_
    refine Gx.region ?_
    refine Gx.val rfl rfl rfl (val_move rfl rfl) ?_
    refine Gx.val rfl rfl rfl (val_move rfl rfl) ?_
    refine Gx.val rfl rfl rfl (val_len rfl Try.underlying22 rfl (len_own (k := 0) rfl)) ?_
    refine Gx.val rfl rfl rfl (val_lss rfl rfl rfl) ?_
    refine Gx.done ?_
    refine Gx.thenN ?_
    refine Gx.dec rfl (fun h2 => ?_) (fun h2 => ?_)
    · refine Gx.skip ?_
      refine Gx.thenN ?_
      refine Gx.seq ?_
      refine Gx.block ?_
      refine Gx.seq ?_
      obtain ⟨x, hx⟩ := get_of_lt (xs := ys) (k := j) (by omega)
      have hxj : xs[j]? = some x := by rw [← hrs j (Nat.le_refl _)]; exact hx
      refine Gx.region ?_
      refine Gx.val rfl rfl rfl (val_move rfl rfl) ?_
      refine Gx.val rfl rfl rfl (val_move rfl rfl) ?_
      refine Gx.val rfl rfl rfl (val_ixa rfl Try.underlying22 Try.ty28 rfl rfl (j := j) (rfl) (reach_own (k := 0) rfl hx)) ?_
      refine Gx.val rfl rfl rfl (val_load rfl Try.ty28 rfl rfl (cell_own (i := 0) (k := 0) rfl hx rfl)) ?_
      refine Gx.val rfl rfl rfl (val_assign rfl rfl) ?_
      refine Gx.done ?_
      refine Gx.thenN ?_
      refine Gx.seq ?_
      refine Gx.region ?_
      refine Gx.val rfl rfl rfl (val_move rfl rfl) ?_
      refine Gx.val rfl rfl rfl (val_move rfl rfl) ?_
      refine Gx.val rfl rfl rfl (val_callV (vs := [.int .u32 ((x : Nat) : Int)]) (fs := []) (cs := [ptr b1 0]) rfl Try.fn35 rfl rfl (fun w H => hq w ⟨ys, H.cast (by rw [sep1])⟩ w (Below.refl ..) x (List.mem_of_getElem? hxj))) ?_
      refine Gx.val rfl rfl rfl (val_not rfl rfl) ?_
      refine Gx.done ?_
      refine Gx.thenN ?_
      refine Gx.bool rfl (fun h3 => ?_) (fun h3 => ?_)
      · refine Gx.seq ?_
        refine Gx.region ?_
        refine Gx.val rfl rfl rfl (val_move rfl rfl) ?_
        refine Gx.val rfl rfl rfl (val_move rfl rfl) ?_
        refine Gx.val rfl rfl rfl (val_move rfl rfl) ?_
        obtain ⟨x4, hx4⟩ := get_of_lt (xs := ys) (k := i3) (by first | omega | (simp; omega))
        refine Gx.val rfl rfl rfl (val_ixa rfl Try.underlying22 Try.ty28 rfl rfl (j := i3) (rfl) (reach_own (k := 0) rfl hx4)) ?_
        refine Gx.eff0 rfl rfl (eff_storeElA x rfl Try.ty28 rfl rfl rfl FU_one (k := 0) rfl FU_len hx4 (l' := [Hp.own FU 1 v (ys.set i3 x), R]) rfl) ?_
        rintro _ _ rfl
        refine Gx.done ?_
        refine Gx.thenN ?_
        refine Gx.region ?_
        refine Gx.val rfl rfl rfl (val_move rfl rfl) ?_
        refine Gx.val rfl rfl rfl (val_add rfl rfl rfl (r := ((i3 + 1 : Nat) : Int)) (w64 (by omega) (by omega))) ?_
        refine Gx.val rfl rfl rfl (val_assign rfl rfl) ?_
        refine Gx.done ?_
        refine Gx.blkN ?_
        refine Gx.thenN ?_
        refine Gx.region ?_
        refine Gx.val rfl rfl rfl (val_move rfl rfl) ?_
        refine Gx.val rfl rfl rfl (val_add rfl rfl rfl (r := ((j + 1 : Nat) : Int)) (w64 (by omega) (by omega))) ?_
        refine Gx.val rfl rfl rfl (val_assign rfl rfl) ?_
        refine Gx.done ?_
        refine Gx.thenN ?_
        exact Gx.round (i3 + 1, j + 1, ys.set i3 x) ⟨by first | omega | (dsimp only; omega), by first | omega | (dsimp only; omega), by rw [List.length_set]; exact hyl, by dsimp only; rw [set_take9 (by omega), htk, take_snoc9 hxj, List.filter_append]; congr 1; rw [List.filter_cons_of_pos (by first | assumption | (simp; done) | simp_all)]; rfl, fun k hk => by
          dsimp only at hk ⊢
          rw [List.getElem?_set, if_neg (by omega)]; exact hrs k (by omega)⟩ (by first | omega | (dsimp only; omega)) ((.cons rfl (.cons rfl (.cons rfl (.cons rfl .nil))))) rfl
      · refine Gx.skip ?_
        refine Gx.blkN ?_
        refine Gx.thenN ?_
        refine Gx.region ?_
        refine Gx.val rfl rfl rfl (val_move rfl rfl) ?_
        refine Gx.val rfl rfl rfl (val_add rfl rfl rfl (r := ((j + 1 : Nat) : Int)) (w64 (by omega) (by omega))) ?_
        refine Gx.val rfl rfl rfl (val_assign rfl rfl) ?_
        refine Gx.done ?_
        refine Gx.thenN ?_
        exact Gx.round (i3, j + 1, ys) ⟨by first | omega | (dsimp only; omega), by first | omega | (dsimp only; omega), hyl, by dsimp only; rw [htk, take_snoc9 hxj, List.filter_append, List.filter_cons_of_neg (by first | assumption | simp_all)]; simp, fun k hk => hrs k (by dsimp only at hk; omega)⟩ (by first | omega | (dsimp only; omega)) ((.cons rfl (.cons rfl (.cons rfl (.cons rfl .nil))))) rfl
    · refine Gx.exit ?_
      refine Gx.thenE ?_
      refine Gx.thenE ?_
      refine Gx.blkE ?_
      refine Gx.thenN ?_
      refine Gx.seq ?_
      refine Gx.region ?_
      refine Gx.val rfl rfl rfl (val_move rfl rfl) ?_
      refine Gx.val rfl rfl rfl (val_move rfl rfl) ?_
      refine Gx.val rfl rfl rfl (val_cutFromO (lo := i3) rfl Try.underlying22 Try.ty28 rfl (n := 0) rfl rfl (rfl) (by omega)) ?_
      refine Gx.eff0 rfl rfl (eff_clear (f := FU) (v := v) (lo := i3) (up := ys.length) rfl Try.underlying22 Try.ty28 rfl (k := 0) rfl FU_len FU_one 0 rfl (by omega) (by omega) (l' := [Hp.own FU 1 v (clr ys 0 i3 (ys.length - i3)), R]) rfl) ?_
      rintro _ _ rfl
      refine Gx.done ?_
      refine Gx.thenN ?_
      refine Gx.seq ?_
      refine Gx.region ?_
      refine Gx.val rfl rfl rfl (val_move rfl rfl) ?_
      refine Gx.val rfl rfl rfl (val_move rfl rfl) ?_
      refine Gx.val rfl rfl rfl (val_cutToO (up := i3) rfl Try.underlying22 Try.ty28 rfl (n := 0) rfl rfl (rfl) (by rw [clr_len]; omega)) ?_
      refine Gx.val rfl rfl rfl (val_assign rfl rfl) ?_
      refine Gx.done ?_
      refine Gx.thenN ?_
      refine Gx.ret ?_
      refine Gx.ownCut (k := 0) 0 i3 rfl (Nat.zero_le _) (by rw [clr_len]; omega) rfl ?_
      obtain rfl : j = xs.length := by omega
      rw [List.take_length] at htk
      refine Gx.norm (l' := [Hp.own FU 1 (sCut 1 0 i3 v) (xs.filter fun x => !q x), R]) (by rw [← htk, List.drop_zero, clr_take _ _ _ _ _ (Nat.le_refl _)] <;> rfl) ?_
      refine Gx.ret1 Try.results34 rfl ?_
      exact ⟨sCut_isS hi, sep1 _ _⟩

theorem compact_any {W w : World} {v : Value} {xs : List Nat} {R : Hp} (hi : IsS v) (hl : xs.length ≤ 65000) (H : Sat W w (Hp.own FU 1 v xs * R)) :
    Calls Try.prog 33 #[v] w (Ret W fun u l => IsS u ∧ sep l = Hp.own FU 1 u (cmL xs xs.length) * R) := by
  refine Gx.enter (l := [Hp.own FU 1 v xs, R]) Try.func33 rfl Try.ntmps33 rfl (H.frame1) ?_
  refine Gx.know (m' := [(0, v)]) (.cons rfl .nil) ?_
  refine Gx.seq ?_
  refine Gx.region ?_
  refine Gx.val rfl rfl rfl (val_assign rfl rfl) ?_
  refine Gx.done ?_
  refine Gx.thenN ?_
  refine Gx.seq ?_
  refine Gx.seq ?_
  refine Gx.region ?_
  refine Gx.val rfl rfl rfl (val_move rfl rfl) ?_
  refine Gx.val rfl rfl rfl (val_len rfl Try.underlying22 rfl (len_own (k := 0) rfl)) ?_
  refine Gx.val rfl rfl rfl (val_lss rfl rfl rfl) ?_
  refine Gx.done ?_
  refine Gx.thenN ?_
  refine Gx.dec rfl (fun h1 => ?_) (fun h1 => ?_)
  · refine Gx.seq ?_
    refine Gx.region ?_
    refine Gx.val rfl rfl rfl (val_move rfl rfl) ?_
    refine Gx.val rfl rfl rfl (val_assign rfl rfl) ?_
    refine Gx.done ?_
    refine Gx.thenN ?_
    refine Gx.ret ?_
    refine Gx.thenR ?_
    have hcmE : cmL xs xs.length = xs := cmL_short (by omega)
    refine Gx.ret1 Try.results33 rfl ?_
    exact ⟨hi, by rw [hcmE]; exact sep1 _ _⟩
  · refine Gx.skip ?_
    refine Gx.thenN ?_
    refine Gx.seq ?_
    refine Gx.seq ?_
    refine Gx.region ?_
    refine Gx.val rfl rfl rfl (val_assign rfl rfl) ?_
    refine Gx.done ?_
    refine Gx.thenN ?_
    refine Gx.block ?_
    refine Gx.loop (ι := Nat) (fun ξ => (ξ + 1 ≤ xs.length) ∧ (cmL xs (ξ + 1) = xs.take (ξ + 1))) (fun ξ => [(0, v), (3, .int .i64 ((ξ + 1 : Nat) : Int))]) (fun ξ => [Hp.own FU 1 v xs, R]) (fun ξ => xs.length - ξ) 0 ⟨by first | omega | (dsimp only; omega), by
      obtain ⟨x0, hx0⟩ := get_of_lt (xs := xs) (k := 0) (by omega)
      rw [cmL_new hx0 (.inl rfl), take_snoc9 hx0]; rfl⟩ ((.cons rfl (.cons rfl .nil))) rfl ?_
    rintro kk ⟨hk, hcm⟩
    refine Gx.know (m' := [(0, v), (3, .int .i64 ((kk + 1 : Nat) : Int))]) (.cons rfl (.cons rfl .nil)) (Gx.norm (l' := [Hp.own FU 1 v xs, R]) rfl ?_)
    refine Gx.seq ?_
    refine Gx.seq ?_
    refine Gx.region ?_
    refine Gx.val rfl rfl rfl (val_move rfl rfl) ?_
    refine Gx.val rfl rfl rfl (val_move rfl rfl) ?_
    refine Gx.val rfl rfl rfl (val_len rfl Try.underlying22 rfl (len_own (k := 0) rfl)) ?_
    refine Gx.val rfl rfl rfl (val_lss rfl rfl rfl) ?_
    refine Gx.done ?_
    refine Gx.thenN ?_
    refine Gx.dec rfl (fun h2 => ?_) (fun h2 => ?_)
    · refine Gx.skip ?_
      refine Gx.thenN ?_
      refine Gx.seq ?_
      refine Gx.block ?_
      refine Gx.seq ?_
      refine Gx.regionQ Try.mixed (by kernel_rfl) ?_
      refine Gq.val rfl rfl rfl (val_move rfl rfl) ?_
      refine Gq.val rfl rfl rfl (val_move rfl rfl) ?_
      obtain ⟨x3, hx3⟩ := get_of_lt (xs := xs) (k := kk + 1) (by first | omega | (simp; omega))
      refine Gq.val rfl rfl rfl (val_ixa rfl Try.underlying22 Try.ty28 rfl rfl (j := kk + 1) (rfl) (reach_own (k := 0) rfl hx3)) ?_
      refine Gq.val rfl rfl rfl (val_load rfl Try.ty28 rfl rfl (cell_own (i := 0) (sz := 1) (j := kk + 1) (k := 0) rfl hx3 rfl)) ?_
      refine Gq.val rfl rfl rfl (val_move rfl rfl) ?_
      refine Gq.val rfl rfl rfl (val_move rfl rfl) ?_
      refine Gq.val rfl rfl rfl (val_sub rfl rfl rfl (r := ((kk : Nat) : Int)) (w64 (by omega) (by omega))) ?_
      obtain ⟨x4, hx4⟩ := get_of_lt (xs := xs) (k := kk) (by first | omega | (simp; omega))
      refine Gq.val rfl rfl rfl (val_ixa rfl Try.underlying22 Try.ty28 rfl rfl (j := kk) (rfl) (reach_own (k := 0) rfl hx4)) ?_
      refine Gq.val rfl rfl rfl (val_load rfl Try.ty28 rfl rfl (cell_own (i := 0) (k := 0) rfl hx4 rfl)) ?_
      refine Gq.val rfl rfl rfl (val_eql rfl rfl rfl) ?_
      refine Gq.done ?_
      refine Gx.thenN ?_
      refine Gx.dec rfl (fun h5 => ?_) (fun h5 => ?_)
      · refine Gx.seq ?_
        have hx1 : xs[kk + 1]? = some x3 := hx3
        have hx0 : xs[kk]? = some x3 := by rw [hx4]; congr 1; omega
        have hcm2 : cmL xs (kk + 2) = xs.take (kk + 1) := by rw [cmL_old (by omega) hx1 hx0]; exact hcm
        refine Gx.region ?_
        refine Gx.val rfl rfl rfl (val_move rfl rfl) ?_
        refine Gx.val rfl rfl rfl (val_move rfl rfl) ?_
        refine Gx.val rfl rfl rfl (val_cutFromO (lo := kk + 1) rfl Try.underlying22 Try.ty28 rfl (n := 0) rfl rfl (rfl) (by omega)) ?_
        refine Gx.val rfl rfl rfl (val_assign rfl rfl) ?_
        refine Gx.done ?_
        refine Gx.thenN ?_
        refine Gx.seq ?_
        refine Gx.seq ?_
        refine Gx.region ?_
        refine Gx.val rfl rfl rfl (val_assign rfl rfl) ?_
        refine Gx.done ?_
        refine Gx.thenN ?_
        refine Gx.block ?_
        refine Gx.loop (ι := Nat × Nat × (List Nat)) (fun ξ => (ξ.2.2.length = xs.length) ∧ (kk + 2 + ξ.1 ≤ xs.length) ∧ (ξ.2.1 ≤ kk + 1 + ξ.1) ∧ (ξ.2.2.take ξ.2.1 = cmL xs (kk + 2 + ξ.1)) ∧ (∀ i, ξ.2.1 ≤ i → ξ.2.2[i]? = xs[i]?)) (fun ξ => [(0, v), (3, .int .i64 ((ξ.2.1 : Nat) : Int)), (4, sCut 1 (kk + 1) xs.length v), (5, .int .i64 ((ξ.1 + 1 : Nat) : Int))]) (fun ξ => [Hp.own FU 1 v ξ.2.2, R]) (fun ξ => xs.length - ξ.1) (0, kk + 1, xs) ⟨rfl, by first | omega | (dsimp only; omega), by first | omega | (dsimp only; omega), hcm2.symm, fun _ _ => rfl⟩ ((.cons rfl (.cons rfl (.cons rfl (.cons rfl .nil))))) rfl ?_
        rintro ⟨q, k3, ys⟩ ⟨hyl, hq, hk3, htk, hrs⟩
        dsimp only at hyl hq hk3 htk hrs
        refine Gx.know (m' := [(0, v), (3, .int .i64 ((k3 : Nat) : Int)), (4, sCut 1 (kk + 1) xs.length v), (5, .int .i64 ((q + 1 : Nat) : Int))]) (.cons rfl (.cons rfl (.cons rfl (.cons rfl .nil)))) (Gx.norm (l' := [Hp.own FU 1 v ys, R]) rfl ?_)
        refine Gx.seq ?_
        refine Gx.seq ?_
        refine Gx.region ?_
        refine Gx.val rfl rfl rfl (val_move rfl rfl) ?_
        refine Gx.val rfl rfl rfl (val_move rfl rfl) ?_
        refine Gx.val rfl rfl rfl (val_len rfl Try.underlying22 rfl (len_cutO (f := FU) (sz := 1) (v := v) (lo := kk + 1) (up := xs.length) (k := 0) rfl)) ?_
        refine Gx.val rfl rfl rfl (val_lss rfl rfl rfl) ?_
        refine Gx.done ?_
        refine Gx.thenN ?_
        refine Gx.dec rfl (fun h6 => ?_) (fun h6 => ?_)
        · refine Gx.skip ?_
          refine Gx.thenN ?_
          refine Gx.seq ?_
          refine Gx.block ?_
          refine Gx.seq ?_
          obtain ⟨X0, hx0q⟩ := get_of_lt (xs := ys) (k := kk + 1 + q) (by omega)
          obtain ⟨X1, hx1q⟩ := get_of_lt (xs := ys) (k := kk + 1 + (q + 1)) (by omega)
          have hX0 : xs[kk + 1 + q]? = some X0 := by rw [← hrs _ (by omega)]; exact hx0q
          have hX1 : xs[kk + 2 + q]? = some X1 := by rw [show kk + 2 + q = kk + 1 + (q + 1) by omega, ← hrs _ (by omega)]; exact hx1q
          refine Gx.regionQ Try.mixed (by kernel_rfl) ?_
          refine Gq.val rfl rfl rfl (val_move rfl rfl) ?_
          refine Gq.val rfl rfl rfl (val_move rfl rfl) ?_
          refine Gq.val rfl rfl rfl (val_ixaC (f := FU) (lo := kk + 1) (up := xs.length) (j := q + 1) rfl Try.underlying22 Try.ty28 rfl (n := 0) rfl rfl (rfl) hx1q (by omega) (by omega)) ?_
          refine Gq.val rfl rfl rfl (val_load rfl Try.ty28 rfl rfl (cell_own (i := 0) (sz := 1) (j := ((kk + 1) + (q + 1))) (k := 0) rfl hx1q rfl)) ?_
          refine Gq.val rfl rfl rfl (val_move rfl rfl) ?_
          refine Gq.val rfl rfl rfl (val_move rfl rfl) ?_
          refine Gq.val rfl rfl rfl (val_sub rfl rfl rfl (r := ((q : Nat) : Int)) (w64 (by omega) (by omega))) ?_
          refine Gq.val rfl rfl rfl (val_ixaC (f := FU) (lo := kk + 1) (up := xs.length) (j := q) rfl Try.underlying22 Try.ty28 rfl (n := 0) rfl rfl (rfl) hx0q (by omega) (by omega)) ?_
          refine Gq.val rfl rfl rfl (val_load rfl Try.ty28 rfl rfl (cell_own (i := 0) (sz := 1) (j := ((kk + 1) + q)) (k := 0) rfl hx0q rfl)) ?_
          refine Gq.val rfl rfl rfl (val_neq rfl rfl rfl) ?_
          refine Gq.done ?_
          refine Gx.thenN ?_
          refine Gx.dec rfl (fun h7 => ?_) (fun h7 => ?_)
          · refine Gx.seq ?_
            refine Gx.region ?_
            refine Gx.val rfl rfl rfl (val_move rfl rfl) ?_
            refine Gx.val rfl rfl rfl (val_move rfl rfl) ?_
            refine Gx.val rfl rfl rfl (val_move rfl rfl) ?_
            refine Gx.val rfl rfl rfl (val_move rfl rfl) ?_
            refine Gx.val rfl rfl rfl (val_ixaC (f := FU) (lo := kk + 1) (up := xs.length) (j := q + 1) rfl Try.underlying22 Try.ty28 rfl (n := 0) rfl rfl (rfl) hx1q (by omega) (by omega)) ?_
            refine Gx.val rfl rfl rfl (val_load rfl Try.ty28 rfl rfl (cell_own (i := 0) (sz := 1) (j := ((kk + 1) + (q + 1))) (k := 0) rfl hx1q rfl)) ?_
            obtain ⟨x8, hx8⟩ := get_of_lt (xs := ys) (k := k3) (by first | omega | (simp; omega))
            refine Gx.val rfl rfl rfl (val_ixa rfl Try.underlying22 Try.ty28 rfl rfl (j := k3) (rfl) (reach_own (k := 0) rfl hx8)) ?_
            refine Gx.eff0 rfl rfl (eff_storeElA X1 rfl Try.ty28 rfl rfl rfl FU_one (k := 0) rfl FU_len hx8 (l' := [Hp.own FU 1 v (ys.set k3 X1), R]) rfl) ?_
            rintro _ _ rfl
            refine Gx.done ?_
            refine Gx.thenN ?_
            refine Gx.region ?_
            refine Gx.val rfl rfl rfl (val_move rfl rfl) ?_
            refine Gx.val rfl rfl rfl (val_add rfl rfl rfl (r := ((k3 + 1 : Nat) : Int)) (w64 (by omega) (by omega))) ?_
            refine Gx.val rfl rfl rfl (val_assign rfl rfl) ?_
            refine Gx.done ?_
            refine Gx.blkN ?_
            refine Gx.thenN ?_
            refine Gx.region ?_
            refine Gx.val rfl rfl rfl (val_move rfl rfl) ?_
            refine Gx.val rfl rfl rfl (val_add rfl rfl rfl (r := ((q + 2 : Nat) : Int)) (w64 (by omega) (by omega))) ?_
            refine Gx.val rfl rfl rfl (val_assign rfl rfl) ?_
            refine Gx.done ?_
            refine Gx.thenN ?_
            exact Gx.round (q + 1, k3 + 1, ys.set k3 X1) ⟨by simp only [List.length_set]; exact hyl, by first | omega | (dsimp only; omega), by first | omega | (dsimp only; omega), by
              rw [set_take9 (by omega), htk, show kk + 2 + (q + 1) = (kk + 2 + q) + 1 by omega, cmL_new hX1 (.inr (fun e => by rw [show kk + 2 + q - 1 = kk + 1 + q by omega, hX0] at e; cases e; omega))], fun i hi => by
              dsimp only at hi ⊢
              rw [List.getElem?_set, if_neg (by omega)]; exact hrs i (by omega)⟩ (by first | omega | (dsimp only; omega)) ((.cons rfl (.cons rfl (.cons rfl (.cons rfl .nil))))) rfl
          · refine Gx.skip ?_
            refine Gx.blkN ?_
            refine Gx.thenN ?_
            refine Gx.region ?_
            refine Gx.val rfl rfl rfl (val_move rfl rfl) ?_
            refine Gx.val rfl rfl rfl (val_add rfl rfl rfl (r := ((q + 2 : Nat) : Int)) (w64 (by omega) (by omega))) ?_
            refine Gx.val rfl rfl rfl (val_assign rfl rfl) ?_
            refine Gx.done ?_
            refine Gx.thenN ?_
            exact Gx.round (q + 1, k3, ys) ⟨hyl, by first | omega | (dsimp only; omega), by first | omega | (dsimp only; omega), by
              rw [htk, show kk + 2 + (q + 1) = (kk + 2 + q) + 1 by omega, cmL_old (by omega) hX1 (by rw [show kk + 2 + q - 1 = kk + 1 + q by omega, hX0]; congr 1; omega)], hrs⟩ (by first | omega | (dsimp only; omega)) ((.cons rfl (.cons rfl (.cons rfl (.cons rfl .nil))))) rfl
        · refine Gx.exit ?_
          refine Gx.thenE ?_
          refine Gx.thenE ?_
          refine Gx.blkE ?_
          refine Gx.thenN ?_
          refine Gx.seq ?_
          refine Gx.region ?_
          refine Gx.val rfl rfl rfl (val_move rfl rfl) ?_
          refine Gx.val rfl rfl rfl (val_move rfl rfl) ?_
          refine Gx.val rfl rfl rfl (val_cutFromO (lo := k3) rfl Try.underlying22 Try.ty28 rfl (n := 0) rfl rfl (rfl) (by omega)) ?_
          refine Gx.eff0 rfl rfl (eff_clear (f := FU) (v := v) (lo := k3) (up := ys.length) rfl Try.underlying22 Try.ty28 rfl (k := 0) rfl FU_len FU_one 0 rfl (by omega) (by omega) (l' := [Hp.own FU 1 v (clr ys 0 k3 (ys.length - k3)), R]) rfl) ?_
          rintro _ _ rfl
          refine Gx.done ?_
          refine Gx.thenN ?_
          refine Gx.seq ?_
          refine Gx.region ?_
          refine Gx.val rfl rfl rfl (val_move rfl rfl) ?_
          refine Gx.val rfl rfl rfl (val_move rfl rfl) ?_
          refine Gx.val rfl rfl rfl (val_cutToO (up := k3) rfl Try.underlying22 Try.ty28 rfl (n := 0) rfl rfl (rfl) (by rw [clr_len]; omega)) ?_
          refine Gx.val rfl rfl rfl (val_assign rfl rfl) ?_
          refine Gx.done ?_
          refine Gx.thenN ?_
          refine Gx.ret ?_
          refine Gx.blkR ?_
          refine Gx.thenR ?_
          refine Gx.thenR ?_
          refine Gx.blkR ?_
          refine Gx.thenR ?_
          refine Gx.ownCut (k := 0) 0 k3 rfl (Nat.zero_le _) (by rw [clr_len]; omega) rfl ?_
          have hqe : kk + 2 + q = xs.length := by omega
          rw [hqe] at htk
          refine Gx.norm (l' := [Hp.own FU 1 (sCut 1 0 k3 v) (cmL xs xs.length), R]) (by rw [← htk, List.drop_zero, clr_take _ _ _ _ _ (Nat.le_refl _)] <;> rfl) ?_
          refine Gx.ret1 Try.results33 rfl ?_
          exact ⟨sCut_isS hi, sep1 _ _⟩
      · refine Gx.skip ?_
        refine Gx.blkN ?_
        refine Gx.thenN ?_
        refine Gx.region ?_
        refine Gx.val rfl rfl rfl (val_move rfl rfl) ?_
        refine Gx.val rfl rfl rfl (val_add rfl rfl rfl (r := ((kk + 2 : Nat) : Int)) (w64 (by omega) (by omega))) ?_
        refine Gx.val rfl rfl rfl (val_assign rfl rfl) ?_
        refine Gx.done ?_
        refine Gx.thenN ?_
        exact Gx.round (kk + 1) ⟨by first | omega | (dsimp only; omega), by rw [cmL_new hx3 (.inr (fun e => by rw [show kk + 1 - 1 = kk from rfl, hx4] at e; cases e; omega)), hcm, take_snoc9 hx3]⟩ (by first | omega | (dsimp only; omega)) ((.cons rfl (.cons rfl .nil))) rfl
    · refine Gx.exit ?_
      refine Gx.thenE ?_
      refine Gx.thenE ?_
      refine Gx.blkE ?_
      refine Gx.thenN ?_
      refine Gx.seq ?_
      refine Gx.region ?_
      refine Gx.val rfl rfl rfl (val_move rfl rfl) ?_
      refine Gx.val rfl rfl rfl (val_assign rfl rfl) ?_
      refine Gx.done ?_
      refine Gx.thenN ?_
      refine Gx.ret ?_
      have hcmE : cmL xs xs.length = xs := by
        rw [show xs.length = kk + 1 by omega, hcm, List.take_of_length_le (by omega)]
      refine Gx.ret1 Try.results33 rfl ?_
      exact ⟨hi, by rw [hcmE]; exact sep1 _ _⟩

theorem clone_any {W : World} {va : Value} {xs : List Nat} (hs : SlS FU 1 W va xs) (h0 : 0 < xs.length) (hl : xs.length ≤ 65000) :
    Calls Try.prog 31 #[va] W (Ret W fun v l9 => IsS v ∧ l9 = [Hp.own FU 1 v xs]) := by
  refine Gx.enter (l := []) Try.func31 rfl Try.ntmps31 rfl (Sat.start W) ?_
  refine Gx.know (m' := [(0, va)]) (.cons rfl .nil) ?_
  refine Gx.seq ?_
  refine Gx.region ?_
  refine Gx.val rfl rfl rfl (val_assign rfl rfl) ?_
  refine Gx.done ?_
  refine Gx.thenN ?_
  refine Gx.seq ?_
  refine Gx.seq ?_
  refine Gx.region ?_
  refine Gx.val rfl rfl rfl (val_move rfl rfl) ?_
  refine Gx.val rfl rfl rfl (val_eqlSl rfl Try.underlying22 rfl rfl hs h0) ?_
  refine Gx.done ?_
  refine Gx.thenN ?_
  refine Gx.f rfl ?_
  refine Gx.skip ?_
  refine Gx.thenN ?_
  refine Gx.seq ?_
  refine Gx.region ?_
  refine Gx.eff rfl rfl rfl (eff_buildNil (f := FU) (sz := 1) (e := 28) rfl Try.underlying22 (fun w => by first | (go_simp; done) | (go_simp; rfl))) ?_
  rintro v1 _ ⟨hiv1, rfl⟩
  refine Gx.val rfl rfl rfl (val_move rfl rfl) ?_
  refine Gx.eff rfl rfl rfl (eff_pushAll (k := 0) (ys := xs) rfl Try.eU FU_len FU_one rfl rfl (fun w H => hs.below H.below) rfl (by simp; omega) (by simp; omega)) ?_
  rintro v2 _ ⟨hiv2, rfl⟩
  refine Gx.norm (l' := [Hp.own FU 1 v2 xs]) rfl ?_
  refine Gx.val rfl rfl rfl (val_assign rfl rfl) ?_
  refine Gx.done ?_
  refine Gx.thenN ?_
  refine Gx.ret ?_
  refine Gx.ret1 Try.results31 rfl ?_
  exact ⟨hiv2, rfl⟩

end Go.Proofs.Ytpjkpnfelpfhaaa
