/- The first that; what is not struck; copies of lists. The walks. No condition. -/
import Derived.Test.YtfpkfbffpkjgbaaA9
import Derived.Test.YtfpkfbffpkjgbaaW2
namespace Go.Proofs.Ytfpkfbffpkjgbaa
open Go.RowKit
set_option linter.unusedVariables false
set_option linter.unusedSimpArgs false
set_option maxRecDepth 100000

def fst {α : Type} (q : α → Bool) : List α → Nat
  | [] => 0
  | x :: l => if q x = true then 0 else fst q l + 1
theorem fst_le {α : Type} (q : α → Bool) : ∀ l, fst q l ≤ l.length
  | [] => Nat.le_refl _
  | x :: l => by simp only [fst]; split <;> simp; exact fst_le q l
theorem fst_at {α : Type} {q : α → Bool} : ∀ {l : List α} {k : Nat} {x : α}, l[k]? = some x → k ≤ fst q l → (q x = true → fst q l = k) ∧ (q x = false → k + 1 ≤ fst q l)
  | [], k, x, h, _ => by simp at h
  | c :: l, 0, x, h, _ => by
    simp at h; subst h
    simp only [fst]
    exact ⟨fun h => by rw [if_pos h], fun h => by rw [if_neg (by rw [h]; decide)]; omega⟩
  | c :: l, k + 1, x, h, hk => by
    simp only [fst] at hk ⊢
    split at hk
    · omega
    · rename_i hc
      rw [if_neg hc]
      obtain ⟨h1, h2⟩ := fst_at (q := q) (l := l) (k := k) (x := x) (by simpa using h) (by omega)
      exact ⟨fun z => by rw [h1 z], fun z => by have := h2 z; omega⟩
theorem fst_any {α : Type} (q : α → Bool) : ∀ l : List α, decide (fst q l < l.length) = l.any q
  | [] => rfl
  | x :: l => by
    have ih := fst_any q l
    by_cases h : q x = true
    · simp [fst, h]
    · simp only [fst, List.any_cons, if_neg h, List.length_cons, Nat.add_lt_add_iff_right]
      rw [ih]; simp at h; rw [h]; rfl
def idxI (q : Dt → Bool) (xs : List Dt) : Int := if fst q xs < xs.length then ((fst q xs : Nat) : Int) else -1
abbrev idxV (q : Dt → Bool) (xs : List Dt) : Value := .int .i64 (idxI q xs)
theorem fst_filter {α : Type} (q : α → Bool) : ∀ xs : List α, fst q xs < xs.length → (xs.take (fst q xs + 1)).filter (fun x => !q x) = xs.take (fst q xs)
  | [], h => absurd h (Nat.not_lt_zero _)
  | x :: l, h => by
    by_cases hx : q x = true
    · simp [fst, hx]
    · simp only [fst, if_neg hx, List.length_cons] at h ⊢
      rw [List.take_succ_cons, List.take_succ_cons, List.filter_cons_of_pos (by simp; simpa using hx), fst_filter q l (by omega)]
theorem fst_all {α : Type} (q : α → Bool) : ∀ xs : List α, ¬ fst q xs < xs.length → xs.filter (fun x => !q x) = xs
  | [], _ => rfl
  | x :: l, h => by
    by_cases hx : q x = true
    · simp [fst, hx] at h
    · simp only [fst, if_neg hx, List.length_cons] at h
      rw [List.filter_cons_of_pos (by simp; simpa using hx), fst_all q l (by omega)]
theorem index_any {W : World} {wv : Value} {xs : List Dt} {q : Dt → Bool} {b1 : Nat} (hx : SlS FD 3 W wv xs) (hq : ∀ w', Below W.heap.size W w' → ∀ x ∈ xs, Calls Try.prog 37 #[.agg #[.int .i64 x.item, .int .i64 x.who, .int .i64 x.n], ptr b1 0] w' fun e w2 => e = .returned (.bool (q x)) ∧ Below w'.heap.size w' w2) :
    Calls Try.prog 45 #[wv, .func (.func 37) #[] #[ptr b1 0]] W fun e w' => e = .returned (idxV q xs) ∧ Below W.heap.size W w' := by
  have m1 := sls_bd hx
  refine calls_pure (Gx.enter (l := []) Try.func45 rfl Try.ntmps45 rfl (Sat.start W) ?_)
  refine Gx.know (m' := [(0, wv), (1, .func (.func 37) #[] #[ptr b1 0])]) (.cons rfl (.cons rfl .nil)) ?_
  refine Gx.seq ?_
  refine Gx.region ?_
  refine Gx.val rfl rfl rfl (val_assign rfl rfl) ?_
  refine Gx.done ?_
  refine Gx.thenN ?_
  refine Gx.seq ?_
  refine Gx.seq ?_
  refine Gx.region ?_
  refine Gx.val rfl rfl rfl (val_move rfl rfl) ?_
  refine Gx.val rfl rfl rfl (val_len rfl Try.underlying25 rfl (len_base hx)) ?_
  refine Gx.val rfl rfl rfl (val_move rfl rfl) ?_
  refine Gx.done ?_
  refine Gx.thenN ?_
  refine Gx.block ?_
  refine Gx.loop (ι := Nat) (fun ξ => (ξ ≤ fst q xs)) (fun ξ => [(0, wv), (1, .func (.func 37) #[] #[ptr b1 0]), (6, wv), (7, .int .i64 ((xs.length : Nat) : Int)), (8, .int .i64 ((ξ : Nat) : Int))]) (fun ξ => []) (fun ξ => xs.length - ξ) 0 (Nat.zero_le _) ((.cons rfl (.cons rfl (.cons rfl (.cons rfl (.cons rfl .nil)))))) rfl ?_
  rintro k hk
  refine Gx.know (m' := [(0, wv), (1, .func (.func 37) #[] #[ptr b1 0]), (6, wv), (7, .int .i64 ((xs.length : Nat) : Int)), (8, .int .i64 ((k : Nat) : Int))]) (.cons rfl (.cons rfl (.cons rfl (.cons rfl (.cons rfl .nil))))) (Gx.norm (l' := []) rfl ?_)
  refine Gx.seq ?_
  refine Gx.region ?_
  refine Gx.val rfl rfl rfl (val_lss rfl rfl rfl) ?_
  refine Gx.done ?_
  refine Gx.thenN ?_
  refine Gx.seq ?_
  refine Gx.dec rfl (fun h1 => ?_) (fun h1 => ?_)
  · refine Gx.skip ?_
    refine Gx.thenN ?_
    refine Gx.seq ?_
    refine Gx.block ?_
    refine Gx.seq ?_
    refine Gx.region ?_
    refine Gx.val rfl rfl rfl (val_move rfl rfl) ?_
    refine Gx.val rfl rfl rfl (val_assign rfl rfl) ?_
    refine Gx.done ?_
    refine Gx.thenN ?_
    refine Gx.seq ?_
    refine Gx.region ?_
    refine Gx.val rfl rfl rfl (val_move rfl rfl) ?_
    refine Gx.val rfl rfl rfl (val_move rfl rfl) ?_
    refine Gx.val rfl rfl rfl (val_move rfl rfl) ?_
    obtain ⟨x2, hx2⟩ := get_of_lt (xs := xs) (k := k) (by omega)
    refine Gx.val rfl rfl rfl (val_ixa rfl Try.underlying25 Try.ty59 rfl rfl (j := k) (rfl) (reach_base hx hx2)) ?_
    refine Gx.val rfl rfl rfl (Val.cast (val_loadA rfl Try.ty59 rfl rfl rfl (cells_base hx hx2)) (v' := .agg #[.int .i64 x2.item, .int .i64 x2.who, .int .i64 x2.n]) rfl) ?_
    refine Gx.val rfl rfl rfl (val_callV (vs := [.agg #[.int .i64 x2.item, .int .i64 x2.who, .int .i64 x2.n]]) (fs := []) (cs := [ptr b1 0]) rfl Try.fn37 rfl rfl (fun w H => hq w H.below x2 (List.mem_of_getElem? hx2))) ?_
    refine Gx.done ?_
    refine Gx.thenN ?_
    refine Gx.bool rfl (fun h3 => ?_) (fun h3 => ?_)
    · refine Gx.seq ?_
      refine Gx.region ?_
      refine Gx.val rfl rfl rfl (val_move rfl rfl) ?_
      refine Gx.val rfl rfl rfl (val_assign rfl rfl) ?_
      refine Gx.done ?_
      refine Gx.thenN ?_
      refine Gx.ret ?_
      refine Gx.blkR ?_
      refine Gx.thenR ?_
      refine Gx.thenR ?_
      refine Gx.blkR ?_
      refine Gx.thenR ?_
      refine Gx.ret1 Try.results45 rfl ?_
      have h9 := (fst_at hx2 hk).1 h3
      have h8 := (List.getElem?_eq_some_iff.1 hx2).1
      exact (by unfold idxV idxI; rw [if_pos (by omega), h9])
    refine Gx.skip ?_
    refine Gx.blkN ?_
    refine Gx.thenN ?_
    refine Gx.region ?_
    refine Gx.val rfl rfl rfl (val_add rfl rfl rfl (r := ((k + 1 : Nat) : Int)) (w64 (by omega) (by omega))) ?_
    refine Gx.val rfl rfl rfl (val_move rfl rfl) ?_
    refine Gx.done ?_
    refine Gx.thenN ?_
    exact Gx.round (k + 1) ((fst_at hx2 hk).2 (by simpa using h3)) (by first | omega | (dsimp only; omega)) ((.cons rfl (.cons rfl (.cons rfl (.cons rfl (.cons rfl .nil)))))) rfl
  refine Gx.exit ?_
  refine Gx.thenE ?_
  refine Gx.thenE ?_
  refine Gx.blkE ?_
  refine Gx.thenN ?_
  refine Gx.seq ?_
  refine Gx.region ?_
  refine Gx.val rfl rfl rfl (val_assign rfl rfl) ?_
  refine Gx.done ?_
  refine Gx.thenN ?_
  refine Gx.ret ?_
  refine Gx.ret1 Try.results45 rfl ?_
  have h9 := fst_le q xs
  exact (by unfold idxV idxI; rw [if_neg (by omega)])

theorem delete_any {W w : World} {v : Value} {xs : List Dt} {q : Dt → Bool} {b1 : Nat} {R : Hp} (hi : IsS v) (hl : xs.length ≤ 65000)
    (hq : ∀ w', (∃ Q, Sat W w' (R * Q)) → ∀ w1, Below w'.heap.size w' w1 → ∀ x ∈ xs, Calls Try.prog 37 #[.agg #[.int .i64 x.item, .int .i64 x.who, .int .i64 x.n], ptr b1 0] w1 fun e w2 => e = .returned (.bool (q x)) ∧ Below w1.heap.size w1 w2) (H : Sat W w (Hp.own FD 3 v xs * R)) :
    Calls Try.prog 38 #[v, .func (.func 37) #[] #[ptr b1 0]] w (Ret W fun u l => IsS u ∧ sep l = Hp.own FD 3 u (xs.filter fun x => !q x) * R) := by
  refine Gx.enter (l := [Hp.own FD 3 v xs, R]) Try.func38 rfl Try.ntmps38 rfl (H.frame1) ?_
  refine Gx.know (m' := [(0, v), (1, .func (.func 37) #[] #[ptr b1 0])]) (.cons rfl (.cons rfl .nil)) ?_
  refine Gx.seq ?_
  refine Gx.region ?_
  refine Gx.val rfl rfl rfl (val_assign rfl rfl) ?_
  refine Gx.done ?_
  refine Gx.thenN ?_
  refine Gx.seq ?_
  refine Gx.region ?_
  refine Gx.val rfl rfl rfl (val_move rfl rfl) ?_
  refine Gx.val rfl rfl rfl (val_move rfl rfl) ?_
  refine Gx.val rfl rfl rfl (val_call (vs := [v, .func (.func 37) #[] #[ptr b1 0]]) rfl Try.fn45 rfl (fun w H => index_any ((H.at_ (k := 0) rfl).sls (by omega)) (hq w ⟨_, H.at_ (k := 1) rfl⟩))) ?_
  refine Gx.val rfl rfl rfl (val_assign rfl rfl) ?_
  refine Gx.done ?_
  refine Gx.thenN ?_
  refine Gx.seq ?_
  refine Gx.seq ?_
  refine Gx.region ?_
  refine Gx.val rfl rfl rfl (val_move rfl rfl) ?_
  refine Gx.val rfl rfl rfl (val_eql rfl rfl rfl) ?_
  refine Gx.done ?_
  refine Gx.thenN ?_
  refine Gx.dec rfl (fun h1 => ?_) (fun h1 => ?_)
  · refine Gx.seq ?_
    refine Gx.region ?_
    refine Gx.val rfl rfl rfl (val_move rfl rfl) ?_
    refine Gx.val rfl rfl rfl (val_assign rfl rfl) ?_
    refine Gx.done ?_
    refine Gx.thenN ?_
    refine Gx.ret ?_
    refine Gx.thenR ?_
    have hnf : ¬ fst q xs < xs.length := fun h => by
      have e9 : idxI q xs = ((fst q xs : Nat) : Int) := by unfold idxI; rw [if_pos h]
      omega
    refine Gx.ret1 Try.results38 rfl ?_
    exact ⟨hi, by rw [fst_all q xs hnf]; exact sep1 _ _⟩
  refine Gx.skip ?_
  refine Gx.thenN ?_
  refine Gx.seq ?_
  refine Gx.seq ?_
  have hfi : fst q xs < xs.length := by
    rcases Nat.lt_or_ge (fst q xs) xs.length with h | h
    · exact h
    · exfalso
      have e9 : idxI q xs = -1 := by unfold idxI; rw [if_neg (by omega)]
      omega
  have hie : idxI q xs = ((fst q xs : Nat) : Int) := by unfold idxI; rw [if_pos hfi]
  refine Gx.slot (t := 5) (v := .int .i64 ((fst q xs : Nat) : Int)) (by rw [← hie]; rfl) ?_
  refine Gx.region ?_
  refine Gx.val rfl rfl rfl (val_move rfl rfl) ?_
  refine Gx.val rfl rfl rfl (val_add rfl rfl rfl (r := ((fst q xs + 1 : Nat) : Int)) (w64 (by omega) (by omega))) ?_
  refine Gx.val rfl rfl rfl (val_assign rfl rfl) ?_
  refine Gx.done ?_
  refine Gx.thenN ?_
  refine Gx.block ?_
  refine Gx.loop (ι := Nat × Nat × (List Dt)) (fun ξ => (ξ.1 + 1 ≤ ξ.2.1) ∧ (ξ.2.1 ≤ xs.length) ∧ (ξ.2.2.length = xs.length) ∧ (ξ.2.2.take ξ.1 = (xs.take ξ.2.1).filter (fun x => !q x)) ∧ (∀ k, ξ.2.1 ≤ k → ξ.2.2[k]? = xs[k]?)) (fun ξ => [(0, v), (1, .func (.func 37) #[] #[ptr b1 0]), (5, .int .i64 ((ξ.1 : Nat) : Int)), (6, .int .i64 ((ξ.2.1 : Nat) : Int))]) (fun ξ => [Hp.own FD 3 v ξ.2.2, R]) (fun ξ => xs.length - ξ.2.1) (fst q xs, fst q xs + 1, xs) ⟨by first | omega | (dsimp only; omega), by first | omega | (dsimp only; omega), rfl, (fst_filter q xs hfi).symm, fun _ _ => rfl⟩ ((.cons rfl (.cons rfl (.cons rfl (.cons rfl .nil))))) rfl ?_
  rintro ⟨i3, j, ys⟩ ⟨hij, hj, hyl, htk, hrs⟩
  dsimp only at hij hj hyl htk hrs
  refine Gx.know (m' := [(0, v), (1, .func (.func 37) #[] #[ptr b1 0]), (5, .int .i64 ((i3 : Nat) : Int)), (6, .int .i64 ((j : Nat) : Int))]) (.cons rfl (.cons rfl (.cons rfl (.cons rfl .nil)))) (Gx.norm (l' := [Hp.own FD 3 v ys, R]) rfl ?_)
  refine Gx.seq ?_
  refine Gx.seq ?_
  refine Gx.region ?_
  refine Gx.val rfl rfl rfl (val_move rfl rfl) ?_
  refine Gx.val rfl rfl rfl (val_move rfl rfl) ?_
  refine Gx.val rfl rfl rfl (val_len rfl Try.underlying25 rfl (len_own (k := 0) rfl)) ?_
  refine Gx.val rfl rfl rfl (val_lss rfl rfl rfl) ?_
  refine Gx.done ?_
  refine Gx.thenN ?_
  refine Gx.dec rfl (fun h2 => ?_) (fun h2 => ?_)
  · refine Gx.skip ?_
    refine Gx.thenN ?_
    refine Gx.seq ?_
    refine Gx.block ?_
    refine Gx.seq ?_
    obtain ⟨x, hx⟩ := get_of_lt (xs := ys) (k := j) (by omega)
    have hxj : xs[j]? = some x := by rw [← hrs j (Nat.le_refl _)]; exact hx
    refine Gx.region ?_
    refine Gx.val rfl rfl rfl (val_move rfl rfl) ?_
    refine Gx.val rfl rfl rfl (val_move rfl rfl) ?_
    refine Gx.val rfl rfl rfl (val_ixa rfl Try.underlying25 Try.ty59 rfl rfl (j := j) (rfl) (reach_own (k := 0) rfl hx)) ?_
    refine Gx.val rfl rfl rfl (Val.cast (val_loadA rfl Try.ty59 rfl rfl rfl (cells_own (k := 0) rfl hx)) (v' := .agg #[.int .i64 x.item, .int .i64 x.who, .int .i64 x.n]) rfl) ?_
    refine Gx.eff rfl rfl rfl (eff_alloc rfl Try.ty59 (vs := [.int .i64 0, .int .i64 0, .int .i64 0]) rfl) ?_
    rintro _ _ ⟨b3, rfl, rfl⟩
    refine Gx.eff0 rfl rfl (eff_store rfl Try.ty59 rfl rfl (us := [.int .i64 x.item, .int .i64 x.who, .int .i64 x.n]) rfl rfl rfl (k := 0) rfl (rfl) (vs' := [.int .i64 x.item, .int .i64 x.who, .int .i64 x.n]) (rfl) (l' := [Hp.rec_ b3 [.int .i64 x.item, .int .i64 x.who, .int .i64 x.n], Hp.own FD 3 v ys, R]) rfl) ?_
    rintro _ _ rfl
    refine Gx.done ?_
    refine Gx.thenN ?_
    refine Gx.seq ?_
    refine Gx.region ?_
    refine Gx.val rfl rfl rfl (val_move rfl rfl) ?_
    refine Gx.val rfl rfl rfl (Val.cast (val_loadA rfl Try.ty59 rfl rfl rfl (cells_rec (k := 0) rfl)) (v' := .agg #[.int .i64 x.item, .int .i64 x.who, .int .i64 x.n]) rfl) ?_
    refine Gx.val rfl rfl rfl (val_callV (vs := [.agg #[.int .i64 x.item, .int .i64 x.who, .int .i64 x.n]]) (fs := []) (cs := [ptr b1 0]) rfl Try.fn37 rfl rfl (fun w H => hq w ⟨_, (H.at_ (k := 2) rfl)⟩ w (Below.refl ..) x (List.mem_of_getElem? hxj))) ?_
    refine Gx.val rfl rfl rfl (val_not rfl rfl) ?_
    refine Gx.done ?_
    refine Gx.thenN ?_
    refine Gx.bool rfl (fun h4 => ?_) (fun h4 => ?_)
    · refine Gx.seq ?_
      refine Gx.region ?_
      refine Gx.val rfl rfl rfl (val_move rfl rfl) ?_
      refine Gx.val rfl rfl rfl (val_move rfl rfl) ?_
      refine Gx.val rfl rfl rfl (Val.cast (val_loadA rfl Try.ty59 rfl rfl rfl (cells_rec (k := 0) rfl)) (v' := .agg #[.int .i64 x.item, .int .i64 x.who, .int .i64 x.n]) rfl) ?_
      obtain ⟨x5, hx5⟩ := get_of_lt (xs := ys) (k := i3) (by first | omega | (simp; omega))
      refine Gx.val rfl rfl rfl (val_ixa rfl Try.underlying25 Try.ty59 rfl rfl (j := i3) (rfl) (reach_own (k := 1) rfl hx5)) ?_
      refine Gx.eff0 rfl rfl (eff_storeElA (⟨x.item, x.who, x.n⟩ : Dt) rfl Try.ty59 rfl rfl rfl FD_one (k := 1) rfl FD_len hx5 (l' := [Hp.rec_ b3 [.int .i64 x.item, .int .i64 x.who, .int .i64 x.n], Hp.own FD 3 v (ys.set i3 (⟨x.item, x.who, x.n⟩ : Dt)), R]) rfl) ?_
      rintro _ _ rfl
      refine Gx.done ?_
      refine Gx.thenN ?_
      refine Gx.region ?_
      refine Gx.val rfl rfl rfl (val_move rfl rfl) ?_
      refine Gx.val rfl rfl rfl (val_add rfl rfl rfl (r := ((i3 + 1 : Nat) : Int)) (w64 (by omega) (by omega))) ?_
      refine Gx.val rfl rfl rfl (val_assign rfl rfl) ?_
      refine Gx.done ?_
      refine Gx.blkN ?_
      refine Gx.thenN ?_
      refine Gx.region ?_
      refine Gx.val rfl rfl rfl (val_move rfl rfl) ?_
      refine Gx.val rfl rfl rfl (val_add rfl rfl rfl (r := ((j + 1 : Nat) : Int)) (w64 (by omega) (by omega))) ?_
      refine Gx.val rfl rfl rfl (val_assign rfl rfl) ?_
      refine Gx.done ?_
      refine Gx.thenN ?_
      refine Gx.drop 0 rfl ?_
      exact Gx.round (i3 + 1, j + 1, ys.set i3 (⟨x.item, x.who, x.n⟩ : Dt)) ⟨by first | omega | (dsimp only; omega), by first | omega | (dsimp only; omega), by rw [List.length_set]; exact hyl, by dsimp only; rw [set_take9 (by omega), htk, take_snoc9 hxj, List.filter_append]; congr 1; rw [List.filter_cons_of_pos (by first | assumption | (simp; done) | simp_all)]; rfl, fun k hk => by
        dsimp only at hk ⊢
        rw [List.getElem?_set, if_neg (by omega)]; exact hrs k (by omega)⟩ (by first | omega | (dsimp only; omega)) ((.cons rfl (.cons rfl (.cons rfl (.cons rfl .nil))))) rfl
    refine Gx.skip ?_
    refine Gx.blkN ?_
    refine Gx.thenN ?_
    refine Gx.region ?_
    refine Gx.val rfl rfl rfl (val_move rfl rfl) ?_
    refine Gx.val rfl rfl rfl (val_add rfl rfl rfl (r := ((j + 1 : Nat) : Int)) (w64 (by omega) (by omega))) ?_
    refine Gx.val rfl rfl rfl (val_assign rfl rfl) ?_
    refine Gx.done ?_
    refine Gx.thenN ?_
    refine Gx.drop 0 rfl ?_
    exact Gx.round (i3, j + 1, ys) ⟨by first | omega | (dsimp only; omega), by first | omega | (dsimp only; omega), hyl, by dsimp only; rw [htk, take_snoc9 hxj, List.filter_append, List.filter_cons_of_neg (by first | assumption | simp_all)]; simp, fun k hk => hrs k (by dsimp only at hk; omega)⟩ (by first | omega | (dsimp only; omega)) ((.cons rfl (.cons rfl (.cons rfl (.cons rfl .nil))))) rfl
  refine Gx.exit ?_
  refine Gx.thenE ?_
  refine Gx.thenE ?_
  refine Gx.blkE ?_
  refine Gx.thenN ?_
  refine Gx.seq ?_
  refine Gx.region ?_
  refine Gx.val rfl rfl rfl (val_move rfl rfl) ?_
  refine Gx.val rfl rfl rfl (val_move rfl rfl) ?_
  refine Gx.val rfl rfl rfl (val_cutFromO (lo := i3) rfl Try.underlying25 Try.ty59 rfl (n := 0) rfl rfl (rfl) (by omega)) ?_
  refine Gx.eff0 rfl rfl (eff_clear (f := FD) (v := v) (lo := i3) (up := ys.length) rfl Try.underlying25 Try.ty59 rfl (k := 0) rfl FD_len FD_one (⟨0, 0, 0⟩ : Dt) rfl (by omega) (by omega) (l' := [Hp.own FD 3 v (clr ys (⟨0, 0, 0⟩ : Dt) i3 (ys.length - i3)), R]) rfl) ?_
  rintro _ _ rfl
  refine Gx.done ?_
  refine Gx.thenN ?_
  refine Gx.seq ?_
  refine Gx.region ?_
  refine Gx.val rfl rfl rfl (val_move rfl rfl) ?_
  refine Gx.val rfl rfl rfl (val_move rfl rfl) ?_
  refine Gx.val rfl rfl rfl (val_cutToO (up := i3) rfl Try.underlying25 Try.ty59 rfl (n := 0) rfl rfl (rfl) (by rw [clr_len]; omega)) ?_
  refine Gx.val rfl rfl rfl (val_assign rfl rfl) ?_
  refine Gx.done ?_
  refine Gx.thenN ?_
  refine Gx.ret ?_
  refine Gx.ownCut (k := 0) 0 i3 rfl (Nat.zero_le _) (by rw [clr_len]; omega) rfl ?_
  obtain rfl : j = xs.length := by omega
  rw [List.take_length] at htk
  refine Gx.norm (l' := [Hp.own FD 3 (sCut 3 0 i3 v) (xs.filter fun x => !q x), R]) (by rw [← htk, List.drop_zero, clr_take _ _ _ _ _ (Nat.le_refl _)] <;> rfl) ?_
  refine Gx.ret1 Try.results38 rfl ?_
  exact ⟨sCut_isS hi, sep1 _ _⟩

theorem change1_any {W : World} {b : Nat} {it : Int} (d : Dt) (hb : b < W.heap.size) (hbc : W.cell? ⟨b, 3, none⟩ = some (.int .i64 it)) : Calls Try.prog 37 #[.agg #[.int .i64 d.item, .int .i64 d.who, .int .i64 d.n], ptr b 0] W fun e w' => e = .returned (.bool (decide (d.item ≠ it))) ∧ Below W.heap.size W w' := by
  refine calls_pure (Gx.enter (l := []) Try.func37 rfl Try.ntmps37 rfl (Sat.start W) ?_)
  refine Gx.know (m' := [(0, .agg #[.int .i64 d.item, .int .i64 d.who, .int .i64 d.n]), (1, ptr b 0)]) (.cons rfl (.cons rfl .nil)) ?_
  refine Gx.seq ?_
  refine Gx.region ?_
  refine Gx.eff rfl rfl rfl (eff_box rfl rfl (vs := [.int .i64 d.item, .int .i64 d.who, .int .i64 d.n]) rfl) ?_
  rintro _ _ ⟨b1, rfl, rfl⟩
  refine Gx.val rfl rfl rfl (val_assign rfl rfl) ?_
  refine Gx.done ?_
  refine Gx.thenN ?_
  refine Gx.seq ?_
  refine Gx.region ?_
  refine Gx.val rfl rfl rfl (Val.cast (val_fieldAddr rfl Try.underlying59 rfl Try.ty3 rfl rfl) (v' := ptr b1 0) rfl) ?_
  refine Gx.val rfl rfl rfl (val_load rfl Try.ty3 rfl rfl (cell_rec (k := 0) rfl rfl)) ?_
  refine Gx.val rfl rfl rfl (Val.cast (val_fieldAddr rfl Try.underlying42 rfl Try.ty3 rfl rfl) (v' := ptr b 3) rfl) ?_
  refine Gx.val rfl rfl rfl (val_load rfl Try.ty3 rfl rfl (cell_old hb hbc)) ?_
  refine Gx.val rfl rfl rfl (val_neq rfl rfl rfl) ?_
  refine Gx.val rfl rfl rfl (val_assign rfl rfl) ?_
  refine Gx.done ?_
  refine Gx.thenN ?_
  refine Gx.ret ?_
  refine Gx.ret1 Try.results37 rfl ?_
  exact congrArg Value.bool (by first | rfl | exact decide_eq_decide.2 (by omega))

theorem Try.eL : Elem Try.prog 22 2 (.int .i64 0) 1 8 := ⟨Try.underlying22, by kernel_rfl, rfl, by decide⟩
theorem cloneIN {W : World} {n9 c9 : Nat} {xs : List Int}  (hs : SlS FI 1 W (.slice none n9 c9) xs) (hl : xs.length ≤ 65000) (e0 : xs = []) :
    Calls Try.prog 36 #[.slice none n9 c9] W (Ret W fun v l9 => IsS v ∧ l9 = [Hp.own FI 1 v xs]) := by
    refine Gx.enter (l := []) Try.func36 rfl Try.ntmps36 rfl (Sat.start W) ?_
    refine Gx.know (m' := [(0, .slice none n9 c9)]) (.cons rfl .nil) ?_
    refine Gx.seq ?_
    refine Gx.region ?_
    refine Gx.val rfl rfl rfl (val_assign rfl rfl) ?_
    refine Gx.done ?_
    refine Gx.thenN ?_
    refine Gx.seq ?_
    refine Gx.seq ?_
    refine Gx.region ?_
    refine Gx.val rfl rfl rfl (val_move rfl rfl) ?_
    refine Gx.val rfl rfl rfl (val_eqlSN rfl Try.underlying22 rfl rfl) ?_
    refine Gx.done ?_
    refine Gx.thenN ?_
    refine Gx.t rfl ?_
    refine Gx.seq ?_
    refine Gx.region ?_
    refine Gx.val rfl rfl rfl (val_assign rfl rfl) ?_
    refine Gx.done ?_
    refine Gx.thenN ?_
    refine Gx.ret ?_
    refine Gx.thenR ?_
    refine Gx.ownNil FI 1 ?_
    refine Gx.ret1 Try.results36 rfl ?_
    exact ⟨⟨none, 0, 0, rfl⟩, by rw [e0]⟩

theorem cloneIS {W : World} {n9 c9 : Nat} {xs : List Int} {a9 : Addr} (hs : SlS FI 1 W (.slice (some a9) n9 c9) xs) (hl : xs.length ≤ 65000)  :
    Calls Try.prog 36 #[.slice (some a9) n9 c9] W (Ret W fun v l9 => IsS v ∧ l9 = [Hp.own FI 1 v xs]) := by
    refine Gx.enter (l := []) Try.func36 rfl Try.ntmps36 rfl (Sat.start W) ?_
    refine Gx.know (m' := [(0, .slice (some a9) n9 c9)]) (.cons rfl .nil) ?_
    refine Gx.seq ?_
    refine Gx.region ?_
    refine Gx.val rfl rfl rfl (val_assign rfl rfl) ?_
    refine Gx.done ?_
    refine Gx.thenN ?_
    refine Gx.seq ?_
    refine Gx.seq ?_
    refine Gx.region ?_
    refine Gx.val rfl rfl rfl (val_move rfl rfl) ?_
    refine Gx.val rfl rfl rfl (val_eqlSN rfl Try.underlying22 rfl rfl) ?_
    refine Gx.done ?_
    refine Gx.thenN ?_
    refine Gx.f rfl ?_
    refine Gx.skip ?_
    refine Gx.thenN ?_
    refine Gx.seq ?_
    refine Gx.region ?_
    refine Gx.eff rfl rfl rfl (eff_buildNil (f := FI) (sz := 1) (e := 2) rfl Try.underlying22 (fun w => by first | (go_simp; done) | (go_simp; rfl))) ?_
    rintro v1 _ ⟨hiv1, rfl⟩
    refine Gx.val rfl rfl rfl (val_move rfl rfl) ?_
    refine Gx.eff rfl rfl rfl (eff_pushAll (k := 0) (ys := xs) rfl Try.eL FI_len FI_one rfl rfl (fun w H => hs.below H.below) rfl (by simp; omega) (by simp; omega)) ?_
    rintro v2 _ ⟨hiv2, rfl⟩
    refine Gx.norm (l' := [Hp.own FI 1 v2 xs]) rfl ?_
    refine Gx.val rfl rfl rfl (val_assign rfl rfl) ?_
    refine Gx.done ?_
    refine Gx.thenN ?_
    refine Gx.ret ?_
    refine Gx.ret1 Try.results36 rfl ?_
    exact ⟨hiv2, rfl⟩

theorem cloneI_any {W : World} {va : Value} {xs : List Int} (hs : SlS FI 1 W va xs) (hl : xs.length ≤ 65000) :
    Calls Try.prog 36 #[va] W (Ret W fun v l9 => IsS v ∧ l9 = [Hp.own FI 1 v xs]) := by
  obtain ⟨a, n9, c9, rfl⟩ := hs.isS
  cases a with
  | none => exact cloneIN hs hl (by
      obtain ⟨a', cap, e, _, _, hc⟩ := hs
      cases e
      cases xs with
      | nil => rfl
      | cons x l => obtain ⟨b, o, h, _⟩ := hc 0 x rfl; cases h)
  | some a9 => exact cloneIS hs hl

theorem cloneDN {W : World} {n9 c9 : Nat} {xs : List Dt}  (hs : SlS FD 3 W (.slice none n9 c9) xs) (hl : xs.length ≤ 65000) (e0 : xs = []) :
    Calls Try.prog 39 #[.slice none n9 c9] W (Ret W fun v l9 => IsS v ∧ l9 = [Hp.own FD 3 v xs]) := by
    refine Gx.enter (l := []) Try.func39 rfl Try.ntmps39 rfl (Sat.start W) ?_
    refine Gx.know (m' := [(0, .slice none n9 c9)]) (.cons rfl .nil) ?_
    refine Gx.seq ?_
    refine Gx.region ?_
    refine Gx.val rfl rfl rfl (val_assign rfl rfl) ?_
    refine Gx.done ?_
    refine Gx.thenN ?_
    refine Gx.seq ?_
    refine Gx.seq ?_
    refine Gx.region ?_
    refine Gx.val rfl rfl rfl (val_move rfl rfl) ?_
    refine Gx.val rfl rfl rfl (val_eqlSN rfl Try.underlying25 rfl rfl) ?_
    refine Gx.done ?_
    refine Gx.thenN ?_
    refine Gx.t rfl ?_
    refine Gx.seq ?_
    refine Gx.region ?_
    refine Gx.val rfl rfl rfl (val_assign rfl rfl) ?_
    refine Gx.done ?_
    refine Gx.thenN ?_
    refine Gx.ret ?_
    refine Gx.thenR ?_
    refine Gx.ownNil FD 3 ?_
    refine Gx.ret1 Try.results39 rfl ?_
    exact ⟨⟨none, 0, 0, rfl⟩, by rw [e0]⟩

theorem cloneDS {W : World} {n9 c9 : Nat} {xs : List Dt} {a9 : Addr} (hs : SlS FD 3 W (.slice (some a9) n9 c9) xs) (hl : xs.length ≤ 65000)  :
    Calls Try.prog 39 #[.slice (some a9) n9 c9] W (Ret W fun v l9 => IsS v ∧ l9 = [Hp.own FD 3 v xs]) := by
    refine Gx.enter (l := []) Try.func39 rfl Try.ntmps39 rfl (Sat.start W) ?_
    refine Gx.know (m' := [(0, .slice (some a9) n9 c9)]) (.cons rfl .nil) ?_
    refine Gx.seq ?_
    refine Gx.region ?_
    refine Gx.val rfl rfl rfl (val_assign rfl rfl) ?_
    refine Gx.done ?_
    refine Gx.thenN ?_
    refine Gx.seq ?_
    refine Gx.seq ?_
    refine Gx.region ?_
    refine Gx.val rfl rfl rfl (val_move rfl rfl) ?_
    refine Gx.val rfl rfl rfl (val_eqlSN rfl Try.underlying25 rfl rfl) ?_
    refine Gx.done ?_
    refine Gx.thenN ?_
    refine Gx.f rfl ?_
    refine Gx.skip ?_
    refine Gx.thenN ?_
    refine Gx.seq ?_
    refine Gx.region ?_
    refine Gx.eff rfl rfl rfl (eff_buildNil (f := FD) (sz := 3) (e := 59) rfl Try.underlying25 (fun w => by first | (go_simp; done) | (go_simp; rfl))) ?_
    rintro v1 _ ⟨hiv1, rfl⟩
    refine Gx.val rfl rfl rfl (val_move rfl rfl) ?_
    refine Gx.eff rfl rfl rfl (eff_pushAll (k := 0) (ys := xs) rfl Try.eD FD_len FD_one rfl rfl (fun w H => hs.below H.below) rfl (by simp; omega) (by simp; omega)) ?_
    rintro v2 _ ⟨hiv2, rfl⟩
    refine Gx.norm (l' := [Hp.own FD 3 v2 xs]) rfl ?_
    refine Gx.val rfl rfl rfl (val_assign rfl rfl) ?_
    refine Gx.done ?_
    refine Gx.thenN ?_
    refine Gx.ret ?_
    refine Gx.ret1 Try.results39 rfl ?_
    exact ⟨hiv2, rfl⟩

theorem cloneD_any {W : World} {va : Value} {xs : List Dt} (hs : SlS FD 3 W va xs) (hl : xs.length ≤ 65000) :
    Calls Try.prog 39 #[va] W (Ret W fun v l9 => IsS v ∧ l9 = [Hp.own FD 3 v xs]) := by
  obtain ⟨a, n9, c9, rfl⟩ := hs.isS
  cases a with
  | none => exact cloneDN hs hl (by
      obtain ⟨a', cap, e, _, _, hc⟩ := hs
      cases e
      cases xs with
      | nil => rfl
      | cons x l => obtain ⟨b, o, h, _⟩ := hc 0 x rfl; cases h)
  | some a9 => exact cloneDS hs hl

end Go.Proofs.Ytfpkfbffpkjgbaa
