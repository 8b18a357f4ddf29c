/- A copy; what has not come. The walks. No condition. -/
import Derived.Test.YtbfcfekpfgpfbaaA3
namespace Go.Proofs.Ytbfcfekpfgpfbaa
open Go.RowKit
set_option linter.unusedVariables false
set_option linter.unusedSimpArgs false
set_option maxRecDepth 100000

def firstC : List Mg → Nat
  | [] => 0
  | m :: l => if m.come = true then 0 else firstC l + 1
theorem firstC_le : ∀ l, firstC l ≤ l.length
  | [] => Nat.le_refl _
  | m :: l => by simp only [firstC]; split <;> simp; exact firstC_le l
theorem firstC_at : ∀ {l : List Mg} {k : Nat} {m : Mg}, l[k]? = some m → k ≤ firstC l → (m.come = true → firstC l = k) ∧ (m.come = false → k + 1 ≤ firstC l)
  | [], k, m, h, _ => by simp at h
  | c :: l, 0, m, h, _ => by
    simp at h; subst h
    simp only [firstC]
    exact ⟨fun h => by rw [if_pos h], fun h => by rw [if_neg (by rw [h]; decide)]; omega⟩
  | c :: l, k + 1, m, h, hk => by
    simp only [firstC] at hk ⊢
    split at hk
    · omega
    · rename_i hc
      rw [if_neg hc]
      obtain ⟨h1, h2⟩ := firstC_at (l := l) (k := k) (m := m) (by simpa using h) (by omega)
      exact ⟨fun q => by rw [h1 q], fun q => by have := h2 q; omega⟩
theorem firstC_before : ∀ {l : List Mg} {k : Nat} {m : Mg}, l[k]? = some m → k < firstC l → m.come = false
  | [], k, m, h, _ => by simp at h
  | c :: l, 0, m, h, hk => by
    simp at h; subst h
    simp only [firstC] at hk
    split at hk
    · omega
    · rename_i hc; simpa using hc
  | c :: l, k + 1, m, h, hk => by
    simp only [firstC] at hk
    split at hk
    · omega
    · exact firstC_before (l := l) (k := k) (by simpa using h) (by omega)
theorem firstC_here : ∀ {l : List Mg}, firstC l < l.length → ∃ m, l[firstC l]? = some m ∧ m.come = true
  | [], h => by simp at h
  | c :: l, h => by
    by_cases hc : c.come = true
    · exact ⟨c, by simp only [firstC]; rw [if_pos hc]; rfl, hc⟩
    · simp only [firstC] at h ⊢
      rw [if_neg hc] at h ⊢
      simp only [List.length_cons] at h
      obtain ⟨m, h1, h2⟩ := firstC_here (l := l) (by omega)
      exact ⟨m, by simpa using h1, h2⟩
def notC (l : List Mg) : Nat := (l.filter fun m => !m.come).length
theorem notC_take {l : List Mg} {k : Nat} {m : Mg} (h : l[k]? = some m) : notC (l.take (k + 1)) = notC (l.take k) + if m.come = true then 0 else 1 := by
  unfold notC
  rw [take_of h, List.filter_append]
  by_cases q : m.come = true <;> simp [q]
theorem notC_le (l : List Mg) : notC l ≤ l.length := List.length_filter_le ..
theorem notC_none {l : List Mg} : ∀ k, k ≤ firstC l → notC (l.take k) = k
  | 0, _ => by simp [notC]
  | k + 1, h => by
    have hl := firstC_le l
    obtain ⟨m, hm⟩ := get_of_lt (xs := l) (k := k) (by omega)
    rw [notC_take hm, notC_none k (by omega), firstC_before hm (by omega)]; rfl
theorem notC_came : ∀ l : List Mg, notC l + cameN l = l.length
  | [] => rfl
  | m :: l => by
    have := notC_came l
    unfold notC cameN at *
    by_cases q : m.come = true <;> simp [List.filter_cons, q] <;> omega
theorem pred_any {W : World} (m : Mg) : Calls Try.prog 11 #[.agg #[.int .i64 ((m.frm : Nat) : Int), .int .i64 ((m.to : Nat) : Int), .int .i64 ((m.what : Nat) : Int), .int .i64 m.n, .bool m.come]] W fun e w' => e = .returned (.bool m.come) ∧ Below W.heap.size W w' := by
  refine calls_pure (Gx.enter (l := []) Try.func11 rfl Try.ntmps11 rfl (Sat.start W) ?_)
  refine Gx.know (m' := [(0, .agg #[.int .i64 ((m.frm : Nat) : Int), .int .i64 ((m.to : Nat) : Int), .int .i64 ((m.what : Nat) : Int), .int .i64 m.n, .bool m.come])]) (.cons rfl .nil) ?_
  refine Gx.seq ?_
  refine Gx.region ?_
  refine Gx.eff rfl rfl rfl (eff_box rfl rfl (vs := [.int .i64 ((m.frm : Nat) : Int), .int .i64 ((m.to : Nat) : Int), .int .i64 ((m.what : Nat) : Int), .int .i64 m.n, .bool m.come]) rfl) ?_
  rintro _ _ ⟨b1, rfl, rfl⟩
  refine Gx.val rfl rfl rfl (val_assign rfl rfl) ?_
  refine Gx.done ?_
  refine Gx.thenN ?_
  refine Gx.seq ?_
  refine Gx.region ?_
  refine Gx.val rfl rfl rfl (Val.cast (val_fieldAddr rfl Try.underlying48 rfl Try.ty4 rfl rfl) (v' := ptr b1 4) rfl) ?_
  refine Gx.val rfl rfl rfl (val_load rfl Try.ty4 rfl rfl (cell_rec (k := 0) rfl rfl)) ?_
  refine Gx.val rfl rfl rfl (val_assign rfl rfl) ?_
  refine Gx.done ?_
  refine Gx.thenN ?_
  refine Gx.ret ?_
  refine Gx.ret1 Try.results11 rfl ?_
  rfl

theorem index_any {W w : World} {cv : Value} {xs : List Mg} {R : Hp} (hl : xs.length ≤ 100000) (H : Sat W w (Hp.own FG 5 cv xs * R)) :
    Calls Try.prog 20 #[cv, .func (.func 11) #[] #[]] w (Ret W fun v l => v = .int .i64 (if firstC xs < xs.length then ((firstC xs : Nat) : Int) else -1) ∧ sep l = Hp.own FG 5 cv xs * R) := by
  refine Gx.enter (l := [Hp.own FG 5 cv xs, R]) Try.func20 rfl Try.ntmps20 rfl ((H.cast (congrArg _ (Hp.mul_one _).symm))) ?_
  refine Gx.know (m' := [(0, cv), (1, .func (.func 11) #[] #[])]) (.cons rfl (.cons rfl .nil)) ?_
  refine Gx.seq ?_
  refine Gx.region ?_
  refine Gx.val rfl rfl rfl (val_assign rfl rfl) ?_
  refine Gx.done ?_
  refine Gx.thenN ?_
  refine Gx.seq ?_
  refine Gx.seq ?_
  refine Gx.region ?_
  refine Gx.val rfl rfl rfl (val_move rfl rfl) ?_
  refine Gx.val rfl rfl rfl (val_len rfl Try.underlying39 rfl (len_own (k := 0) rfl)) ?_
  refine Gx.val rfl rfl rfl (val_move rfl rfl) ?_
  refine Gx.done ?_
  refine Gx.thenN ?_
  refine Gx.block ?_
  refine Gx.loop (ι := Nat) (fun ξ => (ξ ≤ firstC xs)) (fun ξ => [(0, cv), (1, .func (.func 11) #[] #[]), (6, cv), (7, .int .i64 ((xs.length : Nat) : Int)), (8, .int .i64 ((ξ : Nat) : Int))]) (fun ξ => [Hp.own FG 5 cv xs, R]) (fun ξ => xs.length - ξ) 0 (Nat.zero_le _) ((.cons rfl (.cons rfl (.cons rfl (.cons rfl (.cons rfl .nil)))))) rfl ?_
  rintro k hk
  refine Gx.know (m' := [(0, cv), (1, .func (.func 11) #[] #[]), (6, cv), (7, .int .i64 ((xs.length : Nat) : Int)), (8, .int .i64 ((k : Nat) : Int))]) (.cons rfl (.cons rfl (.cons rfl (.cons rfl (.cons rfl .nil))))) (Gx.norm (l' := [Hp.own FG 5 cv xs, R]) rfl ?_)
  refine Gx.seq ?_
  refine Gx.region ?_
  refine Gx.val rfl rfl rfl (val_lss rfl rfl rfl) ?_
  refine Gx.done ?_
  refine Gx.thenN ?_
  refine Gx.seq ?_
  refine Gx.dec rfl (fun h1 => ?_) (fun h1 => ?_)
  · refine Gx.skip ?_
    refine Gx.thenN ?_
    refine Gx.seq ?_
    refine Gx.block ?_
    refine Gx.seq ?_
    refine Gx.region ?_
    refine Gx.val rfl rfl rfl (val_move rfl rfl) ?_
    refine Gx.val rfl rfl rfl (val_assign rfl rfl) ?_
    refine Gx.done ?_
    refine Gx.thenN ?_
    refine Gx.seq ?_
    refine Gx.region ?_
    refine Gx.val rfl rfl rfl (val_move rfl rfl) ?_
    refine Gx.val rfl rfl rfl (val_move rfl rfl) ?_
    refine Gx.val rfl rfl rfl (val_move rfl rfl) ?_
    obtain ⟨x2, hx2⟩ := get_of_lt (xs := xs) (k := k) (by omega)
    refine Gx.val rfl rfl rfl (val_ixa rfl Try.underlying39 Try.ty48 rfl rfl (j := k) (rfl) (reach_own (k := 0) rfl hx2)) ?_
    refine Gx.val rfl rfl rfl (Val.cast (val_loadA rfl Try.ty48 rfl rfl rfl (cells_own (k := 0) rfl hx2)) (v' := .agg #[.int .i64 ((x2.frm : Nat) : Int), .int .i64 ((x2.to : Nat) : Int), .int .i64 ((x2.what : Nat) : Int), .int .i64 x2.n, .bool x2.come]) rfl) ?_
    refine Gx.val rfl rfl rfl (val_callV (vs := [.agg #[.int .i64 ((x2.frm : Nat) : Int), .int .i64 ((x2.to : Nat) : Int), .int .i64 ((x2.what : Nat) : Int), .int .i64 x2.n, .bool x2.come]]) (fs := []) (cs := []) rfl Try.fn11 rfl rfl (fun w H => pred_any x2)) ?_
    refine Gx.done ?_
    refine Gx.thenN ?_
    refine Gx.bool rfl (fun h3 => ?_) (fun h3 => ?_)
    · refine Gx.seq ?_
      refine Gx.region ?_
      refine Gx.val rfl rfl rfl (val_move rfl rfl) ?_
      refine Gx.val rfl rfl rfl (val_assign rfl rfl) ?_
      refine Gx.done ?_
      refine Gx.thenN ?_
      refine Gx.ret ?_
      refine Gx.blkR ?_
      refine Gx.thenR ?_
      refine Gx.thenR ?_
      refine Gx.blkR ?_
      refine Gx.thenR ?_
      refine Gx.ret1 Try.results20 rfl ?_
      have h9 := (firstC_at hx2 hk).1 h3
      exact ⟨by rw [if_pos (by omega), h9], sep1 _ _⟩
    · refine Gx.skip ?_
      refine Gx.blkN ?_
      refine Gx.thenN ?_
      refine Gx.region ?_
      refine Gx.val rfl rfl rfl (val_add rfl rfl rfl (r := ((k + 1 : Nat) : Int)) (w64 (by omega) (by omega))) ?_
      refine Gx.val rfl rfl rfl (val_move rfl rfl) ?_
      refine Gx.done ?_
      refine Gx.thenN ?_
      exact Gx.round (k + 1) ((firstC_at hx2 hk).2 (by simpa using h3)) (by first | omega | (dsimp only; omega)) ((.cons rfl (.cons rfl (.cons rfl (.cons rfl (.cons rfl .nil)))))) rfl
  · refine Gx.exit ?_
    refine Gx.thenE ?_
    refine Gx.thenE ?_
    refine Gx.blkE ?_
    refine Gx.thenN ?_
    refine Gx.seq ?_
    refine Gx.region ?_
    refine Gx.val rfl rfl rfl (val_assign rfl rfl) ?_
    refine Gx.done ?_
    refine Gx.thenN ?_
    refine Gx.ret ?_
    refine Gx.ret1 Try.results20 rfl ?_
    have h9 := firstC_le xs
    exact ⟨by rw [if_neg (by omega)], sep1 _ _⟩

theorem delete_none {W w : World} {cv : Value} {xs : List Mg} {R : Hp} (hi : IsS cv) (hl : xs.length ≤ 100000) (hf : firstC xs = xs.length) (H : Sat W w (Hp.own FG 5 cv xs * R)) :
    Calls Try.prog 12 #[cv, .func (.func 11) #[] #[]] w (Ret W fun v l => cv = v ∧ sep l = Hp.own FG 5 cv xs * R) := by
  refine Gx.enter (l := [Hp.own FG 5 cv xs, R]) Try.func12 rfl Try.ntmps12 rfl ((H.cast (congrArg _ (Hp.mul_one _).symm))) ?_
  refine Gx.know (m' := [(0, cv), (1, .func (.func 11) #[] #[])]) (.cons rfl (.cons rfl .nil)) ?_
  refine Gx.seq ?_
  refine Gx.region ?_
  refine Gx.val rfl rfl rfl (val_assign rfl rfl) ?_
  refine Gx.done ?_
  refine Gx.thenN ?_
  refine Gx.seq ?_
  refine Gx.region ?_
  refine Gx.val rfl rfl rfl (val_move rfl rfl) ?_
  refine Gx.val rfl rfl rfl (val_move rfl rfl) ?_
  refine Gx.eff rfl rfl rfl (eff_call (vs := [cv, .func (.func 11) #[] #[]]) rfl Try.fn20 rfl (fun w H => by have h9 := index_any hl (H.at_ (k := 0) rfl); rw [if_neg (by omega)] at h9; exact h9)) ?_
  rintro _ l1 ⟨rfl, hl1⟩
  refine Gx.sepEq (l' := [Hp.own FG 5 cv xs, R]) hl1 ?_
  refine Gx.val rfl rfl rfl (val_assign rfl rfl) ?_
  refine Gx.done ?_
  refine Gx.thenN ?_
  refine Gx.seq ?_
  refine Gx.seq ?_
  refine Gx.region ?_
  refine Gx.val rfl rfl rfl (val_move rfl rfl) ?_
  refine Gx.val rfl rfl rfl (Val.cast (val_eql rfl rfl rfl) (v' := .bool true) rfl) ?_
  refine Gx.done ?_
  refine Gx.thenN ?_
  refine Gx.t rfl ?_
  refine Gx.seq ?_
  refine Gx.region ?_
  refine Gx.val rfl rfl rfl (val_move rfl rfl) ?_
  refine Gx.val rfl rfl rfl (val_assign rfl rfl) ?_
  refine Gx.done ?_
  refine Gx.thenN ?_
  refine Gx.ret ?_
  refine Gx.thenR ?_
  refine Gx.ret1 Try.results12 rfl ?_
  exact ⟨rfl, sep1 _ _⟩

theorem delete_some {W w : World} {cv : Value} {xs : List Mg} {R : Hp} (hi : IsS cv) (hl : xs.length ≤ 100000) (hf : firstC xs < xs.length) (H : Sat W w (Hp.own FG 5 cv xs * R)) :
    Calls Try.prog 12 #[cv, .func (.func 11) #[] #[]] w (Ret W fun v l => ∃ ys : List Mg, v = sCut 5 0 (notC xs) cv ∧ sep l = Hp.own FG 5 cv ys * R) := by
  refine Gx.enter (l := [Hp.own FG 5 cv xs, R]) Try.func12 rfl Try.ntmps12 rfl ((H.cast (congrArg _ (Hp.mul_one _).symm))) ?_
  refine Gx.know (m' := [(0, cv), (1, .func (.func 11) #[] #[])]) (.cons rfl (.cons rfl .nil)) ?_
  refine Gx.seq ?_
  refine Gx.region ?_
  refine Gx.val rfl rfl rfl (val_assign rfl rfl) ?_
  refine Gx.done ?_
  refine Gx.thenN ?_
  refine Gx.seq ?_
  refine Gx.region ?_
  refine Gx.val rfl rfl rfl (val_move rfl rfl) ?_
  refine Gx.val rfl rfl rfl (val_move rfl rfl) ?_
  refine Gx.eff rfl rfl rfl (eff_call (vs := [cv, .func (.func 11) #[] #[]]) rfl Try.fn20 rfl (fun w H => by have h9 := index_any hl (H.at_ (k := 0) rfl); rw [if_pos hf] at h9; exact h9)) ?_
  rintro _ l1 ⟨rfl, hl1⟩
  refine Gx.sepEq (l' := [Hp.own FG 5 cv xs, R]) hl1 ?_
  refine Gx.val rfl rfl rfl (val_assign rfl rfl) ?_
  refine Gx.done ?_
  refine Gx.thenN ?_
  refine Gx.seq ?_
  refine Gx.seq ?_
  refine Gx.region ?_
  refine Gx.val rfl rfl rfl (val_move rfl rfl) ?_
  refine Gx.val rfl rfl rfl (val_eql rfl rfl rfl) ?_
  refine Gx.done ?_
  refine Gx.thenN ?_
  refine Gx.decF rfl (by omega) ?_
  refine Gx.skip ?_
  refine Gx.thenN ?_
  refine Gx.seq ?_
  refine Gx.seq ?_
  refine Gx.region ?_
  refine Gx.val rfl rfl rfl (val_move rfl rfl) ?_
  refine Gx.val rfl rfl rfl (val_add rfl rfl rfl (r := ((firstC xs + 1 : Nat) : Int)) (w64 (by omega) (by omega))) ?_
  refine Gx.val rfl rfl rfl (val_assign rfl rfl) ?_
  refine Gx.done ?_
  refine Gx.thenN ?_
  refine Gx.block ?_
  refine Gx.loop (ι := Nat × Nat × (List Mg)) (fun ξ => (ξ.2.2.length = xs.length) ∧ (ξ.2.1 < ξ.1) ∧ (ξ.1 ≤ xs.length) ∧ (ξ.2.1 = notC (xs.take ξ.1)) ∧ (∀ q, ξ.1 ≤ q → ξ.2.2[q]? = xs[q]?)) (fun ξ => [(0, cv), (1, .func (.func 11) #[] #[]), (5, .int .i64 ((ξ.2.1 : Nat) : Int)), (6, .int .i64 ((ξ.1 : Nat) : Int))]) (fun ξ => [Hp.own FG 5 cv ξ.2.2, R]) (fun ξ => xs.length - ξ.1) (firstC xs + 1, firstC xs, xs) ⟨rfl, Nat.lt_succ_self _, hf, by obtain ⟨m9, h9, h8⟩ := firstC_here hf; dsimp only; rw [notC_take h9, notC_none _ (Nat.le_refl _), if_pos h8, Nat.add_zero], fun q _ => rfl⟩ ((.cons rfl (.cons rfl (.cons rfl (.cons rfl .nil))))) rfl ?_
  rintro ⟨j, i2, ys⟩ ⟨hyl, hij, hj, hi2, hq⟩
  dsimp only at hyl hij hj hi2 hq
  refine Gx.know (m' := [(0, cv), (1, .func (.func 11) #[] #[]), (5, .int .i64 ((i2 : Nat) : Int)), (6, .int .i64 ((j : Nat) : Int))]) (.cons rfl (.cons rfl (.cons rfl (.cons rfl .nil)))) (Gx.norm (l' := [Hp.own FG 5 cv ys, R]) rfl ?_)
  refine Gx.seq ?_
  refine Gx.seq ?_
  refine Gx.region ?_
  refine Gx.val rfl rfl rfl (val_move rfl rfl) ?_
  refine Gx.val rfl rfl rfl (val_move rfl rfl) ?_
  refine Gx.val rfl rfl rfl (val_len rfl Try.underlying39 rfl (len_own (k := 0) rfl)) ?_
  refine Gx.val rfl rfl rfl (val_lss rfl rfl rfl) ?_
  refine Gx.done ?_
  refine Gx.thenN ?_
  refine Gx.dec rfl (fun h2 => ?_) (fun h2 => ?_)
  · refine Gx.skip ?_
    refine Gx.thenN ?_
    refine Gx.seq ?_
    refine Gx.block ?_
    refine Gx.seq ?_
    obtain ⟨x9, hxj⟩ := get_of_lt (xs := xs) (k := j) (by omega)
    have hyj : ys[j]? = some x9 := by rw [hq j (Nat.le_refl _)]; exact hxj
    refine Gx.region ?_
    refine Gx.val rfl rfl rfl (val_move rfl rfl) ?_
    refine Gx.val rfl rfl rfl (val_move rfl rfl) ?_
    refine Gx.val rfl rfl rfl (val_ixa rfl Try.underlying39 Try.ty48 rfl rfl (j := j) (rfl) (reach_own (k := 0) rfl hyj)) ?_
    refine Gx.val rfl rfl rfl (Val.cast (val_loadA rfl Try.ty48 rfl rfl rfl (cells_own (k := 0) rfl hyj)) (v' := .agg #[.int .i64 ((x9.frm : Nat) : Int), .int .i64 ((x9.to : Nat) : Int), .int .i64 ((x9.what : Nat) : Int), .int .i64 x9.n, .bool x9.come]) rfl) ?_
    refine Gx.eff rfl rfl rfl (eff_alloc rfl Try.ty48 (vs := [.int .i64 0, .int .i64 0, .int .i64 0, .int .i64 0, .bool false]) rfl) ?_
    rintro _ _ ⟨b3, rfl, rfl⟩
    refine Gx.eff0 rfl rfl (eff_store rfl Try.ty48 rfl rfl (us := [.int .i64 ((x9.frm : Nat) : Int), .int .i64 ((x9.to : Nat) : Int), .int .i64 ((x9.what : Nat) : Int), .int .i64 x9.n, .bool x9.come]) rfl rfl rfl (k := 0) rfl (rfl) (vs' := [.int .i64 ((x9.frm : Nat) : Int), .int .i64 ((x9.to : Nat) : Int), .int .i64 ((x9.what : Nat) : Int), .int .i64 x9.n, .bool x9.come]) (rfl) (l' := [Hp.rec_ b3 [.int .i64 ((x9.frm : Nat) : Int), .int .i64 ((x9.to : Nat) : Int), .int .i64 ((x9.what : Nat) : Int), .int .i64 x9.n, .bool x9.come], Hp.own FG 5 cv ys, R]) rfl) ?_
    rintro _ _ rfl
    refine Gx.done ?_
    refine Gx.thenN ?_
    refine Gx.seq ?_
    refine Gx.region ?_
    refine Gx.val rfl rfl rfl (val_move rfl rfl) ?_
    refine Gx.val rfl rfl rfl (Val.cast (val_loadA rfl Try.ty48 rfl rfl rfl (cells_rec (k := 0) rfl)) (v' := .agg #[.int .i64 ((x9.frm : Nat) : Int), .int .i64 ((x9.to : Nat) : Int), .int .i64 ((x9.what : Nat) : Int), .int .i64 x9.n, .bool x9.come]) rfl) ?_
    refine Gx.val rfl rfl rfl (val_callV (vs := [.agg #[.int .i64 ((x9.frm : Nat) : Int), .int .i64 ((x9.to : Nat) : Int), .int .i64 ((x9.what : Nat) : Int), .int .i64 x9.n, .bool x9.come]]) (fs := []) (cs := []) rfl Try.fn11 rfl rfl (fun w H => pred_any x9)) ?_
    refine Gx.val rfl rfl rfl (val_not rfl rfl) ?_
    refine Gx.done ?_
    refine Gx.thenN ?_
    refine Gx.bool rfl (fun h4 => ?_) (fun h4 => ?_)
    · refine Gx.seq ?_
      refine Gx.region ?_
      refine Gx.val rfl rfl rfl (val_move rfl rfl) ?_
      refine Gx.val rfl rfl rfl (val_move rfl rfl) ?_
      refine Gx.val rfl rfl rfl (Val.cast (val_loadA rfl Try.ty48 rfl rfl rfl (cells_rec (k := 0) rfl)) (v' := .agg #[.int .i64 ((x9.frm : Nat) : Int), .int .i64 ((x9.to : Nat) : Int), .int .i64 ((x9.what : Nat) : Int), .int .i64 x9.n, .bool x9.come]) rfl) ?_
      obtain ⟨x5, hx5⟩ := get_of_lt (xs := ys) (k := i2) (by omega)
      refine Gx.val rfl rfl rfl (val_ixa rfl Try.underlying39 Try.ty48 rfl rfl (j := i2) (rfl) (reach_own (k := 1) rfl hx5)) ?_
      refine Gx.eff0 rfl rfl (eff_storeElA (⟨x9.frm, x9.to, x9.what, x9.n, x9.come⟩ : Mg) rfl Try.ty48 rfl rfl rfl FG_one (k := 1) rfl FG_len hx5 (l' := [Hp.rec_ b3 [.int .i64 ((x9.frm : Nat) : Int), .int .i64 ((x9.to : Nat) : Int), .int .i64 ((x9.what : Nat) : Int), .int .i64 x9.n, .bool x9.come], Hp.own FG 5 cv (ys.set i2 (⟨x9.frm, x9.to, x9.what, x9.n, x9.come⟩ : Mg)), R]) rfl) ?_
      rintro _ _ rfl
      refine Gx.done ?_
      refine Gx.thenN ?_
      refine Gx.region ?_
      refine Gx.val rfl rfl rfl (val_move rfl rfl) ?_
      refine Gx.val rfl rfl rfl (val_add rfl rfl rfl (r := ((i2 + 1 : Nat) : Int)) (w64 (by omega) (by omega))) ?_
      refine Gx.val rfl rfl rfl (val_assign rfl rfl) ?_
      refine Gx.done ?_
      refine Gx.blkN ?_
      refine Gx.thenN ?_
      refine Gx.region ?_
      refine Gx.val rfl rfl rfl (val_move rfl rfl) ?_
      refine Gx.val rfl rfl rfl (val_add rfl rfl rfl (r := ((j + 1 : Nat) : Int)) (w64 (by omega) (by omega))) ?_
      refine Gx.val rfl rfl rfl (val_assign rfl rfl) ?_
      refine Gx.done ?_
      refine Gx.thenN ?_
      refine Gx.drop 0 rfl ?_
      exact Gx.round (j + 1, i2 + 1, ys.set i2 (⟨x9.frm, x9.to, x9.what, x9.n, x9.come⟩ : Mg)) ⟨by rw [List.length_set]; exact hyl, by first | omega | (dsimp only; omega), by first | omega | (dsimp only; omega), by rw [notC_take hxj]; rw [if_neg (by simpa using h4)]; first | omega | (dsimp only; omega), fun q hq' => by rw [List.getElem?_set_ne (by omega)]; exact hq q (by omega)⟩ (by first | omega | (dsimp only; omega)) ((.cons rfl (.cons rfl (.cons rfl (.cons rfl .nil))))) rfl
    · refine Gx.skip ?_
      refine Gx.blkN ?_
      refine Gx.thenN ?_
      refine Gx.region ?_
      refine Gx.val rfl rfl rfl (val_move rfl rfl) ?_
      refine Gx.val rfl rfl rfl (val_add rfl rfl rfl (r := ((j + 1 : Nat) : Int)) (w64 (by omega) (by omega))) ?_
      refine Gx.val rfl rfl rfl (val_assign rfl rfl) ?_
      refine Gx.done ?_
      refine Gx.thenN ?_
      refine Gx.drop 0 rfl ?_
      exact Gx.round (j + 1, i2, ys) ⟨hyl, by first | omega | (dsimp only; omega), by first | omega | (dsimp only; omega), by rw [notC_take hxj]; rw [if_pos (by simpa using h4)]; exact hi2, fun q hq' => hq q (by omega)⟩ (by first | omega | (dsimp only; omega)) ((.cons rfl (.cons rfl (.cons rfl (.cons rfl .nil))))) rfl
  · refine Gx.exit ?_
    refine Gx.thenE ?_
    refine Gx.thenE ?_
    refine Gx.blkE ?_
    refine Gx.thenN ?_
    refine Gx.seq ?_
    obtain rfl : j = xs.length := by omega
    rw [List.take_length] at hi2
    refine Gx.region ?_
    refine Gx.val rfl rfl rfl (val_move rfl rfl) ?_
    refine Gx.val rfl rfl rfl (val_move rfl rfl) ?_
    refine Gx.val rfl rfl rfl (val_cutFromO (lo := i2) rfl Try.underlying39 Try.ty48 rfl (n := 0) rfl rfl (rfl) (by omega)) ?_
    refine Gx.eff0 rfl rfl (eff_clear (f := FG) (v := cv) (lo := i2) (up := ys.length) rfl Try.underlying39 Try.ty48 rfl (k := 0) rfl FG_len FG_one (⟨0, 0, 0, 0, false⟩ : Mg) rfl (by omega) (by omega) (l' := [Hp.own FG 5 cv (clr ys (⟨0, 0, 0, 0, false⟩ : Mg) i2 (ys.length - i2)), R]) rfl) ?_
    rintro _ _ rfl
    refine Gx.done ?_
    refine Gx.thenN ?_
    refine Gx.seq ?_
    refine Gx.region ?_
    refine Gx.val rfl rfl rfl (val_move rfl rfl) ?_
    refine Gx.val rfl rfl rfl (val_move rfl rfl) ?_
    refine Gx.val rfl rfl rfl (val_cutToO (up := i2) rfl Try.underlying39 Try.ty48 rfl (n := 0) rfl rfl (rfl) (by rw [clr_len]; omega)) ?_
    refine Gx.val rfl rfl rfl (val_assign rfl rfl) ?_
    refine Gx.done ?_
    refine Gx.thenN ?_
    refine Gx.ret ?_
    refine Gx.ret1 Try.results12 rfl ?_
    exact ⟨_, by rw [hi2], sep1 _ _⟩

theorem clone_nil {W w : World} {R : Hp} (H : Sat W w R) :
    Calls Try.prog 13 #[.slice none 0 0] w (Ret W fun v l => v = .slice none 0 0 ∧ sep l = Hp.own FG 5 (.slice none 0 0) [] * R) := by
  refine Gx.enter (l := [R]) Try.func13 rfl Try.ntmps13 rfl ((H.cast (Hp.mul_one _).symm)) ?_
  refine Gx.know (m' := [(0, .slice none 0 0)]) (.cons rfl .nil) ?_
  refine Gx.seq ?_
  refine Gx.region ?_
  refine Gx.val rfl rfl rfl (val_assign rfl rfl) ?_
  refine Gx.done ?_
  refine Gx.thenN ?_
  refine Gx.seq ?_
  refine Gx.seq ?_
  refine Gx.region ?_
  refine Gx.val rfl rfl rfl (val_move rfl rfl) ?_
  refine Gx.val rfl rfl rfl (Val.cast (val_eqlSN rfl Try.underlying39 rfl rfl) (v' := .bool true) rfl) ?_
  refine Gx.done ?_
  refine Gx.thenN ?_
  refine Gx.t rfl ?_
  refine Gx.seq ?_
  refine Gx.region ?_
  refine Gx.val rfl rfl rfl (val_assign rfl rfl) ?_
  refine Gx.done ?_
  refine Gx.thenN ?_
  refine Gx.ret ?_
  refine Gx.thenR ?_
  refine Gx.ownNil FG 5 ?_
  refine Gx.ret1 Try.results13 rfl ?_
  exact ⟨rfl, sep1 _ _⟩

theorem clone_some {W w : World} {a9 : Addr} {n9 c9 : Nat} {xs : List Mg} {R : Hp} (hl : xs.length ≤ 100000) (H : Sat W w (Hp.own FG 5 (.slice (some a9) n9 c9) xs * R)) :
    Calls Try.prog 13 #[.slice (some a9) n9 c9] w (Ret W fun v l => ∃ cv : Value, IsS cv ∧ cv = v ∧ sep l = Hp.own FG 5 cv xs * (Hp.own FG 5 (.slice (some a9) n9 c9) xs * R)) := by
  refine Gx.enter (l := [Hp.own FG 5 (.slice (some a9) n9 c9) xs, R]) Try.func13 rfl Try.ntmps13 rfl ((H.cast (congrArg _ (Hp.mul_one _).symm))) ?_
  refine Gx.know (m' := [(0, .slice (some a9) n9 c9)]) (.cons rfl .nil) ?_
  refine Gx.seq ?_
  refine Gx.region ?_
  refine Gx.val rfl rfl rfl (val_assign rfl rfl) ?_
  refine Gx.done ?_
  refine Gx.thenN ?_
  refine Gx.seq ?_
  refine Gx.seq ?_
  refine Gx.region ?_
  refine Gx.val rfl rfl rfl (val_move rfl rfl) ?_
  refine Gx.val rfl rfl rfl (Val.cast (val_eqlSN rfl Try.underlying39 rfl rfl) (v' := .bool false) rfl) ?_
  refine Gx.done ?_
  refine Gx.thenN ?_
  refine Gx.f rfl ?_
  refine Gx.skip ?_
  refine Gx.thenN ?_
  refine Gx.seq ?_
  refine Gx.region ?_
  refine Gx.eff rfl rfl rfl (eff_buildNil (f := FG) (sz := 5) (e := 48) rfl Try.underlying39 (fun w => by first | (go_simp; done) | (go_simp; rfl))) ?_
  rintro v1 _ ⟨hiv1, rfl⟩
  refine Gx.val rfl rfl rfl (val_move rfl rfl) ?_
  refine Gx.eff rfl rfl rfl (eff_pushAll (k := 0) (ys := xs) rfl Try.eG FG_len FG_one rfl rfl (fun w H => (H.at_ (k := 1) rfl).sls (by omega)) rfl (by simp; omega) (by simp; omega)) ?_
  rintro v2 _ ⟨hiv2, rfl⟩
  refine Gx.norm (l' := [Hp.own FG 5 v2 xs, Hp.own FG 5 (.slice (some a9) n9 c9) xs, R]) rfl ?_
  refine Gx.val rfl rfl rfl (val_assign rfl rfl) ?_
  refine Gx.done ?_
  refine Gx.thenN ?_
  refine Gx.ret ?_
  refine Gx.front 1 rfl ?_
  refine Gx.front 1 rfl ?_
  refine Gx.ret1 Try.results13 rfl ?_
  exact ⟨_, hiv2, rfl, sep2 _ _ _⟩

theorem clone_any {W w : World} {av : Value} {xs : List Mg} {R : Hp} (hl : xs.length ≤ 100000) (H : Sat W w (Hp.own FG 5 av xs * R)) :
    Calls Try.prog 13 #[av] w (Ret W fun v l => ∃ cv : Value, IsS cv ∧ cv = v ∧ sep l = Hp.own FG 5 cv xs * (Hp.own FG 5 av xs * R)) := by
  rcases H.ows with ⟨rfl, rfl⟩ | ⟨g, off, cap, rfl, _⟩
  · refine (clone_nil H).mono ?_
    rintro e w' ⟨v, l, he, ⟨rfl, hl⟩, H'⟩
    exact ⟨_, l, he, ⟨_, ⟨none, 0, 0, rfl⟩, rfl, hl⟩, H'⟩
  · exact clone_some hl H
end Go.Proofs.Ytbfcfekpfgpfbaa
