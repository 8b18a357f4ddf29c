/- Who asks; a place. The walk. No condition. -/
import Derived.Test.YtgfileonpoghmaaB1
import Derived.Test.YtgfileonpoghmaaM3
namespace Go.Proofs.Ytgfileonpoghmaa
open Go.RowKit
set_option linter.unusedVariables false
set_option linter.unusedSimpArgs false
set_option maxRecDepth 100000

abbrev FI (x : Int) : List Value := [.int .i64 x]
theorem FI_len (x : Int) : (FI x).length = 1 := rfl
def rmv (w : Int) (l : List Int) : List Int := l.filter fun x => decide (x ≠ w)
theorem rmv_len (w : Int) (l : List Int) : (rmv w l).length ≤ l.length := List.length_filter_le ..
theorem rmv_take {w y : Int} {l : List Int} {j : Nat} (h : l[j]? = some y) : rmv w (l.take (j + 1)) = rmv w (l.take j) ++ (if y = w then [] else [y]) := by
  unfold rmv; rw [take_of h, List.filter_append]; by_cases e : y = w <;> simp [e]
theorem askS_eq (l : List Int) (c : Mv) (k : Int) : askS l c k = if k ≠ 0 ∨ c.kind = 2 then l else rmv c.who l ++ (if c.kind = 1 then [c.who] else []) := rfl
theorem FI_one (p : Int) (u : Value) (h : u ∈ FI p) : u.oneCell' = true := by simp [FI] at h; subst h; rfl
theorem pos_int {W : World} {va : Value} {xs : List Int} (ha : SlS FI 1 W va xs) (y : Int) : Calls Try.prog 10 #[va, .int .i64 y] W fun e w' => e = .returned (.int .i64 (posI y xs)) ∧ Below W.heap.size W w' := by
  have m1 := sls_bd ha
  refine calls_pure (Gx.enter (l := []) Try.func10 rfl Try.ntmps10 rfl (Sat.start W) ?_)
  refine Gx.know (m' := [(0, va), (1, .int .i64 y)]) (.cons rfl (.cons rfl .nil)) ?_
  refine Gx.seq ?_
  refine Gx.region ?_
  refine Gx.val rfl rfl rfl (val_assign rfl rfl) ?_
  refine Gx.done ?_
  refine Gx.thenN ?_
  refine Gx.seq ?_
  refine Gx.seq ?_
  refine Gx.region ?_
  refine Gx.val rfl rfl rfl (val_assign rfl rfl) ?_
  refine Gx.done ?_
  refine Gx.thenN ?_
  refine Gx.block ?_
  refine Gx.loop (ι := Nat) (fun ξ => (ξ ≤ xs.length) ∧ (∀ q, q < ξ → xs[q]? ≠ some y)) (fun ξ => [(0, va), (1, .int .i64 y), (5, .int .i64 ((ξ : Nat) : Int))]) (fun ξ => []) (fun ξ => xs.length - ξ) 0 ⟨by first | omega | (dsimp only; omega), fun q hq => by omega⟩ ((.cons rfl (.cons rfl (.cons rfl .nil)))) rfl ?_
  rintro k ⟨hk, he⟩
  refine Gx.know (m' := [(0, va), (1, .int .i64 y), (5, .int .i64 ((k : Nat) : Int))]) (.cons rfl (.cons rfl (.cons rfl .nil))) (Gx.norm (l' := []) rfl ?_)
  refine Gx.seq ?_
  refine Gx.seq ?_
  refine Gx.region ?_
  refine Gx.val rfl rfl rfl (val_move rfl rfl) ?_
  refine Gx.val rfl rfl rfl (val_move rfl rfl) ?_
  refine Gx.val rfl rfl rfl (val_len rfl Try.underlying24 rfl (len_base ha)) ?_
  refine Gx.val rfl rfl rfl (val_lss rfl rfl rfl) ?_
  refine Gx.done ?_
  refine Gx.thenN ?_
  refine Gx.dec rfl (fun h1 => ?_) (fun h1 => ?_)
  · refine Gx.skip ?_
    refine Gx.thenN ?_
    refine Gx.seq ?_
    refine Gx.block ?_
    refine Gx.seq ?_
    refine Gx.region ?_
    refine Gx.val rfl rfl rfl (val_move rfl rfl) ?_
    refine Gx.val rfl rfl rfl (val_move rfl rfl) ?_
    obtain ⟨x2, hx2⟩ := get_of_lt (xs := xs) (k := k) (by omega)
    refine Gx.val rfl rfl rfl (val_ixa rfl Try.underlying24 Try.ty3 rfl rfl (j := k) (rfl) (reach_base ha hx2)) ?_
    refine Gx.val rfl rfl rfl (val_load rfl Try.ty3 rfl rfl (cell_base (i := 0) ha hx2 rfl)) ?_
    refine Gx.val rfl rfl rfl (val_move rfl rfl) ?_
    refine Gx.val rfl rfl rfl (val_eql rfl rfl rfl) ?_
    refine Gx.done ?_
    refine Gx.thenN ?_
    refine Gx.dec rfl (fun h3 => ?_) (fun h3 => ?_)
    · refine Gx.seq ?_
      refine Gx.region ?_
      refine Gx.val rfl rfl rfl (val_move rfl rfl) ?_
      refine Gx.val rfl rfl rfl (val_assign rfl rfl) ?_
      refine Gx.done ?_
      refine Gx.thenN ?_
      refine Gx.ret ?_
      refine Gx.blkR ?_
      refine Gx.thenR ?_
      refine Gx.thenR ?_
      refine Gx.blkR ?_
      refine Gx.thenR ?_
      refine Gx.ret1 Try.results10 rfl ?_
      exact (congrArg (Value.int .i64) (pos_at he (hx2.trans (congrArg some h3)))).symm
    · refine Gx.skip ?_
      refine Gx.blkN ?_
      refine Gx.thenN ?_
      refine Gx.region ?_
      refine Gx.val rfl rfl rfl (val_move rfl rfl) ?_
      refine Gx.val rfl rfl rfl (val_add rfl rfl rfl (r := ((k + 1 : Nat) : Int)) (w64 (by omega) (by omega))) ?_
      refine Gx.val rfl rfl rfl (val_assign rfl rfl) ?_
      refine Gx.done ?_
      refine Gx.thenN ?_
      exact Gx.round (k + 1) ⟨by first | omega | (dsimp only; omega), fun q hq => by rcases Nat.lt_or_eq_of_le (Nat.le_of_lt_succ hq) with h | rfl; (exact he q h); (rw [hx2]; intro h9; cases h9; simp_all)⟩ (by first | omega | (dsimp only; omega)) ((.cons rfl (.cons rfl (.cons rfl .nil)))) rfl
  · refine Gx.exit ?_
    refine Gx.thenE ?_
    refine Gx.thenE ?_
    refine Gx.blkE ?_
    refine Gx.thenN ?_
    refine Gx.seq ?_
    refine Gx.region ?_
    refine Gx.val rfl rfl rfl (val_assign rfl rfl) ?_
    refine Gx.done ?_
    refine Gx.thenN ?_
    refine Gx.ret ?_
    refine Gx.ret1 Try.results10 rfl ?_
    exact (congrArg (Value.int .i64) (pos_no fun hm => by obtain ⟨q, hq⟩ := List.getElem?_of_mem hm; have hl := (List.getElem?_eq_some_iff.1 hq).1; exact he q (by omega) hq)).symm

theorem pos_nat {W : World} {va : Value} {xs : List Nat} (ha : SlS FN 1 W va xs) (y : Int) : Calls Try.prog 10 #[va, .int .i64 y] W fun e w' => e = .returned (.int .i64 (posI y (xs.map fun e : Nat => (e : Int)))) ∧ Below W.heap.size W w' := by
  have m1 := sls_bd ha
  refine calls_pure (Gx.enter (l := []) Try.func10 rfl Try.ntmps10 rfl (Sat.start W) ?_)
  refine Gx.know (m' := [(0, va), (1, .int .i64 y)]) (.cons rfl (.cons rfl .nil)) ?_
  refine Gx.seq ?_
  refine Gx.region ?_
  refine Gx.val rfl rfl rfl (val_assign rfl rfl) ?_
  refine Gx.done ?_
  refine Gx.thenN ?_
  refine Gx.seq ?_
  refine Gx.seq ?_
  refine Gx.region ?_
  refine Gx.val rfl rfl rfl (val_assign rfl rfl) ?_
  refine Gx.done ?_
  refine Gx.thenN ?_
  refine Gx.block ?_
  refine Gx.loop (ι := Nat) (fun ξ => (ξ ≤ xs.length) ∧ (∀ q, q < ξ → (xs.map fun e : Nat => (e : Int))[q]? ≠ some y)) (fun ξ => [(0, va), (1, .int .i64 y), (5, .int .i64 ((ξ : Nat) : Int))]) (fun ξ => []) (fun ξ => xs.length - ξ) 0 ⟨by first | omega | (dsimp only; omega), fun q hq => by omega⟩ ((.cons rfl (.cons rfl (.cons rfl .nil)))) rfl ?_
  rintro k ⟨hk, he⟩
  refine Gx.know (m' := [(0, va), (1, .int .i64 y), (5, .int .i64 ((k : Nat) : Int))]) (.cons rfl (.cons rfl (.cons rfl .nil))) (Gx.norm (l' := []) rfl ?_)
  refine Gx.seq ?_
  refine Gx.seq ?_
  refine Gx.region ?_
  refine Gx.val rfl rfl rfl (val_move rfl rfl) ?_
  refine Gx.val rfl rfl rfl (val_move rfl rfl) ?_
  refine Gx.val rfl rfl rfl (val_len rfl Try.underlying24 rfl (len_base ha)) ?_
  refine Gx.val rfl rfl rfl (val_lss rfl rfl rfl) ?_
  refine Gx.done ?_
  refine Gx.thenN ?_
  refine Gx.dec rfl (fun h1 => ?_) (fun h1 => ?_)
  · refine Gx.skip ?_
    refine Gx.thenN ?_
    refine Gx.seq ?_
    refine Gx.block ?_
    refine Gx.seq ?_
    refine Gx.region ?_
    refine Gx.val rfl rfl rfl (val_move rfl rfl) ?_
    refine Gx.val rfl rfl rfl (val_move rfl rfl) ?_
    obtain ⟨x2, hx2⟩ := get_of_lt (xs := xs) (k := k) (by omega)
    refine Gx.val rfl rfl rfl (val_ixa rfl Try.underlying24 Try.ty3 rfl rfl (j := k) (rfl) (reach_base ha hx2)) ?_
    refine Gx.val rfl rfl rfl (val_load rfl Try.ty3 rfl rfl (cell_base (i := 0) ha hx2 rfl)) ?_
    refine Gx.val rfl rfl rfl (val_move rfl rfl) ?_
    refine Gx.val rfl rfl rfl (val_eql rfl rfl rfl) ?_
    refine Gx.done ?_
    refine Gx.thenN ?_
    refine Gx.dec rfl (fun h3 => ?_) (fun h3 => ?_)
    · refine Gx.seq ?_
      refine Gx.region ?_
      refine Gx.val rfl rfl rfl (val_move rfl rfl) ?_
      refine Gx.val rfl rfl rfl (val_assign rfl rfl) ?_
      refine Gx.done ?_
      refine Gx.thenN ?_
      refine Gx.ret ?_
      refine Gx.blkR ?_
      refine Gx.thenR ?_
      refine Gx.thenR ?_
      refine Gx.blkR ?_
      refine Gx.thenR ?_
      refine Gx.ret1 Try.results10 rfl ?_
      exact (congrArg (Value.int .i64) (pos_at he (by rw [List.getElem?_map, hx2]; exact congrArg some h3))).symm
    · refine Gx.skip ?_
      refine Gx.blkN ?_
      refine Gx.thenN ?_
      refine Gx.region ?_
      refine Gx.val rfl rfl rfl (val_move rfl rfl) ?_
      refine Gx.val rfl rfl rfl (val_add rfl rfl rfl (r := ((k + 1 : Nat) : Int)) (w64 (by omega) (by omega))) ?_
      refine Gx.val rfl rfl rfl (val_assign rfl rfl) ?_
      refine Gx.done ?_
      refine Gx.thenN ?_
      exact Gx.round (k + 1) ⟨by first | omega | (dsimp only; omega), fun q hq => by rcases Nat.lt_or_eq_of_le (Nat.le_of_lt_succ hq) with h | rfl; (exact he q h); (rw [List.getElem?_map]; rw [hx2]; intro h9; cases h9; simp_all)⟩ (by first | omega | (dsimp only; omega)) ((.cons rfl (.cons rfl (.cons rfl .nil)))) rfl
  · refine Gx.exit ?_
    refine Gx.thenE ?_
    refine Gx.thenE ?_
    refine Gx.blkE ?_
    refine Gx.thenN ?_
    refine Gx.seq ?_
    refine Gx.region ?_
    refine Gx.val rfl rfl rfl (val_assign rfl rfl) ?_
    refine Gx.done ?_
    refine Gx.thenN ?_
    refine Gx.ret ?_
    refine Gx.ret1 Try.results10 rfl ?_
    exact (congrArg (Value.int .i64) (pos_no fun hm => by obtain ⟨q, hq⟩ := List.getElem?_of_mem hm; have hl := (List.getElem?_eq_some_iff.1 hq).1; rw [List.length_map] at hl; exact he q (by omega) hq)).symm

theorem asking_own {W : World} {sv kv : Value} {cs : List Mv} {ks : List Int} (hs : SlS FM 3 W sv cs) (hc : SlS FZ 1 W kv ks) (hl : ks.length = cs.length) (h120 : cs.length ≤ 120) :
    Calls Try.prog 9 #[sv, kv] W (Ret W fun v l9 => ∃ u, v = u ∧ l9 = [Hp.own FI 1 u (askI cs ks cs.length)] ∧ IsS u) := by
  have m1 := sls_bd hs
  have m2 := sls_bd hc
  refine Gx.enter (l := []) Try.func9 rfl Try.ntmps9 rfl (Sat.start W) ?_
  refine Gx.know (m' := [(0, sv), (1, kv)]) (.cons rfl (.cons rfl .nil)) ?_
  refine Gx.seq ?_
  refine Gx.region ?_
  refine Gx.val rfl rfl rfl (val_assign rfl rfl) ?_
  refine Gx.done ?_
  refine Gx.thenN ?_
  refine Gx.seq ?_
  refine Gx.region ?_
  refine Gx.val rfl rfl rfl (val_assign rfl rfl) ?_
  refine Gx.done ?_
  refine Gx.thenN ?_
  refine Gx.seq ?_
  refine Gx.seq ?_
  refine Gx.ownNil FI 1 ?_
  refine Gx.norm (l' := [Hp.own FI 1 (.slice none 0 0) (askI cs ks 0)]) (rfl) ?_
  refine Gx.region ?_
  refine Gx.val rfl rfl rfl (val_move rfl rfl) ?_
  refine Gx.val rfl rfl rfl (val_len rfl Try.underlying22 rfl (len_base hs)) ?_
  refine Gx.val rfl rfl rfl (val_move rfl rfl) ?_
  refine Gx.done ?_
  refine Gx.thenN ?_
  refine Gx.block ?_
  refine Gx.loop (ι := Nat × Value) (fun ξ => (ξ.1 ≤ cs.length) ∧ (IsS ξ.2)) (fun ξ => [(0, sv), (1, kv), (5, ξ.2), (11, sv), (12, .int .i64 ((cs.length : Nat) : Int)), (13, .int .i64 ((ξ.1 : Nat) : Int))]) (fun ξ => [Hp.own FI 1 ξ.2 (askI cs ks ξ.1)]) (fun ξ => cs.length - ξ.1) (0, (.slice none 0 0)) ⟨by first | omega | (dsimp only; omega), ⟨none, 0, 0, rfl⟩⟩ ((.cons rfl (.cons rfl (.cons rfl (.cons rfl (.cons rfl (.cons rfl .nil))))))) rfl ?_
  rintro ⟨i, lv⟩ ⟨hi, hil⟩
  dsimp only at hi hil
  refine Gx.know (m' := [(0, sv), (1, kv), (5, lv), (11, sv), (12, .int .i64 ((cs.length : Nat) : Int)), (13, .int .i64 ((i : Nat) : Int))]) (.cons rfl (.cons rfl (.cons rfl (.cons rfl (.cons rfl (.cons rfl .nil)))))) (Gx.norm (l' := [Hp.own FI 1 lv (askI cs ks i)]) rfl ?_)
  have hal := askI_len cs ks i
  refine Gx.seq ?_
  refine Gx.region ?_
  refine Gx.val rfl rfl rfl (val_lss rfl rfl rfl) ?_
  refine Gx.done ?_
  refine Gx.thenN ?_
  refine Gx.seq ?_
  refine Gx.dec rfl (fun h1 => ?_) (fun h1 => ?_)
  · refine Gx.skip ?_
    refine Gx.thenN ?_
    refine Gx.seq ?_
    refine Gx.block ?_
    refine Gx.seq ?_
    refine Gx.region ?_
    refine Gx.val rfl rfl rfl (val_move rfl rfl) ?_
    obtain ⟨x2, hx2⟩ := get_of_lt (xs := cs) (k := i) (by omega)
    refine Gx.val rfl rfl rfl (val_ixa rfl Try.underlying22 Try.ty34 rfl rfl (j := i) (rfl) (reach_base hs hx2)) ?_
    refine Gx.val rfl rfl rfl (Val.cast (val_loadA rfl Try.ty34 rfl rfl rfl (cells_base hs hx2)) (v' := .agg #[.int .i64 x2.kind, .int .i64 x2.who, .int .i64 x2.frm]) rfl) ?_
    refine Gx.eff rfl rfl rfl (eff_alloc rfl Try.ty34 (vs := [.int .i64 0, .int .i64 0, .int .i64 0]) rfl) ?_
    rintro _ _ ⟨b3, rfl, rfl⟩
    refine Gx.val rfl rfl rfl (val_assign rfl rfl) ?_
    refine Gx.eff0 rfl rfl (eff_store rfl Try.ty34 rfl rfl (us := [.int .i64 x2.kind, .int .i64 x2.who, .int .i64 x2.frm]) rfl rfl rfl (k := 0) rfl (rfl) (vs' := [.int .i64 x2.kind, .int .i64 x2.who, .int .i64 x2.frm]) (rfl) (l' := [Hp.rec_ b3 [.int .i64 x2.kind, .int .i64 x2.who, .int .i64 x2.frm], Hp.own FI 1 lv (askI cs ks i)]) rfl) ?_
    rintro _ _ rfl
    refine Gx.done ?_
    refine Gx.thenN ?_
    refine Gx.seq ?_
    refine Gx.seq ?_
    refine Gx.region ?_
    refine Gx.val rfl rfl rfl (val_move rfl rfl) ?_
    refine Gx.val rfl rfl rfl (val_move rfl rfl) ?_
    obtain ⟨x4, hx4⟩ := get_of_lt (xs := ks) (k := i) (by omega)
    refine Gx.val rfl rfl rfl (val_ixa rfl Try.underlying23 Try.ty27 rfl rfl (j := i) (rfl) (reach_base hc hx4)) ?_
    refine Gx.val rfl rfl rfl (val_load rfl Try.ty27 rfl rfl (cell_base (i := 0) hc hx4 rfl)) ?_
    refine Gx.val rfl rfl rfl (val_neq rfl rfl rfl) ?_
    refine Gx.val rfl rfl rfl (val_move rfl rfl) ?_
    refine Gx.cases (t := 23) rfl (fun h5 => ?_) (fun h5 => ?_)
    · refine Gx.skipg rfl rfl rfl rfl rfl rfl ?_
      refine Gx.skipg rfl rfl rfl rfl rfl rfl ?_
      refine Gx.skipg rfl rfl rfl rfl rfl rfl ?_
      refine Gx.val rfl rfl rfl (val_pickT rfl rfl rfl) ?_
      refine Gx.done ?_
      refine Gx.thenN ?_
      refine Gx.t rfl ?_
      refine Gx.exit ?_
      refine Gx.thenE ?_
      refine Gx.blkE ?_
      refine Gx.thenN ?_
      refine Gx.region ?_
      refine Gx.val rfl rfl rfl (val_add rfl rfl rfl (r := ((i + 1 : Nat) : Int)) (w64 (by omega) (by omega))) ?_
      refine Gx.val rfl rfl rfl (val_move rfl rfl) ?_
      refine Gx.done ?_
      refine Gx.thenN ?_
      refine Gx.drop 0 rfl ?_
      refine Gx.norm (l' := [Hp.own FI 1 lv (askI cs ks (i + 1))]) (by rw [askI_succ hx2 hx4]; rw [askS_eq]; simp_all <;> rfl) ?_
      exact Gx.round (i + 1, lv) ⟨by first | omega | (dsimp only; omega), hil⟩ (by first | omega | (dsimp only; omega)) ((.cons rfl (.cons rfl (.cons rfl (.cons rfl (.cons rfl (.cons rfl .nil))))))) rfl
    · refine Gx.valg rfl rfl rfl rfl rfl (Val.cast (val_fieldAddr rfl Try.underlying34 rfl Try.ty3 rfl rfl) (v' := ptr b3 0) rfl) ?_
      refine Gx.valg rfl rfl rfl rfl rfl (val_load rfl Try.ty3 rfl rfl (cell_rec (k := 0) rfl rfl)) ?_
      refine Gx.valg rfl rfl rfl rfl rfl (val_eql rfl rfl rfl) ?_
      refine Gx.val rfl rfl rfl (val_pickF rfl rfl rfl) ?_
      refine Gx.done ?_
      refine Gx.thenN ?_
      refine Gx.dec rfl (fun h6 => ?_) (fun h6 => ?_)
      · refine Gx.exit ?_
        refine Gx.thenE ?_
        refine Gx.blkE ?_
        refine Gx.thenN ?_
        refine Gx.region ?_
        refine Gx.val rfl rfl rfl (val_add rfl rfl rfl (r := ((i + 1 : Nat) : Int)) (w64 (by omega) (by omega))) ?_
        refine Gx.val rfl rfl rfl (val_move rfl rfl) ?_
        refine Gx.done ?_
        refine Gx.thenN ?_
        refine Gx.drop 0 rfl ?_
        refine Gx.norm (l' := [Hp.own FI 1 lv (askI cs ks (i + 1))]) (by rw [askI_succ hx2 hx4]; rw [askS_eq]; simp_all <;> rfl) ?_
        exact Gx.round (i + 1, lv) ⟨by first | omega | (dsimp only; omega), hil⟩ (by first | omega | (dsimp only; omega)) ((.cons rfl (.cons rfl (.cons rfl (.cons rfl (.cons rfl (.cons rfl .nil))))))) rfl
      · refine Gx.skip ?_
        refine Gx.thenN ?_
        refine Gx.seq ?_
        refine Gx.region ?_
        refine Gx.val rfl rfl rfl (val_assign rfl rfl) ?_
        refine Gx.done ?_
        refine Gx.thenN ?_
        refine Gx.seq ?_
        refine Gx.seq ?_
        refine Gx.ownNil FI 1 ?_
        refine Gx.norm (l' := [Hp.own FI 1 (.slice none 0 0) (rmv x2.who ((askI cs ks i).take 0)), Hp.rec_ b3 [.int .i64 x2.kind, .int .i64 x2.who, .int .i64 x2.frm], Hp.own FI 1 lv (askI cs ks i)]) (rfl) ?_
        refine Gx.region ?_
        refine Gx.val rfl rfl rfl (val_move rfl rfl) ?_
        refine Gx.val rfl rfl rfl (val_len rfl Try.underlying24 rfl (len_own (k := 2) rfl)) ?_
        refine Gx.val rfl rfl rfl (val_move rfl rfl) ?_
        refine Gx.done ?_
        refine Gx.thenN ?_
        refine Gx.block ?_
        refine Gx.front 1 rfl ?_
        refine Gx.front 1 rfl ?_
        refine Gx.front 2 rfl ?_
        refine Gx.loop (ι := Nat × Value) (fun ξ => (ξ.1 ≤ (askI cs ks i).length) ∧ (IsS ξ.2)) (fun ξ => [(0, sv), (1, kv), (5, lv), (6, .int .i64 ((i : Nat) : Int)), (7, ptr b3 0), (11, sv), (12, .int .i64 ((cs.length : Nat) : Int)), (13, .int .i64 ((i : Nat) : Int)), (28, lv), (29, .int .i64 (((askI cs ks i).length : Nat) : Int)), (8, ξ.2), (30, .int .i64 ((ξ.1 : Nat) : Int))]) (fun ξ => [Hp.own FI 1 lv (askI cs ks i), Hp.own FI 1 ξ.2 (rmv x2.who ((askI cs ks i).take ξ.1)), Hp.rec_ b3 [.int .i64 x2.kind, .int .i64 x2.who, .int .i64 x2.frm]]) (fun ξ => (askI cs ks i).length - ξ.1) (0, (.slice none 0 0)) ⟨by first | omega | (dsimp only; omega), ⟨none, 0, 0, rfl⟩⟩ ((.cons rfl (.cons rfl (.cons rfl (.cons rfl (.cons rfl (.cons rfl (.cons rfl (.cons rfl (.cons rfl (.cons rfl (.cons rfl (.cons rfl .nil))))))))))))) rfl ?_
        rintro ⟨j, nv⟩ ⟨hj, hin⟩
        dsimp only at hj hin
        refine Gx.know (m' := [(0, sv), (1, kv), (5, lv), (6, .int .i64 ((i : Nat) : Int)), (7, ptr b3 0), (11, sv), (12, .int .i64 ((cs.length : Nat) : Int)), (13, .int .i64 ((i : Nat) : Int)), (28, lv), (29, .int .i64 (((askI cs ks i).length : Nat) : Int)), (8, nv), (30, .int .i64 ((j : Nat) : Int))]) (.cons rfl (.cons rfl (.cons rfl (.cons rfl (.cons rfl (.cons rfl (.cons rfl (.cons rfl (.cons rfl (.cons rfl (.cons rfl (.cons rfl .nil)))))))))))) (Gx.norm (l' := [Hp.own FI 1 lv (askI cs ks i), Hp.own FI 1 nv (rmv x2.who ((askI cs ks i).take j)), Hp.rec_ b3 [.int .i64 x2.kind, .int .i64 x2.who, .int .i64 x2.frm]]) rfl ?_)
        have hfl : (rmv x2.who ((askI cs ks i).take j)).length ≤ (askI cs ks i).length := Nat.le_trans (rmv_len ..) (by rw [List.length_take]; omega)
        refine Gx.seq ?_
        refine Gx.region ?_
        refine Gx.val rfl rfl rfl (val_lss rfl rfl rfl) ?_
        refine Gx.done ?_
        refine Gx.thenN ?_
        refine Gx.seq ?_
        refine Gx.dec rfl (fun h7 => ?_) (fun h7 => ?_)
        · refine Gx.skip ?_
          refine Gx.thenN ?_
          refine Gx.seq ?_
          refine Gx.block ?_
          refine Gx.seq ?_
          refine Gx.region ?_
          obtain ⟨x8, hx8⟩ := get_of_lt (xs := (askI cs ks i)) (k := j) (by omega)
          refine Gx.val rfl rfl rfl (val_ixa rfl Try.underlying24 Try.ty3 rfl rfl (j := j) (rfl) (reach_own (k := 0) rfl hx8)) ?_
          refine Gx.val rfl rfl rfl (val_load rfl Try.ty3 rfl rfl (cell_own (i := 0) (k := 0) rfl hx8 rfl)) ?_
          refine Gx.val rfl rfl rfl (val_assign rfl rfl) ?_
          refine Gx.done ?_
          refine Gx.thenN ?_
          refine Gx.seq ?_
          refine Gx.region ?_
          refine Gx.val rfl rfl rfl (val_move rfl rfl) ?_
          refine Gx.val rfl rfl rfl (Val.cast (val_fieldAddr rfl Try.underlying34 rfl Try.ty3 rfl rfl) (v' := ptr b3 1) rfl) ?_
          refine Gx.val rfl rfl rfl (val_load rfl Try.ty3 rfl rfl (cell_rec (k := 2) rfl rfl)) ?_
          refine Gx.val rfl rfl rfl (val_neq rfl rfl rfl) ?_
          refine Gx.done ?_
          refine Gx.thenN ?_
          refine Gx.dec rfl (fun h9 => ?_) (fun h9 => ?_)
          · refine Gx.region ?_
            refine Gx.val rfl rfl rfl (val_move rfl rfl) ?_
            refine Gx.val rfl rfl rfl (val_move rfl rfl) ?_
            refine Gx.eff rfl rfl rfl (eff_buildSlice rfl (qs := [(0, .int .i64 x8)]) rfl rfl (cs := #[.int .i64 x8]) (vs := [.int .i64 x8]) (E := 3) rfl (fun w => by first | (go_simp; done) | (go_simp; rfl))) ?_
            rintro _ _ ⟨b10, rfl, rfl⟩
            refine Gx.eff rfl rfl rfl (eff_push (r := x8) rfl Try.eN FI_len FI_one rfl rfl (k := 0) rfl rfl (k' := 1) rfl (by omega) (by omega)) ?_
            rintro v11 _ ⟨hiv11, rfl⟩
            refine Gx.norm (l' := [Hp.own FI 1 lv (askI cs ks i), Hp.own FI 1 v11 ((rmv x2.who ((askI cs ks i).take j)) ++ [x8]), Hp.rec_ b3 [.int .i64 x2.kind, .int .i64 x2.who, .int .i64 x2.frm]]) rfl ?_
            refine Gx.val rfl rfl rfl (val_assign rfl rfl) ?_
            refine Gx.done ?_
            refine Gx.blkN ?_
            refine Gx.thenN ?_
            refine Gx.region ?_
            refine Gx.val rfl rfl rfl (val_add rfl rfl rfl (r := ((j + 1 : Nat) : Int)) (w64 (by omega) (by omega))) ?_
            refine Gx.val rfl rfl rfl (val_move rfl rfl) ?_
            refine Gx.done ?_
            refine Gx.thenN ?_
            refine Gx.norm (l' := [Hp.own FI 1 lv (askI cs ks i), Hp.own FI 1 v11 (rmv x2.who ((askI cs ks i).take (j + 1))), Hp.rec_ b3 [.int .i64 x2.kind, .int .i64 x2.who, .int .i64 x2.frm]]) (by rw [rmv_take hx8]; simp_all <;> rfl) ?_
            exact Gx.round (j + 1, v11) ⟨by first | omega | (dsimp only; omega), hiv11⟩ (by first | omega | (dsimp only; omega)) ((.cons rfl (.cons rfl (.cons rfl (.cons rfl (.cons rfl (.cons rfl (.cons rfl (.cons rfl (.cons rfl (.cons rfl (.cons rfl (.cons rfl .nil))))))))))))) rfl
          · refine Gx.skip ?_
            refine Gx.blkN ?_
            refine Gx.thenN ?_
            refine Gx.region ?_
            refine Gx.val rfl rfl rfl (val_add rfl rfl rfl (r := ((j + 1 : Nat) : Int)) (w64 (by omega) (by omega))) ?_
            refine Gx.val rfl rfl rfl (val_move rfl rfl) ?_
            refine Gx.done ?_
            refine Gx.thenN ?_
            refine Gx.norm (l' := [Hp.own FI 1 lv (askI cs ks i), Hp.own FI 1 nv (rmv x2.who ((askI cs ks i).take (j + 1))), Hp.rec_ b3 [.int .i64 x2.kind, .int .i64 x2.who, .int .i64 x2.frm]]) (by rw [rmv_take hx8]; simp_all <;> rfl) ?_
            exact Gx.round (j + 1, nv) ⟨by first | omega | (dsimp only; omega), hin⟩ (by first | omega | (dsimp only; omega)) ((.cons rfl (.cons rfl (.cons rfl (.cons rfl (.cons rfl (.cons rfl (.cons rfl (.cons rfl (.cons rfl (.cons rfl (.cons rfl (.cons rfl .nil))))))))))))) rfl
        · refine Gx.exit ?_
          refine Gx.thenE ?_
          refine Gx.thenE ?_
          refine Gx.blkE ?_
          refine Gx.thenN ?_
          refine Gx.seq ?_
          refine Gx.seq ?_
          have hjl : j = (askI cs ks i).length := by omega
          refine Gx.norm (l' := [Hp.own FI 1 lv (askI cs ks i), Hp.own FI 1 nv (rmv x2.who (askI cs ks i)), Hp.rec_ b3 [.int .i64 x2.kind, .int .i64 x2.who, .int .i64 x2.frm]]) (by rw [hjl, List.take_length] <;> rfl) ?_
          have hfl2 : (rmv x2.who (askI cs ks i)).length ≤ (askI cs ks i).length := rmv_len ..
          refine Gx.region ?_
          refine Gx.val rfl rfl rfl (Val.cast (val_fieldAddr rfl Try.underlying34 rfl Try.ty3 rfl rfl) (v' := ptr b3 0) rfl) ?_
          refine Gx.val rfl rfl rfl (val_load rfl Try.ty3 rfl rfl (cell_rec (k := 2) rfl rfl)) ?_
          refine Gx.val rfl rfl rfl (val_eql rfl rfl rfl) ?_
          refine Gx.done ?_
          refine Gx.thenN ?_
          refine Gx.dec rfl (fun h12 => ?_) (fun h12 => ?_)
          · refine Gx.region ?_
            refine Gx.val rfl rfl rfl (val_move rfl rfl) ?_
            refine Gx.val rfl rfl rfl (Val.cast (val_fieldAddr rfl Try.underlying34 rfl Try.ty3 rfl rfl) (v' := ptr b3 1) rfl) ?_
            refine Gx.val rfl rfl rfl (val_load rfl Try.ty3 rfl rfl (cell_rec (k := 2) rfl rfl)) ?_
            refine Gx.eff rfl rfl rfl (eff_buildSlice rfl (qs := [(0, .int .i64 x2.who)]) rfl rfl (cs := #[.int .i64 x2.who]) (vs := [.int .i64 x2.who]) (E := 3) rfl (fun w => by first | (go_simp; done) | (go_simp; rfl))) ?_
            rintro _ _ ⟨b13, rfl, rfl⟩
            refine Gx.eff rfl rfl rfl (eff_push (r := x2.who) rfl Try.eN FI_len FI_one rfl rfl (k := 0) rfl rfl (k' := 1) rfl (by omega) (by omega)) ?_
            rintro v14 _ ⟨hiv14, rfl⟩
            refine Gx.norm (l' := [Hp.own FI 1 lv (askI cs ks i), Hp.own FI 1 v14 ((rmv x2.who (askI cs ks i)) ++ [x2.who]), Hp.rec_ b3 [.int .i64 x2.kind, .int .i64 x2.who, .int .i64 x2.frm]]) rfl ?_
            refine Gx.val rfl rfl rfl (val_assign rfl rfl) ?_
            refine Gx.done ?_
            refine Gx.thenN ?_
            refine Gx.drop 0 rfl ?_
            refine Gx.region ?_
            refine Gx.val rfl rfl rfl (val_move rfl rfl) ?_
            refine Gx.val rfl rfl rfl (val_assign rfl rfl) ?_
            refine Gx.done ?_
            refine Gx.blkN ?_
            refine Gx.thenN ?_
            refine Gx.region ?_
            refine Gx.val rfl rfl rfl (val_add rfl rfl rfl (r := ((i + 1 : Nat) : Int)) (w64 (by omega) (by omega))) ?_
            refine Gx.val rfl rfl rfl (val_move rfl rfl) ?_
            refine Gx.done ?_
            refine Gx.thenN ?_
            refine Gx.drop 1 rfl ?_
            refine Gx.norm (l' := [Hp.own FI 1 v14 (askI cs ks (i + 1))]) (by rw [askI_succ hx2 hx4]; rw [askS_eq]; simp_all <;> rfl) ?_
            exact Gx.round (i + 1, v14) ⟨by first | omega | (dsimp only; omega), hiv14⟩ (by first | omega | (dsimp only; omega)) ((.cons rfl (.cons rfl (.cons rfl (.cons rfl (.cons rfl (.cons rfl .nil))))))) rfl
          · refine Gx.skip ?_
            refine Gx.thenN ?_
            refine Gx.drop 0 rfl ?_
            refine Gx.region ?_
            refine Gx.val rfl rfl rfl (val_move rfl rfl) ?_
            refine Gx.val rfl rfl rfl (val_assign rfl rfl) ?_
            refine Gx.done ?_
            refine Gx.blkN ?_
            refine Gx.thenN ?_
            refine Gx.region ?_
            refine Gx.val rfl rfl rfl (val_add rfl rfl rfl (r := ((i + 1 : Nat) : Int)) (w64 (by omega) (by omega))) ?_
            refine Gx.val rfl rfl rfl (val_move rfl rfl) ?_
            refine Gx.done ?_
            refine Gx.thenN ?_
            refine Gx.drop 1 rfl ?_
            refine Gx.norm (l' := [Hp.own FI 1 nv (askI cs ks (i + 1))]) (by rw [askI_succ hx2 hx4]; rw [askS_eq]; simp_all <;> rfl) ?_
            exact Gx.round (i + 1, nv) ⟨by first | omega | (dsimp only; omega), hin⟩ (by first | omega | (dsimp only; omega)) ((.cons rfl (.cons rfl (.cons rfl (.cons rfl (.cons rfl (.cons rfl .nil))))))) rfl
  · refine Gx.exit ?_
    refine Gx.thenE ?_
    refine Gx.thenE ?_
    refine Gx.blkE ?_
    refine Gx.thenN ?_
    refine Gx.seq ?_
    refine Gx.region ?_
    refine Gx.val rfl rfl rfl (val_move rfl rfl) ?_
    refine Gx.val rfl rfl rfl (val_assign rfl rfl) ?_
    refine Gx.done ?_
    refine Gx.thenN ?_
    refine Gx.ret ?_
    obtain rfl : i = cs.length := by omega
    refine Gx.ret1 Try.results9 rfl ?_
    exact ⟨lv, rfl, rfl, hil⟩

theorem asking_any {W : World} {sv kv : Value} {cs : List Mv} {ks : List Int} (hs : SlS FM 3 W sv cs) (hc : SlS FZ 1 W kv ks) (hl : ks.length = cs.length) (h120 : cs.length ≤ 120) :
    Calls Try.prog 9 #[sv, kv] W fun e w' => ∃ v, e = .returned v ∧ SlS FI 1 w' v (askI cs ks cs.length) ∧ Below W.heap.size W w' := by
  refine calls_some (S := fun v l9 => ∃ u, v = u ∧ l9 = [Hp.own FI 1 u (askI cs ks cs.length)] ∧ IsS u) (asking_own hs hc hl h120) ?_
  rintro v l w ⟨u, rfl, rfl, hi⟩ H
  exact (H.at_ (k := 0) rfl).sls (by have := askI_len cs ks cs.length; omega)
end Go.Proofs.Ytgfileonpoghmaa
