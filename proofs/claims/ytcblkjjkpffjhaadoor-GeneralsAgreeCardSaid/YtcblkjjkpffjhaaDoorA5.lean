/- What all hold. The walk. No condition. -/
import Derived.Test.YtcblkjjkpffjhaaDoorA4
namespace Go.Proofs.YtcblkjjkpffjhaaDoor
open Go.RowKit
set_option linter.unusedVariables false
set_option linter.unusedSimpArgs false
set_option maxRecDepth 100000

theorem mask_all : ∀ n : Fin 8, ∀ j : Fin 8, (2 ^ n.val - 2).testBit j.val = (decide (1 ≤ j.val) && decide (j.val < n.val)) := by decide +kernel
theorem mask_lt {n : Nat} (h : n ≤ 7) : 2 ^ n - 2 < 128 := by
  have : 2 ^ n ≤ 2 ^ 7 := Nat.pow_le_pow_right (by decide) h
  have e : (2 : Nat) ^ 7 = 128 := rfl
  omega
theorem mask_bit {n j : Nat} (h : n ≤ 7) (h1 : 1 ≤ j) (hj : j < n) : (2 ^ n - 2).testBit j = true := by
  rw [mask_all ⟨n, by omega⟩ ⟨j, by omega⟩]; simp [h1, hj]
theorem mask_sub {n : Nat} (h1 : 1 ≤ n) (h : n ≤ 7) : IntKind.u32.wrap (((2 ^ n : Nat) : Int) - 2) = ((2 ^ n - 2 : Nat) : Int) := by
  have h2 : 2 ^ 1 ≤ 2 ^ n := Nat.pow_le_pow_right (by decide) h1
  have h3 : 2 ^ n ≤ 2 ^ 7 := Nat.pow_le_pow_right (by decide) h
  have e1 : (2 : Nat) ^ 1 = 2 := rfl
  have e : (2 : Nat) ^ 7 = 128 := rfl
  show (((2 ^ n : Nat) : Int) - 2) % 4294967296 = _
  omega
def heldL (f : Nat → Bool) (i : Nat) : List Bool := (List.range (i - 1)).map fun k => f (k + 1)
theorem heldL_len (f : Nat → Bool) (i : Nat) : (heldL f i).length = i - 1 := by simp [heldL]
theorem heldL_snoc (f : Nat → Bool) {i : Nat} (h : 1 ≤ i) : heldL f (i + 1) = heldL f i ++ [f i] := by
  obtain ⟨k, rfl⟩ : ∃ k, i = k + 1 := ⟨i - 1, by omega⟩
  unfold heldL
  rw [show k + 1 + 1 - 1 = k + 1 by omega, show k + 1 - 1 = k by omega, List.range_succ, List.map_append]; rfl
theorem heldL_get (f : Nat → Bool) {n k : Nat} (h : k + 1 < n) : (heldL f n)[k]? = some (f (k + 1)) := by
  unfold heldL; rw [List.getElem?_map, List.getElem?_range (by omega)]; rfl
theorem rec_one {W w : World} {b : Nat} {R : Hp} (H : Sat W w (Hp.rec_ b [.int .i64 ((0 : Nat) : Int)] * R)) : SlS FN 1 w (.slice (some ⟨b, 0, none⟩) 1 1) [0] := by
  refine ⟨_, 1, rfl, by simp, ⟨(fun h => by cases h), Nat.le_refl _⟩, fun j y hy => ⟨b, 0, rfl, H.rec_.1, fun i u hu => ?_⟩⟩
  match j, i with
  | 0, 0 => simp at hy hu; subst hy; subst hu; exact H.cell 0 rfl
  | 0, i + 1 => simp at hu
  | j + 1, _ => simp at hy
theorem play_no {W : World} {n m : Int} {tr li : Nat} {x : Bool} (hbad : n < 2 ∨ 7 < n ∨ m < 0 ∨ 2 < m) :
    Calls Tryd.prog 5 #[.int .i64 n, .int .i64 m, .int .u32 ((tr : Nat) : Int), .bool x, .int .u64 ((li : Nat) : Int)] W fun e w' => e = .returned (.tuple #[.slice none 0 0, .int .i64 1]) ∧ Below W.heap.size W w' := by
  refine calls_pure (Gx.enter (l := []) Tryd.func5 rfl Tryd.ntmps5 rfl (Sat.start W) ?_)
  refine Gx.know (m' := [(0, .int .i64 n), (1, .int .i64 m), (2, .int .u32 ((tr : Nat) : Int)), (3, .bool x), (4, .int .u64 ((li : Nat) : Int))]) (.cons rfl (.cons rfl (.cons rfl (.cons rfl (.cons rfl .nil))))) ?_
  refine Gx.seq ?_
  refine Gx.region ?_
  refine Gx.val rfl rfl rfl (val_assign rfl rfl) ?_
  refine Gx.val rfl rfl rfl (val_assign rfl rfl) ?_
  refine Gx.done ?_
  refine Gx.thenN ?_
  refine Gx.seq ?_
  refine Gx.seq ?_
  refine Gx.region ?_
  refine Gx.val rfl rfl rfl (val_move rfl rfl) ?_
  refine Gx.val rfl rfl rfl (val_lss rfl rfl rfl) ?_
  refine Gx.val rfl rfl rfl (val_move rfl rfl) ?_
  refine Gx.cases (t := 18) rfl (fun h1 => ?_) (fun h1 => ?_)
  · refine Gx.skipg rfl rfl rfl rfl rfl rfl ?_
    refine Gx.skipg rfl rfl rfl rfl rfl rfl ?_
    refine Gx.val rfl rfl rfl (val_pickT rfl rfl rfl) ?_
    refine Gx.val rfl rfl rfl (val_move rfl rfl) ?_
    refine Gx.skipg rfl rfl rfl rfl rfl rfl ?_
    refine Gx.skipg rfl rfl rfl rfl rfl rfl ?_
    refine Gx.val rfl rfl rfl (val_pickT rfl rfl rfl) ?_
    refine Gx.val rfl rfl rfl (val_move rfl rfl) ?_
    refine Gx.skipg rfl rfl rfl rfl rfl rfl ?_
    refine Gx.skipg rfl rfl rfl rfl rfl rfl ?_
    refine Gx.val rfl rfl rfl (val_pickT rfl rfl rfl) ?_
    refine Gx.done ?_
    refine Gx.thenN ?_
    refine Gx.t rfl ?_
    refine Gx.seq ?_
    refine Gx.region ?_
    refine Gx.val rfl rfl rfl (val_assign rfl rfl) ?_
    refine Gx.val rfl rfl rfl (val_assign rfl rfl) ?_
    refine Gx.done ?_
    refine Gx.thenN ?_
    refine Gx.ret ?_
    refine Gx.thenR ?_
    refine Gx.ret2 Tryd.results5 rfl rfl ?_
    rfl
  · refine Gx.valg rfl rfl rfl rfl rfl (val_move rfl rfl) ?_
    refine Gx.valg rfl rfl rfl rfl rfl (val_gtr rfl rfl rfl) ?_
    refine Gx.val rfl rfl rfl (val_pickF rfl rfl rfl) ?_
    refine Gx.val rfl rfl rfl (val_move rfl rfl) ?_
    refine Gx.cases (t := 22) rfl (fun h2 => ?_) (fun h2 => ?_)
    · refine Gx.skipg rfl rfl rfl rfl rfl rfl ?_
      refine Gx.skipg rfl rfl rfl rfl rfl rfl ?_
      refine Gx.val rfl rfl rfl (val_pickT rfl rfl rfl) ?_
      refine Gx.val rfl rfl rfl (val_move rfl rfl) ?_
      refine Gx.skipg rfl rfl rfl rfl rfl rfl ?_
      refine Gx.skipg rfl rfl rfl rfl rfl rfl ?_
      refine Gx.val rfl rfl rfl (val_pickT rfl rfl rfl) ?_
      refine Gx.done ?_
      refine Gx.thenN ?_
      refine Gx.t rfl ?_
      refine Gx.seq ?_
      refine Gx.region ?_
      refine Gx.val rfl rfl rfl (val_assign rfl rfl) ?_
      refine Gx.val rfl rfl rfl (val_assign rfl rfl) ?_
      refine Gx.done ?_
      refine Gx.thenN ?_
      refine Gx.ret ?_
      refine Gx.thenR ?_
      refine Gx.ret2 Tryd.results5 rfl rfl ?_
      rfl
    · refine Gx.valg rfl rfl rfl rfl rfl (val_move rfl rfl) ?_
      refine Gx.valg rfl rfl rfl rfl rfl (val_lss rfl rfl rfl) ?_
      refine Gx.val rfl rfl rfl (val_pickF rfl rfl rfl) ?_
      refine Gx.val rfl rfl rfl (val_move rfl rfl) ?_
      refine Gx.cases (t := 26) rfl (fun h3 => ?_) (fun h3 => ?_)
      · refine Gx.skipg rfl rfl rfl rfl rfl rfl ?_
        refine Gx.skipg rfl rfl rfl rfl rfl rfl ?_
        refine Gx.val rfl rfl rfl (val_pickT rfl rfl rfl) ?_
        refine Gx.done ?_
        refine Gx.thenN ?_
        refine Gx.t rfl ?_
        refine Gx.seq ?_
        refine Gx.region ?_
        refine Gx.val rfl rfl rfl (val_assign rfl rfl) ?_
        refine Gx.val rfl rfl rfl (val_assign rfl rfl) ?_
        refine Gx.done ?_
        refine Gx.thenN ?_
        refine Gx.ret ?_
        refine Gx.thenR ?_
        refine Gx.ret2 Tryd.results5 rfl rfl ?_
        rfl
      · refine Gx.valg rfl rfl rfl rfl rfl (val_move rfl rfl) ?_
        refine Gx.valg rfl rfl rfl rfl rfl (val_gtr rfl rfl rfl) ?_
        refine Gx.val rfl rfl rfl (val_pickF rfl rfl rfl) ?_
        refine Gx.done ?_
        refine Gx.thenN ?_
        refine Gx.dec rfl (fun h4 => ?_) (fun h4 => ?_)
        · refine Gx.seq ?_
          refine Gx.region ?_
          refine Gx.val rfl rfl rfl (val_assign rfl rfl) ?_
          refine Gx.val rfl rfl rfl (val_assign rfl rfl) ?_
          refine Gx.done ?_
          refine Gx.thenN ?_
          refine Gx.ret ?_
          refine Gx.thenR ?_
          refine Gx.ret2 Tryd.results5 rfl rfl ?_
          rfl
        · exfalso; omega

theorem play_no2 {W : World} {n m : Nat} {tr li : Nat} {x : Bool} (h2n : 2 ≤ n) (h7n : n ≤ 7) (h2m : m ≤ 2) (hbad : tr >>> n ≠ 0) :
    Calls Tryd.prog 5 #[.int .i64 ((n : Nat) : Int), .int .i64 ((m : Nat) : Int), .int .u32 ((tr : Nat) : Int), .bool x, .int .u64 ((li : Nat) : Int)] W fun e w' => e = .returned (.tuple #[.slice none 0 0, .int .i64 2]) ∧ Below W.heap.size W w' := by
  refine calls_pure (Gx.enter (l := []) Tryd.func5 rfl Tryd.ntmps5 rfl (Sat.start W) ?_)
  refine Gx.know (m' := [(0, .int .i64 ((n : Nat) : Int)), (1, .int .i64 ((m : Nat) : Int)), (2, .int .u32 ((tr : Nat) : Int)), (3, .bool x), (4, .int .u64 ((li : Nat) : Int))]) (.cons rfl (.cons rfl (.cons rfl (.cons rfl (.cons rfl .nil))))) ?_
  refine Gx.seq ?_
  refine Gx.region ?_
  refine Gx.val rfl rfl rfl (val_assign rfl rfl) ?_
  refine Gx.val rfl rfl rfl (val_assign rfl rfl) ?_
  refine Gx.done ?_
  refine Gx.thenN ?_
  refine Gx.seq ?_
  refine Gx.seq ?_
  refine Gx.region ?_
  refine Gx.val rfl rfl rfl (val_move rfl rfl) ?_
  refine Gx.val rfl rfl rfl (val_lss rfl rfl rfl) ?_
  refine Gx.val rfl rfl rfl (val_move rfl rfl) ?_
  refine Gx.slot (t := 18) (v := .bool false) (look_decF rfl (by omega)) ?_
  refine Gx.valg rfl rfl rfl rfl rfl (val_move rfl rfl) ?_
  refine Gx.valg rfl rfl rfl rfl rfl (val_gtr rfl rfl rfl) ?_
  refine Gx.val rfl rfl rfl (val_pickF rfl rfl rfl) ?_
  refine Gx.val rfl rfl rfl (val_move rfl rfl) ?_
  refine Gx.slot (t := 22) (v := .bool false) (look_decF rfl (by omega)) ?_
  refine Gx.valg rfl rfl rfl rfl rfl (val_move rfl rfl) ?_
  refine Gx.valg rfl rfl rfl rfl rfl (val_lss rfl rfl rfl) ?_
  refine Gx.val rfl rfl rfl (val_pickF rfl rfl rfl) ?_
  refine Gx.val rfl rfl rfl (val_move rfl rfl) ?_
  refine Gx.slot (t := 26) (v := .bool false) (look_decF rfl (by omega)) ?_
  refine Gx.valg rfl rfl rfl rfl rfl (val_move rfl rfl) ?_
  refine Gx.valg rfl rfl rfl rfl rfl (val_gtr rfl rfl rfl) ?_
  refine Gx.val rfl rfl rfl (val_pickF rfl rfl rfl) ?_
  refine Gx.done ?_
  refine Gx.thenN ?_
  refine Gx.decF rfl (by omega) ?_
  refine Gx.skip ?_
  refine Gx.thenN ?_
  refine Gx.seq ?_
  refine Gx.seq ?_
  refine Gx.region ?_
  refine Gx.val rfl rfl rfl (val_move rfl rfl) ?_
  refine Gx.val rfl rfl rfl (val_move rfl rfl) ?_
  refine Gx.val rfl rfl rfl (val_shr (b := n) rfl rfl rfl rfl (by show n ≤ 32; omega) (shr32 _ _)) ?_
  refine Gx.val rfl rfl rfl (val_neq rfl rfl rfl) ?_
  refine Gx.done ?_
  refine Gx.thenN ?_
  refine Gx.decT rfl (by omega) ?_
  refine Gx.seq ?_
  refine Gx.region ?_
  refine Gx.val rfl rfl rfl (val_assign rfl rfl) ?_
  refine Gx.val rfl rfl rfl (val_assign rfl rfl) ?_
  refine Gx.done ?_
  refine Gx.thenN ?_
  refine Gx.ret ?_
  refine Gx.thenR ?_
  refine Gx.ret2 Tryd.results5 rfl rfl ?_
  rfl

theorem play_ok {W : World} {n m : Nat} {tr li : Nat} {x : Bool} (hT : HT W) (h2n : 2 ≤ n) (h7n : n ≤ 7) (h2m : m ≤ 2) (htr : tr < 4294967296) (hli : li < 18446744073709551616) (hout : tr >>> n = 0) :
    Calls Tryd.prog 5 #[.int .i64 ((n : Nat) : Int), .int .i64 ((m : Nat) : Int), .int .u32 ((tr : Nat) : Int), .bool x, .int .u64 ((li : Nat) : Int)] W fun e w' => ∃ u, e = .returned u ∧ (∃ lv, u = .tuple #[lv, .int .i64 0] ∧ SlS FB 1 w' lv (heldL (sprd ⟨tr, li⟩ m [0] (2 ^ n - 2) x) n)) ∧ Below W.heap.size W w' := by
  refine calls_some (S := fun v l => ∃ lv, v = .tuple #[lv, .int .i64 0] ∧ l = [Hp.own FB 1 lv (heldL (sprd ⟨tr, li⟩ m [0] (2 ^ n - 2) x) n)]) (Gx.enter (l := []) Tryd.func5 rfl Tryd.ntmps5 rfl (Sat.start W) ?_) ?_
  refine Gx.know (m' := [(0, .int .i64 ((n : Nat) : Int)), (1, .int .i64 ((m : Nat) : Int)), (2, .int .u32 ((tr : Nat) : Int)), (3, .bool x), (4, .int .u64 ((li : Nat) : Int))]) (.cons rfl (.cons rfl (.cons rfl (.cons rfl (.cons rfl .nil))))) ?_
  refine Gx.seq ?_
  refine Gx.region ?_
  refine Gx.val rfl rfl rfl (val_assign rfl rfl) ?_
  refine Gx.val rfl rfl rfl (val_assign rfl rfl) ?_
  refine Gx.done ?_
  refine Gx.thenN ?_
  refine Gx.seq ?_
  refine Gx.seq ?_
  refine Gx.region ?_
  refine Gx.val rfl rfl rfl (val_move rfl rfl) ?_
  refine Gx.val rfl rfl rfl (val_lss rfl rfl rfl) ?_
  refine Gx.val rfl rfl rfl (val_move rfl rfl) ?_
  refine Gx.slot (t := 18) (v := .bool false) (look_decF rfl (by omega)) ?_
  refine Gx.valg rfl rfl rfl rfl rfl (val_move rfl rfl) ?_
  refine Gx.valg rfl rfl rfl rfl rfl (val_gtr rfl rfl rfl) ?_
  refine Gx.val rfl rfl rfl (val_pickF rfl rfl rfl) ?_
  refine Gx.val rfl rfl rfl (val_move rfl rfl) ?_
  refine Gx.slot (t := 22) (v := .bool false) (look_decF rfl (by omega)) ?_
  refine Gx.valg rfl rfl rfl rfl rfl (val_move rfl rfl) ?_
  refine Gx.valg rfl rfl rfl rfl rfl (val_lss rfl rfl rfl) ?_
  refine Gx.val rfl rfl rfl (val_pickF rfl rfl rfl) ?_
  refine Gx.val rfl rfl rfl (val_move rfl rfl) ?_
  refine Gx.slot (t := 26) (v := .bool false) (look_decF rfl (by omega)) ?_
  refine Gx.valg rfl rfl rfl rfl rfl (val_move rfl rfl) ?_
  refine Gx.valg rfl rfl rfl rfl rfl (val_gtr rfl rfl rfl) ?_
  refine Gx.val rfl rfl rfl (val_pickF rfl rfl rfl) ?_
  refine Gx.done ?_
  refine Gx.thenN ?_
  refine Gx.decF rfl (by omega) ?_
  refine Gx.skip ?_
  refine Gx.thenN ?_
  refine Gx.seq ?_
  refine Gx.seq ?_
  refine Gx.region ?_
  refine Gx.val rfl rfl rfl (val_move rfl rfl) ?_
  refine Gx.val rfl rfl rfl (val_move rfl rfl) ?_
  refine Gx.val rfl rfl rfl (val_shr (b := n) rfl rfl rfl rfl (by show n ≤ 32; omega) (shr32 _ _)) ?_
  refine Gx.val rfl rfl rfl (val_neq rfl rfl rfl) ?_
  refine Gx.done ?_
  refine Gx.thenN ?_
  refine Gx.decF rfl (by omega) ?_
  refine Gx.skip ?_
  refine Gx.thenN ?_
  refine Gx.seq ?_
  refine Gx.region ?_
  refine Gx.val rfl rfl rfl (val_move rfl rfl) ?_
  refine Gx.val rfl rfl rfl (val_move rfl rfl) ?_
  refine Gx.val rfl rfl rfl (val_build rfl (qs := [(0, .int .u32 ((tr : Nat) : Int)), (1, .int .u64 ((li : Nat) : Int))]) rfl rfl (fun w => by go_simp) (v := .agg #[.int .u32 ((tr : Nat) : Int), .int .u64 ((li : Nat) : Int)])) ?_
  refine Gx.eff rfl rfl rfl (eff_alloc rfl Tryd.ty33 (vs := [.int .u32 0, .int .u64 0]) rfl) ?_
  rintro _ _ ⟨b1, rfl, rfl⟩
  refine Gx.eff0 rfl rfl (eff_store rfl Tryd.ty33 rfl rfl (us := [.int .u32 ((tr : Nat) : Int), .int .u64 ((li : Nat) : Int)]) rfl rfl rfl (k := 0) rfl (rfl) (vs' := [.int .u32 ((tr : Nat) : Int), .int .u64 ((li : Nat) : Int)]) (rfl) (l' := [Hp.rec_ b1 [.int .u32 ((tr : Nat) : Int), .int .u64 ((li : Nat) : Int)]]) rfl) ?_
  rintro _ _ rfl
  refine Gx.done ?_
  refine Gx.thenN ?_
  refine Gx.seq ?_
  -- region 6, in whatever order
  refine Gx.ones 5 (Gx.norm (l' := [Hp.rec_ b1 [.int .u32 ((tr : Nat) : Int), .int .u64 ((li : Nat) : Int)], 1, 1, 1, 1, 1]) rfl ?_)
  obtain ⟨pp2x1, pp2x1e⟩ : ∃ p : Done → Hp, p = fun d => cond (dn d 1) (Hp.rec_ (sB (dv d 1)) [.int .i64 0]) (1) := ⟨_, rfl⟩
  obtain ⟨pp2x2, pp2x2e⟩ : ∃ p : Done → Hp, p = fun d => cond (dn d 7) (gotH ⟨tr, li⟩ m [0] (2 ^ n - 2) x (mB (dv d 7))) (1) := ⟨_, rfl⟩
  obtain ⟨pp2x3, pp2x3e⟩ : ∃ p : Done → Hp, p = fun d => cond (dn d 1) (Hp.pure (dv d 1 = .slice (some ⟨sB (dv d 1), 0, none⟩) 1 1)) 1 := ⟨_, rfl⟩
  obtain ⟨pp2x4, pp2x4e⟩ : ∃ p : Done → Hp, p = fun d => cond (dn d 7) (Hp.pure (dv d 7 = .map (some (mB (dv d 7))))) 1 := ⟨_, rfl⟩
  obtain ⟨pp2x5, pp2x5e⟩ : ∃ p : Done → Hp, p = fun d => cond (dn d 8) (Hp.pure (dv d 8 = .map (some (mB (dv d 7))))) 1 := ⟨_, rfl⟩
  refine Gx.regionF [1, 7, 8] [0, 2, 3, 4, 5, 6] (fun ιi => cond (Nat.beq ιi 0) [Hp.rec_ b1 [.int .u32 ((tr : Nat) : Int), .int .u64 ((li : Nat) : Int)]] ([])) (fun d => [Hp.rec_ b1 [.int .u32 ((tr : Nat) : Int), .int .u64 ((li : Nat) : Int)], pp2x1 d, pp2x2 d, pp2x3 d, pp2x4 d, pp2x5 d]) Tryd.mixed (by kernel_rfl) (by kernel_rfl) (by rw [pp2x1e]; rw [pp2x2e]; rw [pp2x3e]; rw [pp2x4e]; rw [pp2x5e]; rfl) ?_ ?_
  · intro ιi d w hc hs H
    by_cases hn0 : ιi = 0
    · subst hn0
      exact H.only (k := 0) rfl rfl
    · refine Sat.listed (l := []) H.noneL ?_
      simp only [beq_no hn0, cond_false]
  refine Gp.val rfl rfl rfl rfl (Val.cast (val_loadA rfl Tryd.ty33 rfl rfl rfl (cells_rec (k := 0) rfl)) (v' := .agg #[.int .u32 ((tr : Nat) : Int), .int .u64 ((li : Nat) : Int)]) rfl) ?_
  refine Gp.val rfl rfl rfl rfl (val_move rfl rfl) ?_
  refine Gp.val rfl rfl rfl rfl (val_shl (b := n) rfl rfl rfl rfl (by show n ≤ 32; omega) (shl1 (by omega))) ?_
  refine Gp.val rfl rfl rfl rfl (val_sub rfl rfl rfl (mask_sub (by omega) (by omega))) ?_
  refine Gp.val rfl rfl rfl rfl (val_move rfl rfl) ?_
  refine Gp.val rfl rfl rfl rfl (val_move rfl rfl) ?_
  refine Gp.done (uniq_of (by kernel_rfl)) (by rfl) (by kernel_rfl) ⟨⟨_, rfl, ?_⟩, ⟨_, rfl, ?_⟩, ⟨_, rfl, ?_⟩, trivial⟩ ?_
  · intro d hc hdi hpre a w hf H
    change Sat _ _ (sep [Hp.rec_ b1 [.int .u32 ((tr : Nat) : Int), .int .u64 ((li : Nat) : Int)], pp2x1 d, pp2x2 d, pp2x3 d, pp2x4 d, pp2x5 d]) at H
    have q1 := hdi
    have q7 : dn d 7 = false := hc.not 7 1 rfl (by kernel_rfl) q1
    have q8 : dn d 8 = false := hc.not 8 1 rfl (by kernel_rfl) q1
    have n1 : pp2x1 d = 1 := by rw [pp2x1e]; simp only [q1, cond_true, cond_false]
    have n2 : pp2x2 d = 1 := by rw [pp2x2e]; simp only [q7, cond_true, cond_false]
    have n3 : pp2x3 d = 1 := by rw [pp2x3e]; simp only [q1, cond_true, cond_false]
    have n4 : pp2x4 d = 1 := by rw [pp2x4e]; simp only [q7, cond_true, cond_false]
    have n5 : pp2x5 d = 1 := by rw [pp2x5e]; simp only [q8, cond_true, cond_false]
    rw [n1, n2, n3, n4, n5] at H
    refine EffAt.mono (Eff.at_ hf.slots H (eff_buildSlice rfl (qs := [(0, .int .i64 0)]) rfl rfl (cs := #[.int .i64 0]) (vs := [.int .i64 0]) (E := 3) rfl (fun w => by first | (go_simp; done) | (go_simp; rfl)))) ?_
    rintro _ w2 ⟨_, ⟨b3, rfl, rfl⟩, H2⟩
    have H2 := Sat.fillAt H2 (k := 1) rfl
    have H2 := (Sat.pureI (p := (.slice (some ⟨b3, 0, none⟩) 1 1 : Value) = .slice (some ⟨b3, 0, none⟩) 1 1) rfl H2).fillAt (k := 3) rfl
    obtain ⟨d2, hd2⟩ : ∃ d2, d2 = upd d 1 (.slice (some ⟨b3, 0, none⟩) 1 1) := ⟨_, rfl⟩
    have m1 : dn d2 1 = true := by rw [hd2]; rfl
    have m7 : dn d2 7 = false := by rw [hd2]; exact q7
    have m8 : dn d2 8 = false := by rw [hd2]; exact q8
    rw [← hd2]
    change Sat _ _ (sep [Hp.rec_ b1 [.int .u32 ((tr : Nat) : Int), .int .u64 ((li : Nat) : Int)], pp2x1 d2, pp2x2 d2, pp2x3 d2, pp2x4 d2, pp2x5 d2])
    have u1 := congrFun pp2x1e d2
    simp only [m1, cond_true, cond_false] at u1
    have u2 := congrFun pp2x2e d2
    simp only [m7, cond_true, cond_false] at u2
    have u3 := congrFun pp2x3e d2
    simp only [m1, cond_true, cond_false] at u3
    have u4 := congrFun pp2x4e d2
    simp only [m7, cond_true, cond_false] at u4
    have u5 := congrFun pp2x5e d2
    simp only [m8, cond_true, cond_false] at u5
    rw [u1, u2, u3, u4, u5]
    subst hd2
    exact H2
  · intro d hc hdi hpre a w hf H
    change Sat _ _ (sep [Hp.rec_ b1 [.int .u32 ((tr : Nat) : Int), .int .u64 ((li : Nat) : Int)], pp2x1 d, pp2x2 d, pp2x3 d, pp2x4 d, pp2x5 d]) at H
    have q1 : dn d 1 = true := hpre 1 (by kernel_rfl)
    have q7 := hdi
    have q8 : dn d 8 = false := hc.not 8 7 rfl (by kernel_rfl) q7
    have e1 : dv d 1 = .slice (some ⟨sB (dv d 1), 0, none⟩) 1 1 := H.factAt (k := 3) rfl (by rw [pp2x3e]; simp only [q1, cond_true])
    have n1 : pp2x1 d = Hp.rec_ (sB (dv d 1)) [.int .i64 0] := by rw [pp2x1e]; simp only [q1, cond_true, cond_false]
    have n2 : pp2x2 d = 1 := by rw [pp2x2e]; simp only [q7, cond_true, cond_false]
    have n4 : pp2x4 d = 1 := by rw [pp2x4e]; simp only [q7, cond_true, cond_false]
    have n5 : pp2x5 d = 1 := by rw [pp2x5e]; simp only [q8, cond_true, cond_false]
    rw [n1, n2, n4, n5] at H
    have s1 := hf.add hf.slots 1 rfl (by kernel_rfl) rfl q1 (v := .slice (some ⟨sB (dv d 1), 0, none⟩) 1 1) e1
    refine EffAt.mono (Eff.at_ s1 H (eff_callB1 (mkv := fun b => .map (some b)) (p := gotH ⟨tr, li⟩ m [0] (2 ^ n - 2) x) (vs := [.agg #[.int .u32 ((tr : Nat) : Int), .int .u64 ((li : Nat) : Int)], .slice (some ⟨sB (dv d 1), 0, none⟩) 1 1, .int .u32 ((2 ^ n - 2 : Nat) : Int), .int .i64 ((m : Nat) : Int), .bool x]) rfl Tryd.fn9 rfl (fun w H => spread_any (c := ⟨tr, li⟩) htr hli m (hT.below H.below) (rec_one (H.at_ (k := 1) rfl)) (by decide) (by show 1 + m ≤ 4; omega) (by decide) (mask_lt h7n)))) ?_
    rintro _ w2 ⟨_, ⟨b4, rfl, rfl⟩, H2⟩
    have H2 := Sat.fillAt H2 (k := 2) rfl
    have H2 := (Sat.pureI (p := (.map (some b4) : Value) = .map (some b4)) rfl H2).fillAt (k := 4) rfl
    obtain ⟨d2, hd2⟩ : ∃ d2, d2 = upd d 7 (.map (some b4)) := ⟨_, rfl⟩
    have m7 : dn d2 7 = true := by rw [hd2]; rfl
    have m1 : dn d2 1 = true := by rw [hd2]; exact q1
    have m8 : dn d2 8 = false := by rw [hd2]; exact q8
    rw [← hd2]
    change Sat _ _ (sep [Hp.rec_ b1 [.int .u32 ((tr : Nat) : Int), .int .u64 ((li : Nat) : Int)], pp2x1 d2, pp2x2 d2, pp2x3 d2, pp2x4 d2, pp2x5 d2])
    have u1 := congrFun pp2x1e d2
    simp only [m1, cond_true, cond_false] at u1
    have u2 := congrFun pp2x2e d2
    simp only [m7, cond_true, cond_false] at u2
    have u3 : pp2x3 d2 = pp2x3 d := by rw [hd2, pp2x3e]; rfl
    have u4 := congrFun pp2x4e d2
    simp only [m7, cond_true, cond_false] at u4
    have u5 := congrFun pp2x5e d2
    simp only [m8, cond_true, cond_false] at u5
    rw [u1, u2, u3, u4, u5]
    subst hd2
    exact H2
  · intro d hc hdi hpre a w hf H
    change Sat _ _ (sep [Hp.rec_ b1 [.int .u32 ((tr : Nat) : Int), .int .u64 ((li : Nat) : Int)], pp2x1 d, pp2x2 d, pp2x3 d, pp2x4 d, pp2x5 d]) at H
    have q7 : dn d 7 = true := hpre 7 (by kernel_rfl)
    have q7 : dn d 7 = true := hpre 7 (by kernel_rfl)
    have q1 : dn d 1 = true := hpre 1 (by kernel_rfl)
    have q7 : dn d 7 = true := hpre 7 (by kernel_rfl)
    have q8 := hdi
    have e7 : dv d 7 = .map (some (mB (dv d 7))) := H.factAt (k := 4) rfl (by rw [pp2x4e]; simp only [q7, cond_true])
    have e1 : dv d 1 = .slice (some ⟨sB (dv d 1), 0, none⟩) 1 1 := H.factAt (k := 3) rfl (by rw [pp2x3e]; simp only [q1, cond_true])
    have n1 : pp2x1 d = Hp.rec_ (sB (dv d 1)) [.int .i64 0] := by rw [pp2x1e]; simp only [q1, cond_true, cond_false]
    have n2 : pp2x2 d = gotH ⟨tr, li⟩ m [0] (2 ^ n - 2) x (mB (dv d 7)) := by rw [pp2x2e]; simp only [q7, cond_true, cond_false]
    have n5 : pp2x5 d = 1 := by rw [pp2x5e]; simp only [q8, cond_true, cond_false]
    rw [n1, n2, n5] at H
    have s7 := hf.add hf.slots 7 rfl (by kernel_rfl) rfl q7 (v := .map (some (mB (dv d 7)))) e7
    refine EffAt.mono (Val.eff (v := .map (some (mB (dv d 7)))) (val_assign rfl rfl) s7 H) ?_
    rintro _ w2 ⟨rfl, H2⟩
    have H2 := (Sat.pureI (p := (.map (some (mB (dv d 7))) : Value) = .map (some (mB (dv d 7)))) rfl H2).fillAt (k := 5) rfl
    obtain ⟨d2, hd2⟩ : ∃ d2, d2 = upd d 8 (.map (some (mB (dv d 7)))) := ⟨_, rfl⟩
    have m8 : dn d2 8 = true := by rw [hd2]; rfl
    have m7 : dn d2 7 = true := by rw [hd2]; exact q7
    have m1 : dn d2 1 = true := by rw [hd2]; exact q1
    rw [← hd2]
    change Sat _ _ (sep [Hp.rec_ b1 [.int .u32 ((tr : Nat) : Int), .int .u64 ((li : Nat) : Int)], pp2x1 d2, pp2x2 d2, pp2x3 d2, pp2x4 d2, pp2x5 d2])
    have u1 := congrFun pp2x1e d2
    simp only [m1, cond_true, cond_false] at u1
    have u2 := congrFun pp2x2e d2
    simp only [m7, cond_true, cond_false] at u2
    have u3 : pp2x3 d2 = pp2x3 d := by rw [hd2, pp2x3e]; rfl
    have u4 : pp2x4 d2 = pp2x4 d := by rw [hd2, pp2x4e]; rfl
    have u5 := congrFun pp2x5e d2
    simp only [m8, cond_true, cond_false] at u5
    rw [u1, u2, u3, u4, u5]
    subst hd2
    exact H2
  · intro d hc hall a hf w H
    change Sat _ _ (sep [Hp.rec_ b1 [.int .u32 ((tr : Nat) : Int), .int .u64 ((li : Nat) : Int)], pp2x1 d, pp2x2 d, pp2x3 d, pp2x4 d, pp2x5 d]) at H
    have q1 : dn d 1 = true := hall 1 rfl
    have q7 : dn d 7 = true := hall 7 rfl
    have q8 : dn d 8 = true := hall 8 rfl
    have e1 : dv d 1 = .slice (some ⟨sB (dv d 1), 0, none⟩) 1 1 := H.factAt (k := 3) rfl (by rw [pp2x3e]; simp only [q1, cond_true])
    have e7 : dv d 7 = .map (some (mB (dv d 7))) := H.factAt (k := 4) rfl (by rw [pp2x4e]; simp only [q7, cond_true])
    have e8 : dv d 8 = .map (some (mB (dv d 7))) := H.factAt (k := 5) rfl (by rw [pp2x5e]; simp only [q8, cond_true])
    have n1 : pp2x1 d = Hp.rec_ (sB (dv d 1)) [.int .i64 0] := by rw [pp2x1e]; simp only [q1, cond_true, cond_false]
    have n2 : pp2x2 d = gotH ⟨tr, li⟩ m [0] (2 ^ n - 2) x (mB (dv d 7)) := by rw [pp2x2e]; simp only [q7, cond_true, cond_false]
    have n3 : pp2x3 d = Hp.pure (dv d 1 = .slice (some ⟨sB (dv d 1), 0, none⟩) 1 1) := by rw [pp2x3e]; simp only [q1, cond_true]
    have n4 : pp2x4 d = Hp.pure (dv d 7 = .map (some (mB (dv d 7)))) := by rw [pp2x4e]; simp only [q7, cond_true]
    have n5 : pp2x5 d = Hp.pure (dv d 8 = .map (some (mB (dv d 7)))) := by rw [pp2x5e]; simp only [q8, cond_true]
    rw [n1, n2, n3, n4, n5] at H
    clear n1 n2 n3 n4 n5
    obtain ⟨z5, hz5⟩ : ∃ b, b = sB (dv d 1) := ⟨_, rfl⟩
    rw [← hz5] at e1  H
    have s1 := hf.add hf.slots 1 rfl rfl rfl q1 (v := .slice (some ⟨z5, 0, none⟩) 1 1) e1
    obtain ⟨z6, hz6⟩ : ∃ b, b = mB (dv d 7) := ⟨_, rfl⟩
    rw [← hz6] at e7 e8 H
    have s7 := hf.add s1 7 rfl rfl rfl q7 (v := .map (some z6)) e7
    have s8 := hf.add s7 8 rfl rfl rfl q8 (v := .map (some z6)) e8
    refine Gx.use s8 H ?_
    refine Gx.drop 5 rfl ?_
    refine Gx.drop 4 rfl ?_
    refine Gx.drop 3 rfl ?_
    refine Gx.norm (l' := [Hp.rec_ b1 [.int .u32 ((tr : Nat) : Int), .int .u64 ((li : Nat) : Int)], Hp.rec_ z5 [.int .i64 0], gotH ⟨tr, li⟩ m [0] (2 ^ n - 2) x z6]) rfl ?_
    refine Gx.thenN ?_
    refine Gx.seq ?_
    refine Gx.exists_ (l' := fun q9 : {ms : Mb // GOT ⟨tr, li⟩ m [0] (2 ^ n - 2) x ms} => [Hp.rec_ b1 [.int .u32 ((tr : Nat) : Int), .int .u64 ((li : Nat) : Int)], Hp.rec_ z5 [.int .i64 0], Hp.map Tryd.prog 3 natL boolV z6 q9.1]) (fun w H => by obtain ⟨ms, h, H1⟩ := gotH.open_ (H.at_ (k := 2) rfl); exact ⟨⟨ms, h⟩, Sat.back (k := 2) rfl rfl H1⟩) ?_
    rintro ⟨hm, hgm⟩
    refine Gx.region ?_
    refine Gx.val rfl rfl rfl (val_assign rfl rfl) ?_
    refine Gx.done ?_
    refine Gx.thenN ?_
    refine Gx.seq ?_
    refine Gx.seq ?_
    refine Gx.ownNil FB 1 ?_
    refine Gx.region ?_
    refine Gx.val rfl rfl rfl (val_assign rfl rfl) ?_
    refine Gx.done ?_
    refine Gx.thenN ?_
    refine Gx.block ?_
    refine Gx.drop 2 rfl ?_
    refine Gx.drop 1 rfl ?_
    refine Gx.loop (ι := Nat × Value) (fun ξ => (1 ≤ ξ.1 ∧ ξ.1 ≤ n) ∧ (IsS ξ.2)) (fun ξ => [(0, .int .i64 ((n : Nat) : Int)), (13, .map (some z6)), (14, ξ.2), (15, .int .i64 ((ξ.1 : Nat) : Int))]) (fun ξ => [Hp.own FB 1 ξ.2 (heldL (sprd ⟨tr, li⟩ m [0] (2 ^ n - 2) x) ξ.1), Hp.map Tryd.prog 3 natL boolV z6 hm]) (fun ξ => n - ξ.1) (1, (.slice none 0 0)) ⟨⟨Nat.le_refl _, by dsimp only; omega⟩, ⟨none, 0, 0, rfl⟩⟩ ((.cons rfl (.cons rfl (.cons rfl (.cons rfl .nil))))) rfl ?_
    rintro ⟨i, lv⟩ ⟨hi, hil⟩
    dsimp only at hi hil
    refine Gx.know (m' := [(0, .int .i64 ((n : Nat) : Int)), (13, .map (some z6)), (14, lv), (15, .int .i64 ((i : Nat) : Int))]) (.cons rfl (.cons rfl (.cons rfl (.cons rfl .nil)))) (Gx.norm (l' := [Hp.own FB 1 lv (heldL (sprd ⟨tr, li⟩ m [0] (2 ^ n - 2) x) i), Hp.map Tryd.prog 3 natL boolV z6 hm]) rfl ?_)
    have hhl := heldL_len (sprd ⟨tr, li⟩ m [0] (2 ^ n - 2) x) i
    refine Gx.seq ?_
    refine Gx.seq ?_
    refine Gx.region ?_
    refine Gx.val rfl rfl rfl (val_move rfl rfl) ?_
    refine Gx.val rfl rfl rfl (val_move rfl rfl) ?_
    refine Gx.val rfl rfl rfl (val_lss rfl rfl rfl) ?_
    refine Gx.done ?_
    refine Gx.thenN ?_
    refine Gx.dec rfl (fun h8 => ?_) (fun h8 => ?_)
    · refine Gx.skip ?_
      refine Gx.thenN ?_
      refine Gx.seq ?_
      refine Gx.block ?_
      refine Gx.region ?_
      refine Gx.val rfl rfl rfl (val_move rfl rfl) ?_
      refine Gx.val rfl rfl rfl (val_move rfl rfl) ?_
      refine Gx.val rfl rfl rfl (val_move rfl rfl) ?_
      refine Gx.val rfl rfl rfl (val_lookup1 rfl Tryd.underlying34 Tryd.kN Tryd.ty4 rfl rfl (i := i) (by omega) (k := 1) rfl (r := .bool (sprd ⟨tr, li⟩ m [0] (2 ^ n - 2) x i)) (by rw [hgm.get, if_pos (mask_bit h7n hi.1 (by omega))]; rfl)) ?_
      refine Gx.eff rfl rfl rfl (eff_buildSlice rfl (qs := [(0, .bool (sprd ⟨tr, li⟩ m [0] (2 ^ n - 2) x i))]) rfl rfl (cs := #[.bool (sprd ⟨tr, li⟩ m [0] (2 ^ n - 2) x i)]) (vs := [.bool (sprd ⟨tr, li⟩ m [0] (2 ^ n - 2) x i)]) (E := 4) rfl (fun w => by first | (go_simp; done) | (go_simp; rfl))) ?_
      rintro _ _ ⟨b9, rfl, rfl⟩
      refine Gx.eff rfl rfl rfl (eff_push (r := (sprd ⟨tr, li⟩ m [0] (2 ^ n - 2) x i)) rfl Tryd.eB FB_len FB_one rfl rfl (k := 0) rfl rfl (k' := 0) rfl (by omega) (by omega)) ?_
      rintro v10 _ ⟨hiv10, rfl⟩
      refine Gx.norm (l' := [Hp.own FB 1 v10 ((heldL (sprd ⟨tr, li⟩ m [0] (2 ^ n - 2) x) i) ++ [(sprd ⟨tr, li⟩ m [0] (2 ^ n - 2) x i)]), Hp.map Tryd.prog 3 natL boolV z6 hm]) rfl ?_
      refine Gx.val rfl rfl rfl (val_assign rfl rfl) ?_
      refine Gx.done ?_
      refine Gx.blkN ?_
      refine Gx.thenN ?_
      refine Gx.region ?_
      refine Gx.val rfl rfl rfl (val_move rfl rfl) ?_
      refine Gx.val rfl rfl rfl (val_add rfl rfl rfl (r := ((i + 1 : Nat) : Int)) (w64 (by omega) (by omega))) ?_
      refine Gx.val rfl rfl rfl (val_assign rfl rfl) ?_
      refine Gx.done ?_
      refine Gx.thenN ?_
      refine Gx.norm (l' := [Hp.own FB 1 v10 (heldL (sprd ⟨tr, li⟩ m [0] (2 ^ n - 2) x) (i + 1)), Hp.map Tryd.prog 3 natL boolV z6 hm]) (by rw [heldL_snoc _ hi.1] <;> rfl) ?_
      exact Gx.round (i + 1, v10) ⟨by dsimp only; omega, hiv10⟩ (by first | omega | (dsimp only; omega)) ((.cons rfl (.cons rfl (.cons rfl (.cons rfl .nil))))) rfl
    · refine Gx.exit ?_
      refine Gx.thenE ?_
      refine Gx.thenE ?_
      refine Gx.blkE ?_
      refine Gx.thenN ?_
      refine Gx.seq ?_
      refine Gx.region ?_
      refine Gx.val rfl rfl rfl (val_move rfl rfl) ?_
      refine Gx.val rfl rfl rfl (val_assign rfl rfl) ?_
      refine Gx.val rfl rfl rfl (val_assign rfl rfl) ?_
      refine Gx.done ?_
      refine Gx.thenN ?_
      refine Gx.ret ?_
      refine Gx.drop 1 rfl ?_
      refine Gx.ret2 Tryd.results5 rfl rfl ?_
      obtain rfl : i = n := by omega
      exact ⟨_, rfl, rfl⟩
  rintro v l w ⟨lv, rfl, rfl⟩ H
  exact ⟨lv, rfl, (H.at_ (k := 0) rfl).sls (by rw [heldL_len]; omega)⟩

end Go.Proofs.YtcblkjjkpffjhaaDoor
