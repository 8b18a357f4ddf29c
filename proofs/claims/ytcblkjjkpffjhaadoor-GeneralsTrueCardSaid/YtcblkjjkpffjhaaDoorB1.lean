/- Without traitors all hold what was ordered. The walk. No condition. -/
import Derived.Test.YtcblkjjkpffjhaaDoorA5
namespace Go.Proofs.YtcblkjjkpffjhaaDoor
open Go.RowKit
set_option linter.unusedVariables false
set_option linter.unusedSimpArgs false
set_option maxRecDepth 100000

theorem sent_true {c : Cp} (h : c.tr = 0) (way : List Nat) (to : Nat) (x : Bool) : sentP c way to x = x := by unfold sentP; rw [h, if_neg (by simp)]
theorem sum_same {v : Int} : ∀ {l : List Int}, (∀ y ∈ l, y = v) → l.sum = (l.length : Int) * v
  | [], _ => by simp
  | y :: l, h => by
    have h1 := h y (by simp)
    have h2 := sum_same (l := l) fun z hz => h z (by simp [hz])
    rw [List.sum_cons, h1, h2, List.length_cons]
    have : (((l.length + 1 : Nat)) : Int) * v = (l.length : Int) * v + v := by rw [Int.natCast_succ, Int.add_mul, Int.one_mul]
    omega
theorem sprd_true {c : Cp} (h : c.tr = 0) : ∀ (d : Nat) (way : List Nat) (s : Nat) (x : Bool) (j : Nat), s < 128 → s.testBit j = true → sprd c d way s x j = x
  | 0, way, s, x, j, _, _ => sent_true h way j x
  | d + 1, way, s, x, j, hs, hj => by
    unfold sprd
    have e : ∀ y ∈ (elems s).map (fun i => if i = j then vote (sentP c way i x) else vote (sprd c d (way ++ [i]) (delS s i) (sentP c way i x) j)), y = vote x := by
      intro y hy
      obtain ⟨i, hi, rfl⟩ := List.mem_map.1 hy
      split
      · rw [sent_true h]
      · rename_i hne
        rw [sent_true h, sprd_true h d _ _ _ _ (delS_lt _ _) (by rw [delS_bit hs, hj]; simpa using fun q => hne q.symm)]
    rw [sum_same e, List.length_map]
    have h1 : 1 ≤ (elems s).length := List.length_pos_of_mem ((mem_elems hs).2 hj)
    cases x with
    | true => show decide (0 < ((elems s).length : Int) * 1) = true; rw [decide_eq_true_iff]; omega
    | false => show decide (0 < ((elems s).length : Int) * (-1)) = false; rw [decide_eq_false_iff_not]; omega
theorem held_true {n m li : Nat} {x : Bool} (h7 : n ≤ 7) : ∀ y ∈ heldL (sprd ⟨0, li⟩ m [0] (2 ^ n - 2) x) n, y = x := by
  intro y hy
  unfold heldL at hy
  obtain ⟨k, hk, rfl⟩ := List.mem_map.1 hy
  rw [List.mem_range] at hk
  exact sprd_true rfl m [0] _ x _ (mask_lt h7) (mask_bit h7 (by omega) (by omega))
theorem true_no {W : World} {n m : Int} {li : Nat} {x : Bool} (hbad : n < 2 ∨ 7 < n ∨ m < 0 ∨ 2 < m) :
    Calls Tryd.prog 4 #[.int .i64 n, .int .i64 m, .bool x, .int .u64 ((li : Nat) : Int)] W fun e w' => e = .returned (.bool true) ∧ Below W.heap.size W w' := by
  refine calls_pure (Gx.enter (l := []) Tryd.func4 rfl Tryd.ntmps4 rfl (Sat.start W) ?_)
  refine Gx.know (m' := [(0, .int .i64 n), (1, .int .i64 m), (2, .bool x), (3, .int .u64 ((li : Nat) : Int))]) (.cons rfl (.cons rfl (.cons rfl (.cons rfl .nil)))) ?_
  refine Gx.seq ?_
  refine Gx.region ?_
  refine Gx.val rfl rfl rfl (val_assign rfl rfl) ?_
  refine Gx.done ?_
  refine Gx.thenN ?_
  refine Gx.seq ?_
  refine Gx.region ?_
  refine Gx.val rfl rfl rfl (val_move rfl rfl) ?_
  refine Gx.val rfl rfl rfl (val_move rfl rfl) ?_
  refine Gx.val rfl rfl rfl (val_move rfl rfl) ?_
  refine Gx.val rfl rfl rfl (val_move rfl rfl) ?_
  refine Gx.val rfl rfl rfl (val_call (vs := [.int .i64 n, .int .i64 m, .int .u32 0, .bool x, .int .u64 ((li : Nat) : Int)]) rfl Tryd.fn5 rfl (fun w H => play_no (by omega))) ?_
  refine Gx.val rfl rfl rfl (val_move rfl rfl) ?_
  refine Gx.val rfl rfl rfl (val_extract rfl rfl rfl) ?_
  refine Gx.val rfl rfl rfl (val_extract rfl rfl rfl) ?_
  refine Gx.val rfl rfl rfl (val_assign rfl rfl) ?_
  refine Gx.val rfl rfl rfl (val_assign rfl rfl) ?_
  refine Gx.done ?_
  refine Gx.thenN ?_
  refine Gx.seq ?_
  refine Gx.seq ?_
  refine Gx.region ?_
  refine Gx.val rfl rfl rfl (val_move rfl rfl) ?_
  refine Gx.val rfl rfl rfl (val_lss rfl rfl rfl) ?_
  refine Gx.val rfl rfl rfl (val_move rfl rfl) ?_
  refine Gx.cases (t := 23) rfl (fun h1 => ?_) (fun h1 => ?_)
  · refine Gx.skipg rfl rfl rfl rfl rfl rfl ?_
    refine Gx.skipg rfl rfl rfl rfl rfl rfl ?_
    refine Gx.val rfl rfl rfl (val_pickT rfl rfl rfl) ?_
    refine Gx.val rfl rfl rfl (val_move rfl rfl) ?_
    refine Gx.skipg rfl rfl rfl rfl rfl rfl ?_
    refine Gx.skipg rfl rfl rfl rfl rfl rfl ?_
    refine Gx.val rfl rfl rfl (val_pickT rfl rfl rfl) ?_
    refine Gx.val rfl rfl rfl (val_move rfl rfl) ?_
    refine Gx.skipg rfl rfl rfl rfl rfl rfl ?_
    refine Gx.skipg rfl rfl rfl rfl rfl rfl ?_
    refine Gx.val rfl rfl rfl (val_pickT rfl rfl rfl) ?_
    refine Gx.done ?_
    refine Gx.thenN ?_
    refine Gx.t rfl ?_
    refine Gx.seq ?_
    refine Gx.region ?_
    refine Gx.val rfl rfl rfl (val_move rfl rfl) ?_
    refine Gx.val rfl rfl rfl (Val.cast (val_neq rfl rfl rfl) (v' := .bool true) rfl) ?_
    refine Gx.val rfl rfl rfl (val_assign rfl rfl) ?_
    refine Gx.done ?_
    refine Gx.thenN ?_
    refine Gx.ret ?_
    refine Gx.thenR ?_
    refine Gx.ret1 Tryd.results4 rfl ?_
    rfl
  · refine Gx.valg rfl rfl rfl rfl rfl (val_move rfl rfl) ?_
    refine Gx.valg rfl rfl rfl rfl rfl (val_gtr rfl rfl rfl) ?_
    refine Gx.val rfl rfl rfl (val_pickF rfl rfl rfl) ?_
    refine Gx.val rfl rfl rfl (val_move rfl rfl) ?_
    refine Gx.cases (t := 27) rfl (fun h2 => ?_) (fun h2 => ?_)
    · refine Gx.skipg rfl rfl rfl rfl rfl rfl ?_
      refine Gx.skipg rfl rfl rfl rfl rfl rfl ?_
      refine Gx.val rfl rfl rfl (val_pickT rfl rfl rfl) ?_
      refine Gx.val rfl rfl rfl (val_move rfl rfl) ?_
      refine Gx.skipg rfl rfl rfl rfl rfl rfl ?_
      refine Gx.skipg rfl rfl rfl rfl rfl rfl ?_
      refine Gx.val rfl rfl rfl (val_pickT rfl rfl rfl) ?_
      refine Gx.done ?_
      refine Gx.thenN ?_
      refine Gx.t rfl ?_
      refine Gx.seq ?_
      refine Gx.region ?_
      refine Gx.val rfl rfl rfl (val_move rfl rfl) ?_
      refine Gx.val rfl rfl rfl (Val.cast (val_neq rfl rfl rfl) (v' := .bool true) rfl) ?_
      refine Gx.val rfl rfl rfl (val_assign rfl rfl) ?_
      refine Gx.done ?_
      refine Gx.thenN ?_
      refine Gx.ret ?_
      refine Gx.thenR ?_
      refine Gx.ret1 Tryd.results4 rfl ?_
      rfl
    · refine Gx.valg rfl rfl rfl rfl rfl (val_move rfl rfl) ?_
      refine Gx.valg rfl rfl rfl rfl rfl (val_lss rfl rfl rfl) ?_
      refine Gx.val rfl rfl rfl (val_pickF rfl rfl rfl) ?_
      refine Gx.val rfl rfl rfl (val_move rfl rfl) ?_
      refine Gx.cases (t := 31) rfl (fun h3 => ?_) (fun h3 => ?_)
      · refine Gx.skipg rfl rfl rfl rfl rfl rfl ?_
        refine Gx.skipg rfl rfl rfl rfl rfl rfl ?_
        refine Gx.val rfl rfl rfl (val_pickT rfl rfl rfl) ?_
        refine Gx.done ?_
        refine Gx.thenN ?_
        refine Gx.t rfl ?_
        refine Gx.seq ?_
        refine Gx.region ?_
        refine Gx.val rfl rfl rfl (val_move rfl rfl) ?_
        refine Gx.val rfl rfl rfl (Val.cast (val_neq rfl rfl rfl) (v' := .bool true) rfl) ?_
        refine Gx.val rfl rfl rfl (val_assign rfl rfl) ?_
        refine Gx.done ?_
        refine Gx.thenN ?_
        refine Gx.ret ?_
        refine Gx.thenR ?_
        refine Gx.ret1 Tryd.results4 rfl ?_
        rfl
      · refine Gx.valg rfl rfl rfl rfl rfl (val_move rfl rfl) ?_
        refine Gx.valg rfl rfl rfl rfl rfl (val_gtr rfl rfl rfl) ?_
        refine Gx.val rfl rfl rfl (val_pickF rfl rfl rfl) ?_
        refine Gx.done ?_
        refine Gx.thenN ?_
        refine Gx.dec rfl (fun h4 => ?_) (fun h4 => ?_)
        · refine Gx.seq ?_
          refine Gx.region ?_
          refine Gx.val rfl rfl rfl (val_move rfl rfl) ?_
          refine Gx.val rfl rfl rfl (Val.cast (val_neq rfl rfl rfl) (v' := .bool true) rfl) ?_
          refine Gx.val rfl rfl rfl (val_assign rfl rfl) ?_
          refine Gx.done ?_
          refine Gx.thenN ?_
          refine Gx.ret ?_
          refine Gx.thenR ?_
          refine Gx.ret1 Tryd.results4 rfl ?_
          rfl
        · exfalso; omega

theorem true_yes {W : World} {n m li : Nat} {x : Bool} (hT : HT W) (h2n : 2 ≤ n) (h7n : n ≤ 7) (h2m : m ≤ 2) (hli : li < 18446744073709551616) :
    Calls Tryd.prog 4 #[.int .i64 ((n : Nat) : Int), .int .i64 ((m : Nat) : Int), .bool x, .int .u64 ((li : Nat) : Int)] W fun e w' => e = .returned (.bool true) ∧ Below W.heap.size W w' := by
  refine calls_pure (Gx.enter (l := []) Tryd.func4 rfl Tryd.ntmps4 rfl (Sat.start W) ?_)
  refine Gx.know (m' := [(0, .int .i64 ((n : Nat) : Int)), (1, .int .i64 ((m : Nat) : Int)), (2, .bool x), (3, .int .u64 ((li : Nat) : Int))]) (.cons rfl (.cons rfl (.cons rfl (.cons rfl .nil)))) ?_
  refine Gx.seq ?_
  refine Gx.region ?_
  refine Gx.val rfl rfl rfl (val_assign rfl rfl) ?_
  refine Gx.done ?_
  refine Gx.thenN ?_
  refine Gx.seq ?_
  refine Gx.region ?_
  refine Gx.val rfl rfl rfl (val_move rfl rfl) ?_
  refine Gx.val rfl rfl rfl (val_move rfl rfl) ?_
  refine Gx.val rfl rfl rfl (val_move rfl rfl) ?_
  refine Gx.val rfl rfl rfl (val_move rfl rfl) ?_
  refine Gx.callB rfl rfl rfl (vs := [.int .i64 ((n : Nat) : Int), .int .i64 ((m : Nat) : Int), .int .u32 0, .bool x, .int .u64 ((li : Nat) : Int)]) rfl Tryd.fn5 rfl (R := fun v w' => ∃ lv, v = .tuple #[lv, .int .i64 0] ∧ SlS FB 1 w' lv (heldL (sprd ⟨0, li⟩ m [0] (2 ^ n - 2) x) n)) (fun w H => play_ok (hT.below H.below) h2n h7n h2m (by decide) hli (by simp)) ?_
  rintro _ W2 ⟨lv1, rfl, hlv1⟩ H3
  have hW4 := H3.below
  have hlllv1 := heldL_len (sprd ⟨0, li⟩ m [0] (2 ^ n - 2) x) n
  refine Gx.val rfl rfl rfl (val_move rfl rfl) ?_
  refine Gx.val rfl rfl rfl (val_extract rfl rfl rfl) ?_
  refine Gx.val rfl rfl rfl (val_extract rfl rfl rfl) ?_
  refine Gx.val rfl rfl rfl (val_assign rfl rfl) ?_
  refine Gx.val rfl rfl rfl (val_assign rfl rfl) ?_
  refine Gx.done ?_
  refine Gx.thenN ?_
  refine Gx.seq ?_
  refine Gx.seq ?_
  refine Gx.region ?_
  refine Gx.val rfl rfl rfl (val_move rfl rfl) ?_
  refine Gx.val rfl rfl rfl (val_lss rfl rfl rfl) ?_
  refine Gx.val rfl rfl rfl (val_move rfl rfl) ?_
  refine Gx.slot (t := 23) (v := .bool false) (look_decF rfl (by omega)) ?_
  refine Gx.valg rfl rfl rfl rfl rfl (val_move rfl rfl) ?_
  refine Gx.valg rfl rfl rfl rfl rfl (val_gtr rfl rfl rfl) ?_
  refine Gx.val rfl rfl rfl (val_pickF rfl rfl rfl) ?_
  refine Gx.val rfl rfl rfl (val_move rfl rfl) ?_
  refine Gx.slot (t := 27) (v := .bool false) (look_decF rfl (by omega)) ?_
  refine Gx.valg rfl rfl rfl rfl rfl (val_move rfl rfl) ?_
  refine Gx.valg rfl rfl rfl rfl rfl (val_lss rfl rfl rfl) ?_
  refine Gx.val rfl rfl rfl (val_pickF rfl rfl rfl) ?_
  refine Gx.val rfl rfl rfl (val_move rfl rfl) ?_
  refine Gx.slot (t := 31) (v := .bool false) (look_decF rfl (by omega)) ?_
  refine Gx.valg rfl rfl rfl rfl rfl (val_move rfl rfl) ?_
  refine Gx.valg rfl rfl rfl rfl rfl (val_gtr rfl rfl rfl) ?_
  refine Gx.val rfl rfl rfl (val_pickF rfl rfl rfl) ?_
  refine Gx.done ?_
  refine Gx.thenN ?_
  refine Gx.decF rfl (by omega) ?_
  refine Gx.skip ?_
  refine Gx.thenN ?_
  refine Gx.seq ?_
  refine Gx.seq ?_
  refine Gx.region ?_
  refine Gx.val rfl rfl rfl (val_move rfl rfl) ?_
  refine Gx.val rfl rfl rfl (Val.cast (val_neq rfl rfl rfl) (v' := .bool false) rfl) ?_
  refine Gx.val rfl rfl rfl (val_move rfl rfl) ?_
  refine Gx.valg rfl rfl rfl rfl rfl (val_move rfl rfl) ?_
  refine Gx.valg rfl rfl rfl rfl rfl (val_len rfl Tryd.underlying24 rfl (len_base hlv1)) ?_
  refine Gx.valg rfl rfl rfl rfl rfl (val_move rfl rfl) ?_
  refine Gx.valg rfl rfl rfl rfl rfl (val_sub rfl rfl rfl (r := ((n - 1 : Nat) : Int)) (w64 (by omega) (by omega))) ?_
  refine Gx.valg rfl rfl rfl rfl rfl (val_neq rfl rfl rfl) ?_
  refine Gx.val rfl rfl rfl (val_pickF rfl rfl rfl) ?_
  refine Gx.done ?_
  refine Gx.thenN ?_
  refine Gx.decF rfl (by omega) ?_
  refine Gx.skip ?_
  refine Gx.thenN ?_
  refine Gx.seq ?_
  refine Gx.seq ?_
  refine Gx.region ?_
  refine Gx.val rfl rfl rfl (val_move rfl rfl) ?_
  refine Gx.val rfl rfl rfl (val_len rfl Tryd.underlying24 rfl (len_base hlv1)) ?_
  refine Gx.val rfl rfl rfl (val_move rfl rfl) ?_
  refine Gx.done ?_
  refine Gx.thenN ?_
  refine Gx.block ?_
  refine Gx.loop (ι := Nat) (fun ξ => (ξ ≤ (heldL (sprd ⟨0, li⟩ m [0] (2 ^ n - 2) x) n).length)) (fun ξ => [(2, .bool x), (46, lv1), (47, .int .i64 (((heldL (sprd ⟨0, li⟩ m [0] (2 ^ n - 2) x) n).length : Nat) : Int)), (48, .int .i64 ((ξ : Nat) : Int))]) (fun ξ => []) (fun ξ => (heldL (sprd ⟨0, li⟩ m [0] (2 ^ n - 2) x) n).length - ξ) 0 (by first | omega | (dsimp only; omega)) ((.cons rfl (.cons rfl (.cons rfl (.cons rfl .nil))))) rfl ?_
  rintro k hk
  refine Gx.know (m' := [(2, .bool x), (46, lv1), (47, .int .i64 (((heldL (sprd ⟨0, li⟩ m [0] (2 ^ n - 2) x) n).length : Nat) : Int)), (48, .int .i64 ((k : Nat) : Int))]) (.cons rfl (.cons rfl (.cons rfl (.cons rfl .nil)))) (Gx.norm (l' := []) rfl ?_)
  refine Gx.seq ?_
  refine Gx.region ?_
  refine Gx.val rfl rfl rfl (val_lss rfl rfl rfl) ?_
  refine Gx.done ?_
  refine Gx.thenN ?_
  refine Gx.seq ?_
  refine Gx.dec rfl (fun h5 => ?_) (fun h5 => ?_)
  · refine Gx.skip ?_
    refine Gx.thenN ?_
    refine Gx.seq ?_
    refine Gx.block ?_
    refine Gx.seq ?_
    refine Gx.region ?_
    obtain ⟨x6, hx6⟩ := get_of_lt (xs := (heldL (sprd ⟨0, li⟩ m [0] (2 ^ n - 2) x) n)) (k := k) (by omega)
    refine Gx.val rfl rfl rfl (val_ixa rfl Tryd.underlying24 Tryd.ty4 rfl rfl (j := k) (rfl) (reach_base hlv1 hx6)) ?_
    refine Gx.val rfl rfl rfl (val_load rfl Tryd.ty4 rfl rfl (cell_base (i := 0) hlv1 hx6 rfl)) ?_
    refine Gx.val rfl rfl rfl (val_assign rfl rfl) ?_
    refine Gx.done ?_
    refine Gx.thenN ?_
    refine Gx.seq ?_
    refine Gx.region ?_
    refine Gx.val rfl rfl rfl (val_move rfl rfl) ?_
    refine Gx.val rfl rfl rfl (val_move rfl rfl) ?_
    refine Gx.val rfl rfl rfl (val_neqB Tryd.underlying4 rfl rfl rfl) ?_
    refine Gx.done ?_
    refine Gx.thenN ?_
    refine Gx.bool rfl (fun h7 => ?_) (fun h7 => ?_)
    · refine Gx.seq ?_
      refine Gx.region ?_
      refine Gx.val rfl rfl rfl (val_assign rfl rfl) ?_
      refine Gx.done ?_
      refine Gx.thenN ?_
      refine Gx.ret ?_
      refine Gx.blkR ?_
      refine Gx.thenR ?_
      refine Gx.thenR ?_
      refine Gx.blkR ?_
      refine Gx.thenR ?_
      exfalso
      have e := held_true h7n x6 (List.mem_of_getElem? hx6)
      simp_all
    · refine Gx.skip ?_
      refine Gx.blkN ?_
      refine Gx.thenN ?_
      refine Gx.region ?_
      refine Gx.val rfl rfl rfl (val_add rfl rfl rfl (r := ((k + 1 : Nat) : Int)) (w64 (by omega) (by omega))) ?_
      refine Gx.val rfl rfl rfl (val_move rfl rfl) ?_
      refine Gx.done ?_
      refine Gx.thenN ?_
      exact Gx.round (k + 1) (by first | omega | (dsimp only; omega)) (by first | omega | (dsimp only; omega)) ((.cons rfl (.cons rfl (.cons rfl (.cons rfl .nil))))) rfl
  · refine Gx.exit ?_
    refine Gx.thenE ?_
    refine Gx.thenE ?_
    refine Gx.blkE ?_
    refine Gx.thenN ?_
    refine Gx.seq ?_
    refine Gx.region ?_
    refine Gx.val rfl rfl rfl (val_assign rfl rfl) ?_
    refine Gx.done ?_
    refine Gx.thenN ?_
    refine Gx.ret ?_
    refine Gx.ret1B hW4 Tryd.results4 rfl ?_
    rfl

theorem true_any {W : World} {n m : Int} {z : Int} {x : Bool} (hT : HT W) (h0 : 0 ≤ z) (h1 : z ≤ 18446744073709551615) :
    Calls Tryd.prog 4 #[.int .i64 n, .int .i64 m, .bool x, .int .u64 z] W fun e w' => e = .returned (.bool true) ∧ Below W.heap.size W w' := by
  obtain ⟨li, rfl⟩ := Int.eq_ofNat_of_zero_le h0
  by_cases h : n < 2 ∨ 7 < n ∨ m < 0 ∨ 2 < m
  · exact true_no h
  · obtain ⟨a, rfl⟩ : ∃ a : Nat, n = (a : Int) := ⟨n.toNat, by omega⟩
    obtain ⟨b, rfl⟩ : ∃ b : Nat, m = (b : Int) := ⟨m.toNat, by omega⟩
    exact true_yes hT (by omega) (by omega) (by omega) (by omega)
end Go.Proofs.YtcblkjjkpffjhaaDoor
