/- Behind two reaches of all copies all is done. The walk. No condition. -/
import Derived.Test.YtjiefamdpbnngaaA7
import Derived.Test.YtjiefamdpbnngaaM3
namespace Go.Proofs.Ytjiefamdpbnngaa
open Go.RowKit
set_option linter.unusedVariables false
set_option linter.unusedSimpArgs false
set_option maxRecDepth 100000

theorem FC_one (p : Cl) (u : Value) (h : u ∈ FC p) : u.oneCell' = true := by simp [FC] at h; rcases h with rfl | rfl | rfl | rfl | rfl | rfl <;> rfl
theorem Try.eC : Elem Try.prog 22 24 (.agg #[.int .i64 0, .int .i64 0, .int .i64 0, .int .i64 0, .bool false, .int .i64 0]) 6 48 := ⟨Try.underlying22, by kernel_rfl, rfl, by decide⟩
def G0 (n : Nat) (cs : List Cl) (t : Nat) : List Cl := cs ++ (List.replicate t (turnL n)).flatten
def C0 (n c : Nat) : List Cl := (List.range c).flatMap fun c => (List.range n).map (rc c)
def A0 (c a : Nat) : List Cl := (List.range a).map (rc c)
theorem G0_zero (n : Nat) (cs : List Cl) : G0 n cs 0 = cs := by simp [G0]
theorem C0_zero (n : Nat) : C0 n 0 = [] := rfl
theorem A0_zero (c : Nat) : A0 c 0 = [] := rfl
theorem A0_succ (c a : Nat) : A0 c (a + 1) = A0 c a ++ [rc c a] := by simp [A0, List.range_succ]
theorem C0_succ (n c : Nat) : C0 n (c + 1) = C0 n c ++ A0 c n := by simp [C0, A0, List.range_succ]
theorem G0_succ (n : Nat) (cs : List Cl) (t : Nat) : G0 n cs (t + 1) = G0 n cs t ++ C0 n 4 := by
  unfold G0; rw [List.replicate_succ', List.flatten_append, List.append_assoc]; simp [turnL, C0]
theorem G0_two (n : Nat) (cs : List Cl) : G0 n cs 2 = endL n cs := by simp [G0, endL, List.replicate]
theorem A0_len (c a : Nat) : (A0 c a).length = a := by simp [A0]
theorem C0_len (n : Nat) : ∀ c, (C0 n c).length = c * n
  | 0 => by simp [C0_zero]
  | c + 1 => by rw [C0_succ, List.length_append, C0_len n c, A0_len, Nat.succ_mul]
theorem G0_len (n : Nat) (cs : List Cl) : ∀ t, (G0 n cs t).length = cs.length + t * (4 * n)
  | 0 => by simp [G0_zero]
  | t + 1 => by rw [G0_succ, List.length_append, G0_len n cs t, C0_len, Nat.add_assoc, ← Nat.succ_mul]
theorem all_le {n t c a : Nat} {cs : List Cl} (ht : t ≤ 1) (hc : c ≤ 3) (ha : a ≤ n) : (G0 n cs t ++ C0 n c ++ A0 c a).length ≤ cs.length + 8 * n := by
  rw [List.length_append, List.length_append, G0_len, C0_len, A0_len]
  have h1 := Nat.mul_le_mul_right (4 * n) ht
  have h2 := Nat.mul_le_mul_right n hc
  omega
theorem endL_len (n : Nat) (cs : List Cl) : (endL n cs).length = cs.length + 8 * n := by unfold endL; simp [turnL_len]; omega
theorem goes_no {W : World} {n : Int} {sv : Value} {cs : List Cl} (hs : SlS FC 6 W sv cs) (hbad : n < 1 ∨ 5 < n ∨ 120 < (cs.length : Int) + 8 * n) :
    Calls Try.prog 3 #[.int .i64 n, sv] W fun e w' => e = .returned (.bool true) ∧ Below W.heap.size W w' := by
  have hm := sls_bd hs
  refine calls_pure (Gx.enter (l := []) Try.func3 rfl Try.ntmps3 rfl (Sat.start W) ?_)
  refine Gx.know (m' := [(0, .int .i64 n), (1, sv)]) (.cons rfl (.cons rfl .nil)) ?_
  refine Gx.seq ?_
  refine Gx.region ?_
  refine Gx.val rfl rfl rfl (val_assign rfl rfl) ?_
  refine Gx.done ?_
  refine Gx.thenN ?_
  refine Gx.seq ?_
  refine Gx.seq ?_
  refine Gx.region ?_
  refine Gx.val rfl rfl rfl (val_move rfl rfl) ?_
  refine Gx.val rfl rfl rfl (val_lss rfl rfl rfl) ?_
  refine Gx.val rfl rfl rfl (val_move rfl rfl) ?_
  refine Gx.cases (t := 15) rfl (fun h1 => ?_) (fun h1 => ?_)
  · refine Gx.skipg rfl rfl rfl rfl rfl rfl ?_
    refine Gx.skipg rfl rfl rfl rfl rfl rfl ?_
    refine Gx.val rfl rfl rfl (val_pickT rfl rfl rfl) ?_
    refine Gx.val rfl rfl rfl (val_move rfl rfl) ?_
    refine Gx.skipg rfl rfl rfl rfl rfl rfl ?_
    refine Gx.skipg rfl rfl rfl rfl rfl rfl ?_
    refine Gx.skipg rfl rfl rfl rfl rfl rfl ?_
    refine Gx.skipg rfl rfl rfl rfl rfl rfl ?_
    refine Gx.skipg rfl rfl rfl rfl rfl rfl ?_
    refine Gx.skipg rfl rfl rfl rfl rfl rfl ?_
    refine Gx.skipg rfl rfl rfl rfl rfl rfl ?_
    refine Gx.val rfl rfl rfl (val_pickT rfl rfl rfl) ?_
    refine Gx.done ?_
    refine Gx.thenN ?_
    refine Gx.t rfl ?_
    refine Gx.seq ?_
    refine Gx.region ?_
    refine Gx.val rfl rfl rfl (val_assign rfl rfl) ?_
    refine Gx.done ?_
    refine Gx.thenN ?_
    refine Gx.ret ?_
    refine Gx.thenR ?_
    refine Gx.ret1 Try.results3 rfl ?_
    rfl
  · refine Gx.valg rfl rfl rfl rfl rfl (val_move rfl rfl) ?_
    refine Gx.valg rfl rfl rfl rfl rfl (val_gtr rfl rfl rfl) ?_
    refine Gx.val rfl rfl rfl (val_pickF rfl rfl rfl) ?_
    refine Gx.val rfl rfl rfl (val_move rfl rfl) ?_
    refine Gx.cases (t := 19) rfl (fun h2 => ?_) (fun h2 => ?_)
    · refine Gx.skipg rfl rfl rfl rfl rfl rfl ?_
      refine Gx.skipg rfl rfl rfl rfl rfl rfl ?_
      refine Gx.skipg rfl rfl rfl rfl rfl rfl ?_
      refine Gx.skipg rfl rfl rfl rfl rfl rfl ?_
      refine Gx.skipg rfl rfl rfl rfl rfl rfl ?_
      refine Gx.skipg rfl rfl rfl rfl rfl rfl ?_
      refine Gx.skipg rfl rfl rfl rfl rfl rfl ?_
      refine Gx.val rfl rfl rfl (val_pickT rfl rfl rfl) ?_
      refine Gx.done ?_
      refine Gx.thenN ?_
      refine Gx.t rfl ?_
      refine Gx.seq ?_
      refine Gx.region ?_
      refine Gx.val rfl rfl rfl (val_assign rfl rfl) ?_
      refine Gx.done ?_
      refine Gx.thenN ?_
      refine Gx.ret ?_
      refine Gx.thenR ?_
      refine Gx.ret1 Try.results3 rfl ?_
      rfl
    · refine Gx.valg rfl rfl rfl rfl rfl (val_move rfl rfl) ?_
      refine Gx.valg rfl rfl rfl rfl rfl (val_len rfl Try.underlying22 rfl (len_base hs)) ?_
      refine Gx.valg rfl rfl rfl rfl rfl (val_move rfl rfl) ?_
      refine Gx.valg rfl rfl rfl rfl rfl (val_mul rfl rfl rfl (r := (2 * n)) (w64 rfl (by omega))) ?_
      refine Gx.valg rfl rfl rfl rfl rfl (val_mul rfl rfl rfl (r := ((2 * n) * 4)) (w64 rfl (by omega))) ?_
      refine Gx.valg rfl rfl rfl rfl rfl (val_add rfl rfl rfl (r := (((cs.length : Nat) : Int) + ((2 * n) * 4))) (w64 rfl (by omega))) ?_
      refine Gx.valg rfl rfl rfl rfl rfl (val_gtr rfl rfl rfl) ?_
      refine Gx.val rfl rfl rfl (val_pickF rfl rfl rfl) ?_
      refine Gx.done ?_
      refine Gx.thenN ?_
      refine Gx.dec rfl (fun h3 => ?_) (fun h3 => ?_)
      · refine Gx.seq ?_
        refine Gx.region ?_
        refine Gx.val rfl rfl rfl (val_assign rfl rfl) ?_
        refine Gx.done ?_
        refine Gx.thenN ?_
        refine Gx.ret ?_
        refine Gx.thenR ?_
        refine Gx.ret1 Try.results3 rfl ?_
        rfl
      · exfalso; omega

theorem goes_yes {W : World} {n : Nat} {sv : Value} {cs : List Cl} (h1n : 1 ≤ n) (h5n : n ≤ 5) (hcl : cs.length + 8 * n ≤ 120) (hs : SlS FC 6 W sv cs) :
    Calls Try.prog 3 #[.int .i64 ((n : Nat) : Int), sv] W fun e w' => e = .returned (.bool true) ∧ Below W.heap.size W w' := by
  have hel := endL_len n cs
  have hgo := goes h1n cs
  have hcn := ((InvR.zero n).run h1n (endL n cs)).cnt
  refine calls_pure (Gx.enter (l := []) Try.func3 rfl Try.ntmps3 rfl (Sat.start W) ?_)
  refine Gx.know (m' := [(0, .int .i64 ((n : Nat) : Int)), (1, sv)]) (.cons rfl (.cons rfl .nil)) ?_
  refine Gx.seq ?_
  refine Gx.region ?_
  refine Gx.val rfl rfl rfl (val_assign rfl rfl) ?_
  refine Gx.done ?_
  refine Gx.thenN ?_
  refine Gx.seq ?_
  refine Gx.seq ?_
  refine Gx.region ?_
  refine Gx.val rfl rfl rfl (val_move rfl rfl) ?_
  refine Gx.val rfl rfl rfl (val_lss rfl rfl rfl) ?_
  refine Gx.val rfl rfl rfl (val_move rfl rfl) ?_
  refine Gx.slot (t := 15) (v := .bool false) (look_decF rfl (by omega)) ?_
  refine Gx.valg rfl rfl rfl rfl rfl (val_move rfl rfl) ?_
  refine Gx.valg rfl rfl rfl rfl rfl (val_gtr rfl rfl rfl) ?_
  refine Gx.val rfl rfl rfl (val_pickF rfl rfl rfl) ?_
  refine Gx.val rfl rfl rfl (val_move rfl rfl) ?_
  refine Gx.slot (t := 19) (v := .bool false) (look_decF rfl (by omega)) ?_
  refine Gx.valg rfl rfl rfl rfl rfl (val_move rfl rfl) ?_
  refine Gx.valg rfl rfl rfl rfl rfl (val_len rfl Try.underlying22 rfl (len_base hs)) ?_
  refine Gx.valg rfl rfl rfl rfl rfl (val_move rfl rfl) ?_
  refine Gx.valg rfl rfl rfl rfl rfl (val_mul rfl rfl rfl (r := ((2 * n : Nat) : Int)) (w64 (by omega) (by omega))) ?_
  refine Gx.valg rfl rfl rfl rfl rfl (val_mul rfl rfl rfl (r := (((2 * n) * 4 : Nat) : Int)) (w64 (by omega) (by omega))) ?_
  refine Gx.valg rfl rfl rfl rfl rfl (val_add rfl rfl rfl (r := ((cs.length + ((2 * n) * 4) : Nat) : Int)) (w64 (by omega) (by omega))) ?_
  refine Gx.valg rfl rfl rfl rfl rfl (val_gtr rfl rfl rfl) ?_
  refine Gx.val rfl rfl rfl (val_pickF rfl rfl rfl) ?_
  refine Gx.done ?_
  refine Gx.thenN ?_
  refine Gx.decF rfl (by omega) ?_
  refine Gx.skip ?_
  refine Gx.thenN ?_
  refine Gx.seq ?_
  refine Gx.region ?_
  refine Gx.eff rfl rfl rfl (eff_buildNil (f := FC) (sz := 6) (e := 24) rfl Try.underlying22 (fun w => by first | (go_simp; done) | (go_simp; rfl))) ?_
  rintro v1 _ ⟨hiv1, rfl⟩
  refine Gx.val rfl rfl rfl (val_move rfl rfl) ?_
  refine Gx.eff rfl rfl rfl (eff_pushAll (k := 0) (ys := cs) rfl Try.eC FC_len FC_one rfl rfl (fun w H => hs.below H.below) rfl (by simp; omega) (by simp; omega)) ?_
  rintro v2 _ ⟨hiv2, rfl⟩
  refine Gx.norm (l' := [Hp.own FC 6 v2 cs]) rfl ?_
  refine Gx.val rfl rfl rfl (val_assign rfl rfl) ?_
  refine Gx.done ?_
  refine Gx.thenN ?_
  refine Gx.seq ?_
  refine Gx.seq ?_
  refine Gx.norm (l' := [Hp.own FC 6 v2 (G0 n cs 0)]) (by rw [G0_zero] <;> rfl) ?_
  refine Gx.region ?_
  refine Gx.val rfl rfl rfl (val_assign rfl rfl) ?_
  refine Gx.done ?_
  refine Gx.thenN ?_
  refine Gx.block ?_
  refine Gx.loop (ι := Nat × Value) (fun ξ => (ξ.1 ≤ 2) ∧ (IsS ξ.2)) (fun ξ => [(0, .int .i64 ((n : Nat) : Int)), (5, ξ.2), (6, .int .i64 ((ξ.1 : Nat) : Int))]) (fun ξ => [Hp.own FC 6 ξ.2 (G0 n cs ξ.1)]) (fun ξ => 2 - ξ.1) (0, v2) ⟨by first | omega | (dsimp only; omega), hiv2⟩ ((.cons rfl (.cons rfl (.cons rfl .nil)))) rfl ?_
  rintro ⟨t, vv⟩ ⟨ht, hiv⟩
  dsimp only at ht hiv
  refine Gx.know (m' := [(0, .int .i64 ((n : Nat) : Int)), (5, vv), (6, .int .i64 ((t : Nat) : Int))]) (.cons rfl (.cons rfl (.cons rfl .nil))) (Gx.norm (l' := [Hp.own FC 6 vv (G0 n cs t)]) rfl ?_)
  refine Gx.seq ?_
  refine Gx.seq ?_
  refine Gx.region ?_
  refine Gx.val rfl rfl rfl (val_move rfl rfl) ?_
  refine Gx.val rfl rfl rfl (val_lss rfl rfl rfl) ?_
  refine Gx.done ?_
  refine Gx.thenN ?_
  refine Gx.dec rfl (fun h3 => ?_) (fun h3 => ?_)
  · refine Gx.skip ?_
    refine Gx.thenN ?_
    refine Gx.seq ?_
    refine Gx.block ?_
    refine Gx.seq ?_
    refine Gx.norm (l' := [Hp.own FC 6 vv (G0 n cs t ++ C0 n 0)]) (by rw [C0_zero, List.append_nil] <;> rfl) ?_
    refine Gx.region ?_
    refine Gx.val rfl rfl rfl (val_assign rfl rfl) ?_
    refine Gx.done ?_
    refine Gx.thenN ?_
    refine Gx.block ?_
    refine Gx.loop (ι := Nat × Value) (fun ξ => (ξ.1 ≤ 4) ∧ (IsS ξ.2)) (fun ξ => [(0, .int .i64 ((n : Nat) : Int)), (5, ξ.2), (6, .int .i64 ((t : Nat) : Int)), (7, .int .i64 ((ξ.1 : Nat) : Int))]) (fun ξ => [Hp.own FC 6 ξ.2 (G0 n cs t ++ C0 n ξ.1)]) (fun ξ => 4 - ξ.1) (0, vv) ⟨by first | omega | (dsimp only; omega), hiv⟩ ((.cons rfl (.cons rfl (.cons rfl (.cons rfl .nil))))) rfl ?_
    rintro ⟨c, vw⟩ ⟨hc, hiw⟩
    dsimp only at hc hiw
    refine Gx.know (m' := [(0, .int .i64 ((n : Nat) : Int)), (5, vw), (6, .int .i64 ((t : Nat) : Int)), (7, .int .i64 ((c : Nat) : Int))]) (.cons rfl (.cons rfl (.cons rfl (.cons rfl .nil)))) (Gx.norm (l' := [Hp.own FC 6 vw (G0 n cs t ++ C0 n c)]) rfl ?_)
    refine Gx.seq ?_
    refine Gx.seq ?_
    refine Gx.region ?_
    refine Gx.val rfl rfl rfl (val_move rfl rfl) ?_
    refine Gx.val rfl rfl rfl (val_lss rfl rfl rfl) ?_
    refine Gx.done ?_
    refine Gx.thenN ?_
    refine Gx.dec rfl (fun h4 => ?_) (fun h4 => ?_)
    · refine Gx.skip ?_
      refine Gx.thenN ?_
      refine Gx.seq ?_
      refine Gx.block ?_
      refine Gx.seq ?_
      refine Gx.norm (l' := [Hp.own FC 6 vw (G0 n cs t ++ C0 n c ++ A0 c 0)]) (by rw [A0_zero, List.append_nil] <;> rfl) ?_
      refine Gx.region ?_
      refine Gx.val rfl rfl rfl (val_assign rfl rfl) ?_
      refine Gx.done ?_
      refine Gx.thenN ?_
      refine Gx.block ?_
      refine Gx.loop (ι := Nat × Value) (fun ξ => (ξ.1 ≤ n) ∧ (IsS ξ.2)) (fun ξ => [(0, .int .i64 ((n : Nat) : Int)), (5, ξ.2), (6, .int .i64 ((t : Nat) : Int)), (7, .int .i64 ((c : Nat) : Int)), (8, .int .i64 ((ξ.1 : Nat) : Int))]) (fun ξ => [Hp.own FC 6 ξ.2 (G0 n cs t ++ C0 n c ++ A0 c ξ.1)]) (fun ξ => n - ξ.1) (0, vw) ⟨by first | omega | (dsimp only; omega), hiw⟩ ((.cons rfl (.cons rfl (.cons rfl (.cons rfl (.cons rfl .nil)))))) rfl ?_
      rintro ⟨a, vx⟩ ⟨ha, hix⟩
      dsimp only at ha hix
      refine Gx.know (m' := [(0, .int .i64 ((n : Nat) : Int)), (5, vx), (6, .int .i64 ((t : Nat) : Int)), (7, .int .i64 ((c : Nat) : Int)), (8, .int .i64 ((a : Nat) : Int))]) (.cons rfl (.cons rfl (.cons rfl (.cons rfl (.cons rfl .nil))))) (Gx.norm (l' := [Hp.own FC 6 vx (G0 n cs t ++ C0 n c ++ A0 c a)]) rfl ?_)
      refine Gx.seq ?_
      refine Gx.seq ?_
      refine Gx.region ?_
      refine Gx.val rfl rfl rfl (val_move rfl rfl) ?_
      refine Gx.val rfl rfl rfl (val_move rfl rfl) ?_
      refine Gx.val rfl rfl rfl (val_lss rfl rfl rfl) ?_
      refine Gx.done ?_
      refine Gx.thenN ?_
      refine Gx.dec rfl (fun h5 => ?_) (fun h5 => ?_)
      · refine Gx.skip ?_
        refine Gx.thenN ?_
        refine Gx.seq ?_
        refine Gx.block ?_
        refine Gx.region ?_
        refine Gx.val rfl rfl rfl (val_move rfl rfl) ?_
        refine Gx.val rfl rfl rfl (val_move rfl rfl) ?_
        refine Gx.val rfl rfl rfl (val_move rfl rfl) ?_
        refine Gx.val rfl rfl rfl (val_build rfl (qs := [(0, .int .i64 2), (1, .int .i64 ((c : Nat) : Int)), (2, .int .i64 ((a : Nat) : Int))]) rfl rfl (fun w => by go_simp) (v := .agg #[.int .i64 2, .int .i64 ((c : Nat) : Int), .int .i64 ((a : Nat) : Int), .int .i64 0, .bool false, .int .i64 0])) ?_
        refine Gx.eff rfl rfl rfl (eff_buildSlice rfl (qs := [(0, .agg #[.int .i64 2, .int .i64 ((c : Nat) : Int), .int .i64 ((a : Nat) : Int), .int .i64 0, .bool false, .int .i64 0])]) rfl rfl (cs := #[.int .i64 2, .int .i64 ((c : Nat) : Int), .int .i64 ((a : Nat) : Int), .int .i64 0, .bool false, .int .i64 0]) (vs := [.int .i64 2, .int .i64 ((c : Nat) : Int), .int .i64 ((a : Nat) : Int), .int .i64 0, .bool false, .int .i64 0]) (E := 24) rfl (fun w => by first | (go_simp; done) | (go_simp; rfl))) ?_
        rintro _ _ ⟨b6, rfl, rfl⟩
        refine Gx.eff rfl rfl rfl (eff_push (r := (rc c a)) rfl Try.eC FC_len FC_one rfl rfl (k := 0) rfl rfl (k' := 0) rfl (by have := all_le (cs := cs) (n := n) (t := t) (c := c) (a := a) (by omega) (by omega) ha; omega) (by have := all_le (cs := cs) (n := n) (t := t) (c := c) (a := a) (by omega) (by omega) ha; omega)) ?_
        rintro v7 _ ⟨hiv7, rfl⟩
        refine Gx.norm (l' := [Hp.own FC 6 v7 ((G0 n cs t ++ C0 n c ++ A0 c a) ++ [(rc c a)])]) rfl ?_
        refine Gx.val rfl rfl rfl (val_assign rfl rfl) ?_
        refine Gx.done ?_
        refine Gx.blkN ?_
        refine Gx.thenN ?_
        refine Gx.region ?_
        refine Gx.val rfl rfl rfl (val_move rfl rfl) ?_
        refine Gx.val rfl rfl rfl (val_add rfl rfl rfl (r := ((a + 1 : Nat) : Int)) (w64 (by omega) (by omega))) ?_
        refine Gx.val rfl rfl rfl (val_assign rfl rfl) ?_
        refine Gx.done ?_
        refine Gx.thenN ?_
        refine Gx.norm (l' := [Hp.own FC 6 v7 (G0 n cs t ++ C0 n c ++ A0 c (a + 1))]) (by rw [A0_succ, ← List.append_assoc] <;> rfl) ?_
        exact Gx.round (a + 1, v7) ⟨by first | omega | (dsimp only; omega), hiv7⟩ (by first | omega | (dsimp only; omega)) ((.cons rfl (.cons rfl (.cons rfl (.cons rfl (.cons rfl .nil)))))) rfl
      · obtain rfl : n = a := by omega
        refine Gx.norm (l' := [Hp.own FC 6 vx (G0 n cs t ++ C0 n c ++ A0 c n)]) (rfl) ?_
        refine Gx.exit ?_
        refine Gx.thenE ?_
        refine Gx.thenE ?_
        refine Gx.blkE ?_
        refine Gx.blkN ?_
        refine Gx.thenN ?_
        refine Gx.region ?_
        refine Gx.val rfl rfl rfl (val_move rfl rfl) ?_
        refine Gx.val rfl rfl rfl (val_add rfl rfl rfl (r := ((c + 1 : Nat) : Int)) (w64 (by omega) (by omega))) ?_
        refine Gx.val rfl rfl rfl (val_assign rfl rfl) ?_
        refine Gx.done ?_
        refine Gx.thenN ?_
        refine Gx.norm (l' := [Hp.own FC 6 vx (G0 n cs t ++ C0 n (c + 1))]) (by rw [C0_succ, List.append_assoc] <;> rfl) ?_
        exact Gx.round (c + 1, vx) ⟨by first | omega | (dsimp only; omega), hix⟩ (by first | omega | (dsimp only; omega)) ((.cons rfl (.cons rfl (.cons rfl (.cons rfl .nil))))) rfl
    · obtain rfl : c = 4 := by omega
      refine Gx.norm (l' := [Hp.own FC 6 vw (G0 n cs t ++ C0 n 4)]) (rfl) ?_
      refine Gx.exit ?_
      refine Gx.thenE ?_
      refine Gx.thenE ?_
      refine Gx.blkE ?_
      refine Gx.blkN ?_
      refine Gx.thenN ?_
      refine Gx.region ?_
      refine Gx.val rfl rfl rfl (val_move rfl rfl) ?_
      refine Gx.val rfl rfl rfl (val_add rfl rfl rfl (r := ((t + 1 : Nat) : Int)) (w64 (by omega) (by omega))) ?_
      refine Gx.val rfl rfl rfl (val_assign rfl rfl) ?_
      refine Gx.done ?_
      refine Gx.thenN ?_
      refine Gx.norm (l' := [Hp.own FC 6 vw (G0 n cs (t + 1))]) (by rw [G0_succ] <;> rfl) ?_
      exact Gx.round (t + 1, vw) ⟨by first | omega | (dsimp only; omega), hiw⟩ (by first | omega | (dsimp only; omega)) ((.cons rfl (.cons rfl (.cons rfl .nil)))) rfl
  · obtain rfl : t = 2 := by omega
    refine Gx.norm (l' := [Hp.own FC 6 vv (endL n cs)]) (by rw [G0_two] <;> rfl) ?_
    refine Gx.exit ?_
    refine Gx.thenE ?_
    refine Gx.thenE ?_
    refine Gx.blkE ?_
    refine Gx.thenN ?_
    refine Gx.seq ?_
    refine Gx.region ?_
    refine Gx.val rfl rfl rfl (val_move rfl rfl) ?_
    refine Gx.val rfl rfl rfl (val_move rfl rfl) ?_
    refine Gx.callB rfl rfl rfl (vs := [.int .i64 ((n : Nat) : Int), vv]) rfl Try.fn8 rfl (R := fun v w' => ∃ cv pv, v = .tuple #[.agg #[cv, pv], .int .i64 0] ∧ SlS FZ 1 w' cv (codesR (rs0 n) 0 (endL n cs)) ∧ SlS FO 6 w' pv (stR (rs0 n) 0 (endL n cs)).ops) (fun w H => play_ok h1n h5n ((H.at_ (k := 0) rfl).sls (by omega)) (by omega)) ?_
    rintro _ W10 ⟨cv8, pv9, rfl, hcv8, hpv9⟩ H11
    have hW12 := H11.below
    have hs13 := hs.below H11.below
    have hs14 := (H11.at_ (k := 0) rfl).sls (by first | omega | (simp; omega))
    have hclcv8 : (codesR (rs0 n) 0 (endL n cs)).length = ((endL n cs)).length := codesR_len ..
    obtain ⟨a15, m16, c17, rfl⟩ := hcv8.isS
    obtain ⟨a18, m19, c20, rfl⟩ := hpv9.isS
    refine Gx.val rfl rfl rfl (val_move rfl rfl) ?_
    refine Gx.val rfl rfl rfl (val_extract rfl rfl rfl) ?_
    refine Gx.val rfl rfl rfl (val_extract rfl rfl rfl) ?_
    refine Gx.eff rfl rfl rfl (eff_alloc rfl Try.ty28 (vs := [.slice none 0 0, .slice none 0 0]) rfl) ?_
    rintro _ _ ⟨b21, rfl, rfl⟩
    refine Gx.eff0 rfl rfl (eff_store rfl Try.ty28 rfl rfl (us := [.slice a15 m16 c17, .slice a18 m19 c20]) rfl rfl rfl (k := 0) rfl (rfl) (vs' := [.slice a15 m16 c17, .slice a18 m19 c20]) (rfl) (l' := [Hp.rec_ b21 [.slice a15 m16 c17, .slice a18 m19 c20]]) rfl) ?_
    rintro _ _ rfl
    refine Gx.val rfl rfl rfl (val_assign rfl rfl) ?_
    refine Gx.done ?_
    refine Gx.thenN ?_
    refine Gx.seq ?_
    refine Gx.seq ?_
    refine Gx.region ?_
    refine Gx.val rfl rfl rfl (val_move rfl rfl) ?_
    refine Gx.val rfl rfl rfl (Val.cast (val_neq rfl rfl rfl) (v' := .bool false) rfl) ?_
    refine Gx.val rfl rfl rfl (val_move rfl rfl) ?_
    refine Gx.valg rfl rfl rfl rfl rfl (Val.cast (val_fieldAddr rfl Try.underlying28 rfl Try.ty25 rfl rfl) (v' := ptr b21 0) rfl) ?_
    refine Gx.valg rfl rfl rfl rfl rfl (val_load rfl Try.ty25 rfl rfl (cell_rec (k := 0) rfl rfl)) ?_
    refine Gx.valg rfl rfl rfl rfl rfl (val_len rfl Try.underlying25 rfl (len_base hcv8)) ?_
    refine Gx.valg rfl rfl rfl rfl rfl (val_move rfl rfl) ?_
    refine Gx.valg rfl rfl rfl rfl rfl (val_len rfl Try.underlying22 rfl (len_base hs14)) ?_
    refine Gx.valg rfl rfl rfl rfl rfl (val_neq rfl rfl rfl) ?_
    refine Gx.val rfl rfl rfl (val_pickF rfl rfl rfl) ?_
    refine Gx.done ?_
    refine Gx.thenN ?_
    refine Gx.decF rfl (by omega) ?_
    refine Gx.skip ?_
    refine Gx.thenN ?_
    refine Gx.seq ?_
    refine Gx.seq ?_
    refine Gx.region ?_
    refine Gx.val rfl rfl rfl (Val.cast (val_fieldAddr rfl Try.underlying28 rfl Try.ty26 rfl rfl) (v' := ptr b21 1) rfl) ?_
    refine Gx.val rfl rfl rfl (val_load rfl Try.ty26 rfl rfl (cell_rec (k := 0) rfl rfl)) ?_
    refine Gx.val rfl rfl rfl (val_len rfl Try.underlying26 rfl (len_base hpv9)) ?_
    refine Gx.val rfl rfl rfl (val_move rfl rfl) ?_
    refine Gx.done ?_
    refine Gx.thenN ?_
    refine Gx.block ?_
    refine Gx.drop 0 rfl ?_
    refine Gx.loop (ι := Nat) (fun ξ => (ξ ≤ (stR (rs0 n) 0 (endL n cs)).ops.length)) (fun ξ => [(67, .slice a18 m19 c20), (68, .int .i64 ((((stR (rs0 n) 0 (endL n cs)).ops).length : Nat) : Int)), (69, .int .i64 ((ξ : Nat) : Int))]) (fun ξ => []) (fun ξ => (stR (rs0 n) 0 (endL n cs)).ops.length - ξ) 0 (by first | omega | (dsimp only; omega)) ((.cons rfl (.cons rfl (.cons rfl .nil)))) rfl ?_
    rintro j hj
    refine Gx.know (m' := [(67, .slice a18 m19 c20), (68, .int .i64 ((((stR (rs0 n) 0 (endL n cs)).ops).length : Nat) : Int)), (69, .int .i64 ((j : Nat) : Int))]) (.cons rfl (.cons rfl (.cons rfl .nil))) (Gx.norm (l' := []) rfl ?_)
    refine Gx.seq ?_
    refine Gx.region ?_
    refine Gx.val rfl rfl rfl (val_lss rfl rfl rfl) ?_
    refine Gx.done ?_
    refine Gx.thenN ?_
    refine Gx.seq ?_
    refine Gx.dec rfl (fun h22 => ?_) (fun h22 => ?_)
    · refine Gx.skip ?_
      refine Gx.thenN ?_
      refine Gx.seq ?_
      refine Gx.block ?_
      refine Gx.seq ?_
      refine Gx.region ?_
      obtain ⟨x23, hx23⟩ := get_of_lt (xs := (stR (rs0 n) 0 (endL n cs)).ops) (k := j) (by first | omega | (simp; omega))
      refine Gx.val rfl rfl rfl (val_ixa rfl Try.underlying26 Try.ty33 rfl rfl (j := j) (rfl) (reach_base hpv9 hx23)) ?_
      refine Gx.val rfl rfl rfl (Val.cast (val_loadA rfl Try.ty33 rfl rfl rfl (cells_base hpv9 hx23)) (v' := .agg #[.int .i64 ((x23.who : Nat) : Int), .int .i64 0, .bool x23.wr, .int .i64 x23.val, .int .i64 ((x23.frm : Nat) : Int), .int .i64 x23.to]) rfl) ?_
      refine Gx.eff rfl rfl rfl (eff_alloc rfl Try.ty33 (vs := [.int .i64 0, .int .i64 0, .bool false, .int .i64 0, .int .i64 0, .int .i64 0]) rfl) ?_
      rintro _ _ ⟨b24, rfl, rfl⟩
      refine Gx.eff0 rfl rfl (eff_store rfl Try.ty33 rfl rfl (us := [.int .i64 ((x23.who : Nat) : Int), .int .i64 0, .bool x23.wr, .int .i64 x23.val, .int .i64 ((x23.frm : Nat) : Int), .int .i64 x23.to]) rfl rfl rfl (k := 0) rfl (rfl) (vs' := [.int .i64 ((x23.who : Nat) : Int), .int .i64 0, .bool x23.wr, .int .i64 x23.val, .int .i64 ((x23.frm : Nat) : Int), .int .i64 x23.to]) (rfl) (l' := [Hp.rec_ b24 [.int .i64 ((x23.who : Nat) : Int), .int .i64 0, .bool x23.wr, .int .i64 x23.val, .int .i64 ((x23.frm : Nat) : Int), .int .i64 x23.to]]) rfl) ?_
      rintro _ _ rfl
      refine Gx.done ?_
      refine Gx.thenN ?_
      refine Gx.seq ?_
      refine Gx.region ?_
      refine Gx.val rfl rfl rfl (Val.cast (val_fieldAddr rfl Try.underlying33 rfl Try.ty3 rfl rfl) (v' := ptr b24 5) rfl) ?_
      refine Gx.val rfl rfl rfl (val_load rfl Try.ty3 rfl rfl (cell_rec (k := 0) rfl rfl)) ?_
      refine Gx.val rfl rfl rfl (val_lss rfl rfl rfl) ?_
      refine Gx.done ?_
      refine Gx.thenN ?_
      refine Gx.decF rfl (by have := hgo _ _ hx23; omega) ?_
      refine Gx.skip ?_
      refine Gx.blkN ?_
      refine Gx.thenN ?_
      refine Gx.region ?_
      refine Gx.val rfl rfl rfl (val_add rfl rfl rfl (r := ((j + 1 : Nat) : Int)) (w64 (by omega) (by omega))) ?_
      refine Gx.val rfl rfl rfl (val_move rfl rfl) ?_
      refine Gx.done ?_
      refine Gx.thenN ?_
      refine Gx.drop 0 rfl ?_
      exact Gx.round (j + 1) (by first | omega | (dsimp only; omega)) (by first | omega | (dsimp only; omega)) ((.cons rfl (.cons rfl (.cons rfl .nil)))) rfl
    · refine Gx.exit ?_
      refine Gx.thenE ?_
      refine Gx.thenE ?_
      refine Gx.blkE ?_
      refine Gx.thenN ?_
      refine Gx.seq ?_
      refine Gx.region ?_
      refine Gx.val rfl rfl rfl (val_assign rfl rfl) ?_
      refine Gx.done ?_
      refine Gx.thenN ?_
      refine Gx.ret ?_
      refine Gx.ret1B hW12 Try.results3 rfl ?_
      rfl

theorem goes_any {W : World} {n : Int} {sv : Value} {cs : List Cl} (hs : SlS FC 6 W sv cs) :
    Calls Try.prog 3 #[.int .i64 n, sv] W fun e w' => e = .returned (.bool true) ∧ Below W.heap.size W w' := by
  by_cases h : n < 1 ∨ 5 < n ∨ 120 < (cs.length : Int) + 8 * n
  · exact goes_no hs h
  · obtain ⟨m, rfl⟩ : ∃ m : Nat, n = (m : Int) := ⟨n.toNat, by omega⟩
    exact goes_yes (by omega) (by omega) (by omega) hs
end Go.Proofs.Ytjiefamdpbnngaa
