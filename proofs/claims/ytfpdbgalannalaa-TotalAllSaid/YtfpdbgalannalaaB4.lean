/- When all was told all is heard. The walk. No condition. -/
import Derived.Test.YtfpdbgalannalaaB3
namespace Go.Proofs.Ytfpdbgalannalaa
open Go.RowKit
set_option linter.unusedVariables false
set_option linter.unusedSimpArgs false
set_option maxRecDepth 100000

theorem FM_one (p : Mv) (u : Value) (h : u ∈ FM p) : u.oneCell' = true := by simp [FM] at h; rcases h with rfl | rfl | rfl <;> rfl
theorem Try.eM : Elem Try.prog 22 36 (.agg #[.int .i64 0, .int .i64 0, .int .i64 0]) 3 24 := ⟨Try.underlying22, by kernel_rfl, rfl, by decide⟩
def partA (n many : Nat) : Nat → List Mv
  | 0 => []
  | 1 => colA 2 n many many
  | _ => colA 2 n many many ++ colA 3 n many many
theorem partA_succ {n many i : Nat} (h : i < 2) : partA n many (i + 1) = partA n many i ++ colA (2 + i) n many many := by
  match i, h with
  | 0, _ => rfl
  | 1, _ => rfl
theorem partA_len {n many i : Nat} : (partA n many i).length ≤ 2 * (n * many) := by
  match i with
  | 0 => simp [partA]
  | 1 => simp only [partA, colA_len]; omega
  | i + 2 => simp only [partA, List.length_append, colA_len]; omega
theorem all_no {W : World} {k : Int} {sv : Value} {cs : List Mv} (hs : SlS FM 3 W sv cs) (hbad : k < 1 ∨ 6 < k ∨ 120 < (cs.length : Int)) :
    Calls Try.prog 4 #[.int .i64 k, sv] W fun e w' => e = .returned (.bool true) ∧ Below W.heap.size W w' := by
  refine calls_pure (Gx.enter (l := []) Try.func4 rfl Try.ntmps4 rfl (Sat.start W) ?_)
  refine Gx.know (m' := [(0, .int .i64 k), (1, sv)]) (.cons rfl (.cons rfl .nil)) ?_
  refine Gx.seq ?_
  refine Gx.region ?_
  refine Gx.val rfl rfl rfl (val_assign rfl rfl) ?_
  refine Gx.done ?_
  refine Gx.thenN ?_
  refine Gx.seq ?_
  refine Gx.region ?_
  refine Gx.val rfl rfl rfl (val_move rfl rfl) ?_
  refine Gx.val rfl rfl rfl (val_move rfl rfl) ?_
  refine Gx.val rfl rfl rfl (val_call (vs := [.int .i64 k, sv]) rfl Try.fn7 rfl (fun w H => play_no (hs.below H.below) (by omega))) ?_
  refine Gx.val rfl rfl rfl (val_move rfl rfl) ?_
  refine Gx.val rfl rfl rfl (val_extract rfl rfl rfl) ?_
  refine Gx.val rfl rfl rfl (val_extract rfl rfl rfl) ?_
  refine Gx.eff rfl rfl rfl (eff_alloc rfl Try.ty26 (vs := [.slice none 0 0, .slice none 0 0]) rfl) ?_
  rintro _ _ ⟨b1, rfl, rfl⟩
  refine Gx.eff0 rfl rfl (eff_store rfl Try.ty26 rfl rfl (us := [.slice none 0 0, .slice none 0 0]) rfl rfl rfl (k := 0) rfl (rfl) (vs' := [.slice none 0 0, .slice none 0 0]) (rfl) (l' := [Hp.rec_ b1 [.slice none 0 0, .slice none 0 0]]) rfl) ?_
  rintro _ _ rfl
  refine Gx.val rfl rfl rfl (val_assign rfl rfl) ?_
  refine Gx.done ?_
  refine Gx.thenN ?_
  refine Gx.seq ?_
  refine Gx.seq ?_
  refine Gx.region ?_
  refine Gx.val rfl rfl rfl (val_move rfl rfl) ?_
  refine Gx.val rfl rfl rfl (Val.cast (val_neq rfl rfl rfl) (v' := .bool true) rfl) ?_
  refine Gx.val rfl rfl rfl (val_move rfl rfl) ?_
  refine Gx.skipg rfl rfl rfl rfl rfl rfl ?_
  refine Gx.skipg rfl rfl rfl rfl rfl rfl ?_
  refine Gx.skipg rfl rfl rfl rfl rfl rfl ?_
  refine Gx.skipg rfl rfl rfl rfl rfl rfl ?_
  refine Gx.skipg rfl rfl rfl rfl rfl rfl ?_
  refine Gx.skipg rfl rfl rfl rfl rfl rfl ?_
  refine Gx.val rfl rfl rfl (val_pickT rfl rfl rfl) ?_
  refine Gx.done ?_
  refine Gx.thenN ?_
  refine Gx.t rfl ?_
  refine Gx.seq ?_
  refine Gx.region ?_
  refine Gx.val rfl rfl rfl (val_move rfl rfl) ?_
  refine Gx.val rfl rfl rfl (Val.cast (val_neq rfl rfl rfl) (v' := .bool true) rfl) ?_
  refine Gx.val rfl rfl rfl (val_assign rfl rfl) ?_
  refine Gx.done ?_
  refine Gx.thenN ?_
  refine Gx.ret ?_
  refine Gx.thenR ?_
  refine Gx.ret1 Try.results4 rfl ?_
  rfl

theorem all_yes {W : World} {n : Nat} {sv : Value} {cs : List Mv} (h1n : 1 ≤ n) (h6n : n ≤ 6) (hs : SlS FM 3 W sv cs) (hcl : cs.length ≤ 120) :
    Calls Try.prog 4 #[.int .i64 ((n : Nat) : Int), sv] W fun e w' => e = .returned (.bool true) ∧ Below W.heap.size W w' := by
  have hI := (InvT.zero n).run cs (by simp [ts0]; omega)
  have h23 : ([2, 3] : List Nat).length = 2 := rfl
  refine calls_pure (Gx.enter (l := []) Try.func4 rfl Try.ntmps4 rfl (Sat.start W) ?_)
  refine Gx.know (m' := [(0, .int .i64 ((n : Nat) : Int)), (1, sv)]) (.cons rfl (.cons rfl .nil)) ?_
  refine Gx.seq ?_
  refine Gx.region ?_
  refine Gx.val rfl rfl rfl (val_assign rfl rfl) ?_
  refine Gx.done ?_
  refine Gx.thenN ?_
  refine Gx.seq ?_
  refine Gx.region ?_
  refine Gx.val rfl rfl rfl (val_move rfl rfl) ?_
  refine Gx.val rfl rfl rfl (val_move rfl rfl) ?_
  refine Gx.callB rfl rfl rfl (vs := [.int .i64 ((n : Nat) : Int), sv]) rfl Try.fn7 rfl (R := fun v w' => ∃ (cv dv : Value) (vals : List Sv), v = .tuple #[.agg #[cv, dv], .int .i64 0] ∧ SlS FZ 1 w' cv (codesT (ts0 n) cs) ∧ SlS FV 1 w' dv vals ∧ vals.length = n ∧ ∀ (kw : Nat) (v : Sv), vals[kw]? = some v → SlS FN 1 w' (.slice v.a v.n v.c) (lstT (stT (ts0 n) cs) kw)) (fun w H => play_ok h1n h6n (hs.below H.below) (by omega)) ?_
  rintro _ W4 ⟨cv1, dv2, vals3, rfl, hcv1, hdv2, hldv2, hrdv2⟩ H5
  have hW6 := H5.below
  have hs7 := hs.below H5.below
  have hclcv1 : (codesT (ts0 n) cs).length = (cs).length := codesT_len ..
  obtain ⟨sa8, sn9, sc10, rfl⟩ := hcv1.isS
  obtain ⟨sa11, sn12, sc13, rfl⟩ := hdv2.isS
  refine Gx.val rfl rfl rfl (val_move rfl rfl) ?_
  refine Gx.val rfl rfl rfl (val_extract rfl rfl rfl) ?_
  refine Gx.val rfl rfl rfl (val_extract rfl rfl rfl) ?_
  refine Gx.eff rfl rfl rfl (eff_alloc rfl Try.ty26 (vs := [.slice none 0 0, .slice none 0 0]) rfl) ?_
  rintro _ _ ⟨b14, rfl, rfl⟩
  refine Gx.eff0 rfl rfl (eff_store rfl Try.ty26 rfl rfl (us := [.slice sa8 sn9 sc10, .slice sa11 sn12 sc13]) rfl rfl rfl (k := 0) rfl (rfl) (vs' := [.slice sa8 sn9 sc10, .slice sa11 sn12 sc13]) (rfl) (l' := [Hp.rec_ b14 [.slice sa8 sn9 sc10, .slice sa11 sn12 sc13]]) rfl) ?_
  rintro _ _ rfl
  refine Gx.val rfl rfl rfl (val_assign rfl rfl) ?_
  refine Gx.done ?_
  refine Gx.thenN ?_
  refine Gx.seq ?_
  refine Gx.seq ?_
  refine Gx.region ?_
  refine Gx.val rfl rfl rfl (val_move rfl rfl) ?_
  refine Gx.val rfl rfl rfl (Val.cast (val_neq rfl rfl rfl) (v' := .bool false) rfl) ?_
  refine Gx.val rfl rfl rfl (val_move rfl rfl) ?_
  refine Gx.valg rfl rfl rfl rfl rfl (Val.cast (val_fieldAddr rfl Try.underlying26 rfl Try.ty23 rfl rfl) (v' := ptr b14 0) rfl) ?_
  refine Gx.valg rfl rfl rfl rfl rfl (val_load rfl Try.ty23 rfl rfl (cell_rec (k := 0) rfl rfl)) ?_
  refine Gx.valg rfl rfl rfl rfl rfl (val_len rfl Try.underlying23 rfl (len_base hcv1)) ?_
  refine Gx.valg rfl rfl rfl rfl rfl (val_move rfl rfl) ?_
  refine Gx.valg rfl rfl rfl rfl rfl (val_len rfl Try.underlying22 rfl (len_base hs7)) ?_
  refine Gx.valg rfl rfl rfl rfl rfl (val_neq rfl rfl rfl) ?_
  refine Gx.val rfl rfl rfl (val_pickF rfl rfl rfl) ?_
  refine Gx.done ?_
  refine Gx.thenN ?_
  refine Gx.decF rfl (by omega) ?_
  refine Gx.skip ?_
  refine Gx.thenN ?_
  refine Gx.seq ?_
  refine Gx.region ?_
  refine Gx.val rfl rfl rfl (val_move rfl rfl) ?_
  refine Gx.val rfl rfl rfl (Val.cast (val_fieldAddr rfl Try.underlying26 rfl Try.ty23 rfl rfl) (v' := ptr b14 0) rfl) ?_
  refine Gx.val rfl rfl rfl (val_load rfl Try.ty23 rfl rfl (cell_rec (k := 0) rfl rfl)) ?_
  refine Gx.callB rfl rfl rfl (vs := [sv, .slice sa8 sn9 sc10]) rfl Try.fn10 rfl (R := fun v w' => ∃ (z : Value) (xs : List Nat), v = z ∧ SlS FN 1 w' z xs ∧ xs.length = hitB sndB cs (codesT (ts0 n) cs) cs.length) (fun w H => sent_any (hs7.below H.below) (hcv1.below H.below) hclcv1 hcl) ?_
  rintro zv15 W17 ⟨zv15, sx16, rfl, hzv15, hlzv15⟩ H18
  have hW19 := hW6.trans (H18.below.mono hW6.size)
  have hs20 := hs7.below H18.below
  have hs21 := hcv1.below H18.below
  have hs22 := hdv2.below H18.below
  have hb23 := (H18.at_ (k := 0) rfl).rec_.1
  have hc24 := (H18.at_ (k := 0) rfl).cell 0 (u := .slice sa8 sn9 sc10) rfl
  have hc25 := (H18.at_ (k := 0) rfl).cell 1 (u := .slice sa11 sn12 sc13) rfl
  have hsm : sx16.length = (stT (ts0 n) cs).many := by rw [hlzv15]; have h7 := sent_many (s := ts0 n) (cs := cs) cs.length (Nat.le_refl _); rw [List.take_length] at h7; rw [h7]; simp [ts0]
  have hmb := hI.many
  have hmul : 2 * n * sx16.length ≤ 12 * 120 := Nat.mul_le_mul (by omega) (by omega)
  have hnm : 2 * n * sx16.length = 2 * (n * sx16.length) := Nat.mul_assoc ..
  obtain ⟨NM, hNM⟩ : ∃ q, q = n * sx16.length := ⟨_, rfl⟩
  rw [← hNM] at hnm
  refine Gx.val rfl rfl rfl (val_len rfl Try.underlying30 rfl (len_base hzv15)) ?_
  refine Gx.val rfl rfl rfl (val_assign rfl rfl) ?_
  refine Gx.done ?_
  refine Gx.thenN ?_
  refine Gx.seq ?_
  refine Gx.seq ?_
  refine Gx.region ?_
  refine Gx.val rfl rfl rfl (val_move rfl rfl) ?_
  refine Gx.val rfl rfl rfl (val_len rfl Try.underlying22 rfl (len_base hs20)) ?_
  refine Gx.val rfl rfl rfl (val_move rfl rfl) ?_
  refine Gx.val rfl rfl rfl (val_mul rfl rfl rfl (r := ((2 * n : Nat) : Int)) (w64 (by omega) (by omega))) ?_
  refine Gx.val rfl rfl rfl (val_move rfl rfl) ?_
  refine Gx.val rfl rfl rfl (val_mul rfl rfl rfl (r := (((2 * n) * sx16.length : Nat) : Int)) (w64 (by omega) (by omega))) ?_
  refine Gx.val rfl rfl rfl (val_add rfl rfl rfl (r := ((cs.length + ((2 * n) * sx16.length) : Nat) : Int)) (w64 (by omega) (by omega))) ?_
  refine Gx.val rfl rfl rfl (val_gtr rfl rfl rfl) ?_
  refine Gx.done ?_
  refine Gx.thenN ?_
  refine Gx.dec rfl (fun h26 => ?_) (fun h26 => ?_)
  · refine Gx.seq ?_
    refine Gx.region ?_
    refine Gx.val rfl rfl rfl (val_assign rfl rfl) ?_
    refine Gx.done ?_
    refine Gx.thenN ?_
    refine Gx.ret ?_
    refine Gx.thenR ?_
    refine Gx.ret1B hW19 Try.results4 rfl ?_
    rfl
  · refine Gx.skip ?_
    refine Gx.thenN ?_
    refine Gx.seq ?_
    refine Gx.region ?_
    refine Gx.eff rfl rfl rfl (eff_buildNil (f := FM) (sz := 3) (e := 36) rfl Try.underlying22 (fun w => by first | (go_simp; done) | (go_simp; rfl))) ?_
    rintro v27 _ ⟨hiv27, rfl⟩
    refine Gx.val rfl rfl rfl (val_move rfl rfl) ?_
    refine Gx.eff rfl rfl rfl (eff_pushAll (k := 0) (ys := cs) rfl Try.eM FM_len FM_one rfl rfl (fun w H => hs20.below H.below) rfl (by simp; omega) (by simp; omega)) ?_
    rintro v28 _ ⟨hiv28, rfl⟩
    refine Gx.norm (l' := [Hp.own FM 3 v28 cs]) rfl ?_
    refine Gx.val rfl rfl rfl (val_assign rfl rfl) ?_
    refine Gx.done ?_
    refine Gx.thenN ?_
    refine Gx.seq ?_
    refine Gx.seq ?_
    refine Gx.region ?_
    refine Gx.eff rfl rfl rfl (eff_buildSlice rfl (qs := [(0, .int .i64 2), (1, .int .i64 3)]) rfl rfl (cs := #[.int .i64 2, .int .i64 3]) (vs := [.int .i64 2, .int .i64 3]) (E := 3) rfl (fun w => by first | (go_simp; done) | (go_simp; rfl))) ?_
    rintro _ _ ⟨b29, rfl, rfl⟩
    refine Gx.val rfl rfl rfl (val_len rfl Try.underlying30 rfl len_lit) ?_
    refine Gx.val rfl rfl rfl (val_move rfl rfl) ?_
    refine Gx.done ?_
    refine Gx.thenN ?_
    refine Gx.block ?_
    refine Gx.part (k := 0) rfl (q := Hp.own FN 1 (.slice (some ⟨b29, 0, none⟩) 2 2) ([2, 3])) (own_of_rec (f := FN) (xs := [2, 3]) FN_len rfl) ?_
    refine Gx.norm (l' := [Hp.own FN 1 (.slice (some ⟨b29, 0, none⟩) 2 2) ([2, 3]), Hp.own FM 3 v28 cs]) rfl ?_
    refine Gx.norm (l' := [Hp.own FN 1 (.slice (some ⟨b29, 0, none⟩) 2 2) ([2, 3]), Hp.own FM 3 v28 (cs ++ (partA n sx16.length 0))]) (by rw [show (partA n sx16.length 0) = [] from rfl, List.append_nil] <;> rfl) ?_
    refine Gx.front 0 rfl ?_
    refine Gx.front 1 rfl ?_
    refine Gx.loop (ι := Nat × Value) (fun ξ => (ξ.1 ≤ 2) ∧ (IsS ξ.2)) (fun ξ => [(0, .int .i64 ((n : Nat) : Int)), (5, ptr b14 0), (7, .int .i64 ((sx16.length : Nat) : Int)), (50, .slice (some ⟨b29, 0, none⟩) 2 2), (51, .int .i64 2), (52, .int .i64 ((ξ.1 : Nat) : Int)), (8, ξ.2)]) (fun ξ => [Hp.own FM 3 ξ.2 (cs ++ (partA n sx16.length ξ.1)), Hp.own FN 1 (.slice (some ⟨b29, 0, none⟩) 2 2) ([2, 3])]) (fun ξ => 2 - ξ.1) (0, v28) ⟨by first | omega | (dsimp only; omega), hiv28⟩ ((.cons rfl (.cons rfl (.cons rfl (.cons rfl (.cons rfl (.cons rfl (.cons rfl .nil)))))))) rfl ?_
    rintro ⟨i, av⟩ ⟨hi, hia⟩
    dsimp only at hi hia
    refine Gx.know (m' := [(0, .int .i64 ((n : Nat) : Int)), (5, ptr b14 0), (7, .int .i64 ((sx16.length : Nat) : Int)), (50, .slice (some ⟨b29, 0, none⟩) 2 2), (51, .int .i64 2), (52, .int .i64 ((i : Nat) : Int)), (8, av)]) (.cons rfl (.cons rfl (.cons rfl (.cons rfl (.cons rfl (.cons rfl (.cons rfl .nil))))))) (Gx.norm (l' := [Hp.own FM 3 av (cs ++ (partA n sx16.length i)), Hp.own FN 1 (.slice (some ⟨b29, 0, none⟩) 2 2) ([2, 3])]) rfl ?_)
    refine Gx.seq ?_
    refine Gx.region ?_
    refine Gx.val rfl rfl rfl (val_lss rfl rfl rfl) ?_
    refine Gx.done ?_
    refine Gx.thenN ?_
    refine Gx.seq ?_
    refine Gx.dec rfl (fun h30 => ?_) (fun h30 => ?_)
    · refine Gx.skip ?_
      refine Gx.thenN ?_
      refine Gx.seq ?_
      refine Gx.block ?_
      refine Gx.seq ?_
      refine Gx.region ?_
      obtain ⟨x31, hx31⟩ := get_of_lt (xs := [2, 3]) (k := i) (by omega)
      refine Gx.val rfl rfl rfl (val_ixa rfl Try.underlying30 Try.ty3 rfl rfl (j := i) (rfl) (reach_own (k := 1) rfl hx31)) ?_
      refine Gx.val rfl rfl rfl (val_load rfl Try.ty3 rfl rfl (cell_own (i := 0) (k := 1) rfl hx31 rfl)) ?_
      refine Gx.val rfl rfl rfl (val_assign rfl rfl) ?_
      refine Gx.done ?_
      refine Gx.thenN ?_
      refine Gx.seq ?_
      have hxk : x31 = 2 + i := by
        have h9 := hx31
        match i, h9 with
        | 0, h9 => simp at h9; omega
        | 1, h9 => simp at h9; omega
        | i + 2, h9 => simp at h9
      refine Gx.region ?_
      refine Gx.val rfl rfl rfl (val_move rfl rfl) ?_
      refine Gx.val rfl rfl rfl (val_sub rfl rfl rfl (r := (((sx16.length : Nat) : Int) - 1)) (w64 rfl (by omega))) ?_
      refine Gx.val rfl rfl rfl (val_assign rfl rfl) ?_
      refine Gx.done ?_
      refine Gx.thenN ?_
      refine Gx.block ?_
      refine Gx.norm (l' := [Hp.own FM 3 av (cs ++ (partA n sx16.length i) ++ colA x31 n sx16.length 0), Hp.own FN 1 (.slice (some ⟨b29, 0, none⟩) 2 2) ([2, 3])]) (by rw [show colA x31 n sx16.length 0 = [] from rfl, List.append_nil] <;> rfl) ?_
      refine Gx.loop (ι := Nat × Int × Value) (fun ξ => (ξ.2.1 + 1 + (ξ.1 : Int) = ((sx16.length : Nat) : Int)) ∧ (ξ.1 ≤ sx16.length) ∧ (IsS ξ.2.2)) (fun ξ => [(0, .int .i64 ((n : Nat) : Int)), (5, ptr b14 0), (7, .int .i64 ((sx16.length : Nat) : Int)), (10, .int .i64 ((x31 : Nat) : Int)), (50, .slice (some ⟨b29, 0, none⟩) 2 2), (51, .int .i64 2), (52, .int .i64 ((i : Nat) : Int)), (11, .int .i64 ξ.2.1), (8, ξ.2.2)]) (fun ξ => [Hp.own FM 3 ξ.2.2 (cs ++ (partA n sx16.length i) ++ colA x31 n sx16.length ξ.1), Hp.own FN 1 (.slice (some ⟨b29, 0, none⟩) 2 2) ([2, 3])]) (fun ξ => sx16.length - ξ.1) (0, (((sx16.length : Nat) : Int) - 1), av) ⟨by dsimp only; omega, Nat.zero_le _, hia⟩ ((.cons rfl (.cons rfl (.cons rfl (.cons rfl (.cons rfl (.cons rfl (.cons rfl (.cons rfl (.cons rfl .nil)))))))))) rfl ?_
      rintro ⟨c9, m9, aw⟩ ⟨hm9, hc9, hib⟩
      dsimp only at hm9 hc9 hib
      refine Gx.know (m' := [(0, .int .i64 ((n : Nat) : Int)), (5, ptr b14 0), (7, .int .i64 ((sx16.length : Nat) : Int)), (10, .int .i64 ((x31 : Nat) : Int)), (50, .slice (some ⟨b29, 0, none⟩) 2 2), (51, .int .i64 2), (52, .int .i64 ((i : Nat) : Int)), (11, .int .i64 m9), (8, aw)]) (.cons rfl (.cons rfl (.cons rfl (.cons rfl (.cons rfl (.cons rfl (.cons rfl (.cons rfl (.cons rfl .nil))))))))) (Gx.norm (l' := [Hp.own FM 3 aw (cs ++ (partA n sx16.length i) ++ colA x31 n sx16.length c9), Hp.own FN 1 (.slice (some ⟨b29, 0, none⟩) 2 2) ([2, 3])]) rfl ?_)
      refine Gx.seq ?_
      refine Gx.seq ?_
      refine Gx.region ?_
      refine Gx.val rfl rfl rfl (val_move rfl rfl) ?_
      refine Gx.val rfl rfl rfl (val_geq rfl rfl rfl) ?_
      refine Gx.done ?_
      refine Gx.thenN ?_
      refine Gx.dec rfl (fun h32 => ?_) (fun h32 => ?_)
      · refine Gx.skip ?_
        refine Gx.thenN ?_
        refine Gx.seq ?_
        refine Gx.block ?_
        refine Gx.seq ?_
        obtain ⟨mm, rfl⟩ := Int.eq_ofNat_of_zero_le (a := m9) (by omega)
        refine Gx.region ?_
        refine Gx.val rfl rfl rfl (val_assign rfl rfl) ?_
        refine Gx.done ?_
        refine Gx.thenN ?_
        refine Gx.block ?_
        refine Gx.norm (l' := [Hp.own FM 3 aw (cs ++ (partA n sx16.length i) ++ colA x31 n sx16.length c9 ++ rowA x31 mm 0), Hp.own FN 1 (.slice (some ⟨b29, 0, none⟩) 2 2) ([2, 3])]) (by rw [show rowA x31 mm 0 = [] from rfl, List.append_nil] <;> rfl) ?_
        refine Gx.loop (ι := Nat × Value) (fun ξ => (ξ.1 ≤ n) ∧ (IsS ξ.2)) (fun ξ => [(0, .int .i64 ((n : Nat) : Int)), (5, ptr b14 0), (7, .int .i64 ((sx16.length : Nat) : Int)), (10, .int .i64 ((x31 : Nat) : Int)), (11, .int .i64 ((mm : Nat) : Int)), (50, .slice (some ⟨b29, 0, none⟩) 2 2), (51, .int .i64 2), (52, .int .i64 ((i : Nat) : Int)), (12, .int .i64 ((ξ.1 : Nat) : Int)), (8, ξ.2)]) (fun ξ => [Hp.own FM 3 ξ.2 (cs ++ (partA n sx16.length i) ++ colA x31 n sx16.length c9 ++ rowA x31 mm ξ.1), Hp.own FN 1 (.slice (some ⟨b29, 0, none⟩) 2 2) ([2, 3])]) (fun ξ => n - ξ.1) (0, aw) ⟨by first | omega | (dsimp only; omega), hib⟩ ((.cons rfl (.cons rfl (.cons rfl (.cons rfl (.cons rfl (.cons rfl (.cons rfl (.cons rfl (.cons rfl (.cons rfl .nil))))))))))) rfl ?_
        rintro ⟨k9, ax⟩ ⟨hk9, hie⟩
        dsimp only at hk9 hie
        refine Gx.know (m' := [(0, .int .i64 ((n : Nat) : Int)), (5, ptr b14 0), (7, .int .i64 ((sx16.length : Nat) : Int)), (10, .int .i64 ((x31 : Nat) : Int)), (11, .int .i64 ((mm : Nat) : Int)), (50, .slice (some ⟨b29, 0, none⟩) 2 2), (51, .int .i64 2), (52, .int .i64 ((i : Nat) : Int)), (12, .int .i64 ((k9 : Nat) : Int)), (8, ax)]) (.cons rfl (.cons rfl (.cons rfl (.cons rfl (.cons rfl (.cons rfl (.cons rfl (.cons rfl (.cons rfl (.cons rfl .nil)))))))))) (Gx.norm (l' := [Hp.own FM 3 ax (cs ++ (partA n sx16.length i) ++ colA x31 n sx16.length c9 ++ rowA x31 mm k9), Hp.own FN 1 (.slice (some ⟨b29, 0, none⟩) 2 2) ([2, 3])]) rfl ?_)
        have hln : (cs ++ (partA n sx16.length i) ++ colA x31 n sx16.length c9 ++ rowA x31 mm k9).length ≤ 500 := by
          have h1 := partA_len (n := n) (many := sx16.length) (i := i)
          have h2 : n * c9 ≤ n * sx16.length := Nat.mul_le_mul_left n (by omega)
          rw [← hNM] at h1 h2
          simp only [List.length_append, colA_len, rowA_len]; omega
        refine Gx.seq ?_
        refine Gx.seq ?_
        refine Gx.region ?_
        refine Gx.val rfl rfl rfl (val_move rfl rfl) ?_
        refine Gx.val rfl rfl rfl (val_move rfl rfl) ?_
        refine Gx.val rfl rfl rfl (val_lss rfl rfl rfl) ?_
        refine Gx.done ?_
        refine Gx.thenN ?_
        refine Gx.dec rfl (fun h33 => ?_) (fun h33 => ?_)
        · refine Gx.skip ?_
          refine Gx.thenN ?_
          refine Gx.seq ?_
          refine Gx.block ?_
          refine Gx.region ?_
          refine Gx.val rfl rfl rfl (val_move rfl rfl) ?_
          refine Gx.val rfl rfl rfl (val_move rfl rfl) ?_
          refine Gx.val rfl rfl rfl (val_move rfl rfl) ?_
          refine Gx.val rfl rfl rfl (val_move rfl rfl) ?_
          refine Gx.val rfl rfl rfl (val_build rfl (qs := [(0, .int .i64 ((x31 : Nat) : Int)), (1, .int .i64 ((k9 : Nat) : Int)), (2, .int .i64 ((mm : Nat) : Int))]) rfl rfl (fun w => by go_simp) (v := .agg #[.int .i64 ((x31 : Nat) : Int), .int .i64 ((k9 : Nat) : Int), .int .i64 ((mm : Nat) : Int)])) ?_
          refine Gx.eff rfl rfl rfl (eff_buildSlice rfl (qs := [(0, .agg #[.int .i64 ((x31 : Nat) : Int), .int .i64 ((k9 : Nat) : Int), .int .i64 ((mm : Nat) : Int)])]) rfl rfl (cs := #[.int .i64 ((x31 : Nat) : Int), .int .i64 ((k9 : Nat) : Int), .int .i64 ((mm : Nat) : Int)]) (vs := [.int .i64 ((x31 : Nat) : Int), .int .i64 ((k9 : Nat) : Int), .int .i64 ((mm : Nat) : Int)]) (E := 36) rfl (fun w => by first | (go_simp; done) | (go_simp; rfl))) ?_
          rintro _ _ ⟨b34, rfl, rfl⟩
          refine Gx.eff rfl rfl rfl (eff_push (r := (mv x31 k9 mm)) rfl Try.eM FM_len FM_one rfl rfl (k := 0) rfl rfl (k' := 0) rfl (by omega) (by omega)) ?_
          rintro v35 _ ⟨hiv35, rfl⟩
          refine Gx.norm (l' := [Hp.own FM 3 v35 ((cs ++ (partA n sx16.length i) ++ colA x31 n sx16.length c9 ++ rowA x31 mm k9) ++ [(mv x31 k9 mm)]), Hp.own FN 1 (.slice (some ⟨b29, 0, none⟩) 2 2) ([2, 3])]) rfl ?_
          refine Gx.val rfl rfl rfl (val_assign rfl rfl) ?_
          refine Gx.done ?_
          refine Gx.blkN ?_
          refine Gx.thenN ?_
          refine Gx.region ?_
          refine Gx.val rfl rfl rfl (val_move rfl rfl) ?_
          refine Gx.val rfl rfl rfl (val_add rfl rfl rfl (r := ((k9 + 1 : Nat) : Int)) (w64 (by omega) (by omega))) ?_
          refine Gx.val rfl rfl rfl (val_assign rfl rfl) ?_
          refine Gx.done ?_
          refine Gx.thenN ?_
          refine Gx.norm (l' := [Hp.own FM 3 v35 (cs ++ (partA n sx16.length i) ++ colA x31 n sx16.length c9 ++ rowA x31 mm (k9 + 1)), Hp.own FN 1 (.slice (some ⟨b29, 0, none⟩) 2 2) ([2, 3])]) (by rw [rowA_succ, ← List.append_assoc] <;> rfl) ?_
          exact Gx.round (k9 + 1, v35) ⟨by first | omega | (dsimp only; omega), hiv35⟩ (by first | omega | (dsimp only; omega)) ((.cons rfl (.cons rfl (.cons rfl (.cons rfl (.cons rfl (.cons rfl (.cons rfl (.cons rfl (.cons rfl (.cons rfl .nil))))))))))) rfl
        · refine Gx.exit ?_
          refine Gx.thenE ?_
          refine Gx.thenE ?_
          refine Gx.blkE ?_
          refine Gx.blkN ?_
          refine Gx.thenN ?_
          refine Gx.region ?_
          refine Gx.val rfl rfl rfl (val_move rfl rfl) ?_
          refine Gx.val rfl rfl rfl (val_sub rfl rfl rfl (r := (((mm : Nat) : Int) - 1)) (w64 (by omega) (by omega))) ?_
          refine Gx.val rfl rfl rfl (val_assign rfl rfl) ?_
          refine Gx.done ?_
          refine Gx.thenN ?_
          refine Gx.norm (l' := [Hp.own FM 3 ax (cs ++ (partA n sx16.length i) ++ colA x31 n sx16.length (c9 + 1)), Hp.own FN 1 (.slice (some ⟨b29, 0, none⟩) 2 2) ([2, 3])]) (by rw [show colA x31 n sx16.length (c9 + 1) = colA x31 n sx16.length c9 ++ rowA x31 (sx16.length - 1 - c9) n from rfl, ← List.append_assoc, show sx16.length - 1 - c9 = mm from by omega, show n = k9 from by omega] <;> rfl) ?_
          exact Gx.round ((c9 + 1), (((mm : Nat) : Int) - 1), ax) ⟨by first | omega | (dsimp only; omega), by first | omega | (dsimp only; omega), hie⟩ (by first | omega | (dsimp only; omega)) ((.cons rfl (.cons rfl (.cons rfl (.cons rfl (.cons rfl (.cons rfl (.cons rfl (.cons rfl (.cons rfl .nil)))))))))) rfl
      · refine Gx.exit ?_
        refine Gx.thenE ?_
        refine Gx.thenE ?_
        refine Gx.blkE ?_
        refine Gx.blkN ?_
        refine Gx.thenN ?_
        obtain rfl : c9 = sx16.length := by omega
        refine Gx.norm (l' := [Hp.own FM 3 aw (cs ++ (partA n sx16.length i) ++ colA x31 n sx16.length sx16.length), Hp.own FN 1 (.slice (some ⟨b29, 0, none⟩) 2 2) ([2, 3])]) rfl ?_
        refine Gx.region ?_
        refine Gx.val rfl rfl rfl (val_add rfl rfl rfl (r := ((i + 1 : Nat) : Int)) (w64 (by omega) (by omega))) ?_
        refine Gx.val rfl rfl rfl (val_move rfl rfl) ?_
        refine Gx.done ?_
        refine Gx.thenN ?_
        refine Gx.norm (l' := [Hp.own FM 3 aw (cs ++ (partA n sx16.length (i + 1))), Hp.own FN 1 (.slice (some ⟨b29, 0, none⟩) 2 2) ([2, 3])]) (by rw [partA_succ (by omega : i < 2), ← List.append_assoc, ← hxk] <;> rfl) ?_
        exact Gx.round (i + 1, aw) ⟨by first | omega | (dsimp only; omega), hib⟩ (by first | omega | (dsimp only; omega)) ((.cons rfl (.cons rfl (.cons rfl (.cons rfl (.cons rfl (.cons rfl (.cons rfl .nil)))))))) rfl
    · refine Gx.exit ?_
      refine Gx.thenE ?_
      refine Gx.thenE ?_
      refine Gx.blkE ?_
      refine Gx.thenN ?_
      refine Gx.seq ?_
      obtain rfl : i = 2 := by omega
      have hal : (cs ++ (partA n sx16.length 2)).length ≤ 120 := by simp only [partA, List.length_append, colA_len]; rw [← hNM]; omega
      have hfin := all_run (n := n) (cs := cs) h6n sx16.length hsm.symm
      refine Gx.norm (l' := [Hp.own FM 3 av (cs ++ (partA n sx16.length 2)), Hp.own FN 1 (.slice (some ⟨b29, 0, none⟩) 2 2) ([2, 3])]) rfl ?_
      refine Gx.region ?_
      refine Gx.val rfl rfl rfl (val_move rfl rfl) ?_
      refine Gx.val rfl rfl rfl (val_move rfl rfl) ?_
      refine Gx.callB rfl rfl rfl (vs := [.int .i64 ((n : Nat) : Int), av]) rfl Try.fn7 rfl (R := fun v w' => ∃ (cv dv : Value) (vals : List Sv), v = .tuple #[.agg #[cv, dv], .int .i64 0] ∧ SlS FZ 1 w' cv (codesT (ts0 n) (cs ++ (partA n sx16.length 2))) ∧ SlS FV 1 w' dv vals ∧ vals.length = n ∧ ∀ (kw : Nat) (v : Sv), vals[kw]? = some v → SlS FN 1 w' (.slice v.a v.n v.c) (lstT (stT (ts0 n) (cs ++ (partA n sx16.length 2))) kw)) (fun w H => play_ok h1n h6n ((H.at_ (k := 0) rfl).sls (by first | omega | (simp; omega))) (hal)) ?_
      rintro _ W39 ⟨cv36, dv37, vals38, rfl, hcv36, hdv37, hldv37, hrdv37⟩ H40
      have hW41 := hW19.trans (H40.below.mono hW19.size)
      have hs42 := hs20.below H40.below
      have hs43 := hs21.below H40.below
      have hs44 := hs22.below H40.below
      have hs45 := hzv15.below H40.below
      have hb46 := Nat.lt_of_lt_of_le hb23 H40.size
      have hc47 := (H40.below.cell (p := ⟨b14, 0, none⟩) hb23).trans hc24
      have hb48 := Nat.lt_of_lt_of_le hb23 H40.size
      have hc49 := (H40.below.cell (p := ⟨b14, 1, none⟩) hb23).trans hc25
      have hs50 := (H40.at_ (k := 0) rfl).sls (by first | omega | (simp; omega))
      have hs51 := (H40.at_ (k := 1) rfl).sls (by first | omega | (simp; omega))
      have hclcv36 : (codesT (ts0 n) (cs ++ (partA n sx16.length 2))).length = ((cs ++ (partA n sx16.length 2))).length := codesT_len ..
      obtain ⟨sa52, sn53, sc54, rfl⟩ := hcv36.isS
      obtain ⟨sa55, sn56, sc57, rfl⟩ := hdv37.isS
      refine Gx.val rfl rfl rfl (val_move rfl rfl) ?_
      refine Gx.val rfl rfl rfl (val_extract rfl rfl rfl) ?_
      refine Gx.val rfl rfl rfl (val_extract rfl rfl rfl) ?_
      refine Gx.eff rfl rfl rfl (eff_alloc rfl Try.ty26 (vs := [.slice none 0 0, .slice none 0 0]) rfl) ?_
      rintro _ _ ⟨b58, rfl, rfl⟩
      refine Gx.eff0 rfl rfl (eff_store rfl Try.ty26 rfl rfl (us := [.slice sa52 sn53 sc54, .slice sa55 sn56 sc57]) rfl rfl rfl (k := 0) rfl (rfl) (vs' := [.slice sa52 sn53 sc54, .slice sa55 sn56 sc57]) (rfl) (l' := [Hp.rec_ b58 [.slice sa52 sn53 sc54, .slice sa55 sn56 sc57]]) rfl) ?_
      rintro _ _ rfl
      refine Gx.val rfl rfl rfl (val_assign rfl rfl) ?_
      refine Gx.done ?_
      refine Gx.thenN ?_
      refine Gx.seq ?_
      refine Gx.seq ?_
      refine Gx.region ?_
      refine Gx.val rfl rfl rfl (val_move rfl rfl) ?_
      refine Gx.val rfl rfl rfl (Val.cast (val_neq rfl rfl rfl) (v' := .bool false) rfl) ?_
      refine Gx.val rfl rfl rfl (val_move rfl rfl) ?_
      refine Gx.valg rfl rfl rfl rfl rfl (Val.cast (val_fieldAddr rfl Try.underlying26 rfl Try.ty24 rfl rfl) (v' := ptr b58 1) rfl) ?_
      refine Gx.valg rfl rfl rfl rfl rfl (val_load rfl Try.ty24 rfl rfl (cell_rec (k := 0) rfl rfl)) ?_
      refine Gx.valg rfl rfl rfl rfl rfl (val_len rfl Try.underlying24 rfl (len_base hdv37)) ?_
      refine Gx.valg rfl rfl rfl rfl rfl (val_move rfl rfl) ?_
      refine Gx.valg rfl rfl rfl rfl rfl (val_neq rfl rfl rfl) ?_
      refine Gx.val rfl rfl rfl (val_pickF rfl rfl rfl) ?_
      refine Gx.done ?_
      refine Gx.thenN ?_
      refine Gx.decF rfl (by omega) ?_
      refine Gx.skip ?_
      refine Gx.thenN ?_
      refine Gx.seq ?_
      refine Gx.seq ?_
      refine Gx.region ?_
      refine Gx.val rfl rfl rfl (Val.cast (val_fieldAddr rfl Try.underlying26 rfl Try.ty24 rfl rfl) (v' := ptr b58 1) rfl) ?_
      refine Gx.val rfl rfl rfl (val_load rfl Try.ty24 rfl rfl (cell_rec (k := 0) rfl rfl)) ?_
      refine Gx.val rfl rfl rfl (val_len rfl Try.underlying24 rfl (len_base hdv37)) ?_
      refine Gx.val rfl rfl rfl (val_move rfl rfl) ?_
      refine Gx.done ?_
      refine Gx.thenN ?_
      refine Gx.block ?_
      refine Gx.loop (ι := Nat) (fun ξ => (ξ ≤ n)) (fun ξ => [(0, .int .i64 ((n : Nat) : Int)), (7, .int .i64 ((sx16.length : Nat) : Int)), (13, ptr b58 0), (91, .slice sa55 sn56 sc57), (92, .int .i64 ((vals38.length : Nat) : Int)), (93, .int .i64 ((ξ : Nat) : Int))]) (fun ξ => [Hp.rec_ b58 [.slice sa52 sn53 sc54, .slice sa55 sn56 sc57]]) (fun ξ => n - ξ) 0 (by first | omega | (dsimp only; omega)) ((.cons rfl (.cons rfl (.cons rfl (.cons rfl (.cons rfl (.cons rfl .nil))))))) rfl ?_
      rintro q9 hq9
      refine Gx.know (m' := [(0, .int .i64 ((n : Nat) : Int)), (7, .int .i64 ((sx16.length : Nat) : Int)), (13, ptr b58 0), (91, .slice sa55 sn56 sc57), (92, .int .i64 ((vals38.length : Nat) : Int)), (93, .int .i64 ((q9 : Nat) : Int))]) (.cons rfl (.cons rfl (.cons rfl (.cons rfl (.cons rfl (.cons rfl .nil)))))) (Gx.norm (l' := [Hp.rec_ b58 [.slice sa52 sn53 sc54, .slice sa55 sn56 sc57]]) rfl ?_)
      refine Gx.seq ?_
      refine Gx.region ?_
      refine Gx.val rfl rfl rfl (val_lss rfl rfl rfl) ?_
      refine Gx.done ?_
      refine Gx.thenN ?_
      refine Gx.seq ?_
      refine Gx.dec rfl (fun h59 => ?_) (fun h59 => ?_)
      · refine Gx.skip ?_
        refine Gx.thenN ?_
        refine Gx.seq ?_
        refine Gx.block ?_
        refine Gx.seq ?_
        obtain ⟨x, hx⟩ := get_of_lt (xs := vals38) (k := q9) (by omega)
        obtain ⟨y, hy⟩ := get_of_lt (xs := vals38) (k := 0) (by omega)
        have hrx := hrdv37 q9 x hx
        have hry := hrdv37 0 y hy
        have hll : (lstT (stT (ts0 n) (cs ++ (partA n sx16.length 2))) q9).length = sx16.length ∧ lstT (stT (ts0 n) (cs ++ (partA n sx16.length 2))) q9 = lstT (stT (ts0 n) (cs ++ (partA n sx16.length 2))) 0 := hfin q9 0 (by omega) (by omega)
        obtain ⟨hl1, hl2⟩ := hll
        refine Gx.region ?_
        refine Gx.val rfl rfl rfl (val_ixa rfl Try.underlying24 Try.ty30 rfl rfl (j := q9) (rfl) (reach_base hdv37 hx)) ?_
        refine Gx.val rfl rfl rfl (val_load rfl Try.ty30 rfl rfl (cell_base (i := 0) hdv37 hx rfl)) ?_
        refine Gx.val rfl rfl rfl (val_assign rfl rfl) ?_
        refine Gx.done ?_
        refine Gx.thenN ?_
        refine Gx.seq ?_
        refine Gx.region ?_
        refine Gx.val rfl rfl rfl (val_move rfl rfl) ?_
        refine Gx.val rfl rfl rfl (val_len rfl Try.underlying30 rfl (len_base hrx)) ?_
        refine Gx.val rfl rfl rfl (val_move rfl rfl) ?_
        refine Gx.val rfl rfl rfl (val_neq rfl rfl rfl) ?_
        refine Gx.val rfl rfl rfl (val_move rfl rfl) ?_
        refine Gx.slot (t := 101) (v := .bool false) (look_decF rfl (by omega)) ?_
        refine Gx.valg rfl rfl rfl rfl rfl (val_move rfl rfl) ?_
        refine Gx.valg rfl rfl rfl rfl rfl (Val.cast (val_fieldAddr rfl Try.underlying26 rfl Try.ty24 rfl rfl) (v' := ptr b58 1) rfl) ?_
        refine Gx.valg rfl rfl rfl rfl rfl (val_load rfl Try.ty24 rfl rfl (cell_rec (k := 0) rfl rfl)) ?_
        refine Gx.valg rfl rfl rfl rfl rfl (val_ixa rfl Try.underlying24 Try.ty30 rfl rfl (j := 0) (rfl) (reach_base hdv37 hy)) ?_
        refine Gx.valg rfl rfl rfl rfl rfl (val_load rfl Try.ty30 rfl rfl (cell_base (i := 0) (sz := 1) (j := 0) hdv37 hy rfl)) ?_
        refine Gx.valg rfl rfl rfl rfl rfl (val_call (vs := [.slice x.a x.n x.c, .slice y.a y.n y.c]) rfl Try.fn11 rfl (fun w H => ints_any (hrx.below H.below) (hry.below H.below))) ?_
        refine Gx.valg rfl rfl rfl rfl rfl (val_notD rfl rfl) ?_
        refine Gx.val rfl rfl rfl (val_pickF rfl rfl rfl) ?_
        refine Gx.done ?_
        refine Gx.thenN ?_
        refine Gx.decF rfl (fun q => q hl2) ?_
        refine Gx.skip ?_
        refine Gx.blkN ?_
        refine Gx.thenN ?_
        refine Gx.region ?_
        refine Gx.val rfl rfl rfl (val_add rfl rfl rfl (r := ((q9 + 1 : Nat) : Int)) (w64 (by omega) (by omega))) ?_
        refine Gx.val rfl rfl rfl (val_move rfl rfl) ?_
        refine Gx.done ?_
        refine Gx.thenN ?_
        exact Gx.round (q9 + 1) (by first | omega | (dsimp only; omega)) (by first | omega | (dsimp only; omega)) ((.cons rfl (.cons rfl (.cons rfl (.cons rfl (.cons rfl (.cons rfl .nil))))))) rfl
      · refine Gx.exit ?_
        refine Gx.thenE ?_
        refine Gx.thenE ?_
        refine Gx.blkE ?_
        refine Gx.thenN ?_
        refine Gx.seq ?_
        refine Gx.region ?_
        refine Gx.val rfl rfl rfl (val_assign rfl rfl) ?_
        refine Gx.done ?_
        refine Gx.thenN ?_
        refine Gx.ret ?_
        refine Gx.ret1B hW41 Try.results4 rfl ?_
        rfl

theorem all_any {W : World} {k : Int} {sv : Value} {cs : List Mv} (hs : SlS FM 3 W sv cs) : Calls Try.prog 4 #[.int .i64 k, sv] W fun e w' => e = .returned (.bool true) ∧ Below W.heap.size W w' := by
  by_cases h : k < 1 ∨ 6 < k ∨ 120 < (cs.length : Int)
  · exact all_no hs h
  · obtain ⟨n, rfl⟩ : ∃ n : Nat, k = (n : Int) := ⟨k.toNat, by omega⟩
    exact all_yes (by omega) (by omega) hs (by omega)
end Go.Proofs.Ytfpdbgalannalaa
