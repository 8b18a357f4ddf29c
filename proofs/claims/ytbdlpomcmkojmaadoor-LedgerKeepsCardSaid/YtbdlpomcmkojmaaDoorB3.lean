/- All the money is there. The walk. No condition. -/
import Derived.Test.YtbdlpomcmkojmaaDoorM1
namespace Go.Proofs.YtbdlpomcmkojmaaDoor
open Go.RowKit
set_option linter.unusedVariables false
set_option linter.unusedSimpArgs false
set_option maxRecDepth 100000

theorem sum_snoc {l : List Int} {i : Nat} {x : Int} (h : l[i]? = some x) : (l.take (i + 1)).sum = (l.take i).sum + x := by rw [take_of h, List.sum_append]; simp
theorem sumA_snoc {l : List Acc} {i : Nat} {x : Acc} (h : l[i]? = some x) : sumA (l.take (i + 1)) = sumA (l.take i) + x.n := by unfold sumA; rw [take_of h, List.map_append, List.sum_append]; simp
theorem keeps_no {W : World} {mv pv : Value} {money : List Int} {pays : List Py} (hg : HG W) (hm : SlS FM 1 W mv money) (hp : SlS FP 4 W pv pays) (hno : ¬ OkL money pays.length) :
    Calls Tryd.prog 3 #[mv, pv] W fun e w' => e = .returned (.bool true) ∧ Below W.heap.size W w' := by
  have hm1 := len_bd hm
  have hp1 := len_bd hp
  refine calls_pure (Gx.enter (l := []) Tryd.func3 rfl Tryd.ntmps3 rfl (Sat.start W) ?_)
  refine Gx.know (m' := [(0, mv), (1, pv)]) (.cons rfl (.cons rfl .nil)) ?_
  refine Gx.seq ?_
  refine Gx.region ?_
  refine Gx.val rfl rfl rfl (val_assign rfl rfl) ?_
  refine Gx.done ?_
  refine Gx.thenN ?_
  refine Gx.seq ?_
  refine Gx.region ?_
  refine Gx.val rfl rfl rfl (val_move rfl rfl) ?_
  refine Gx.val rfl rfl rfl (val_move rfl rfl) ?_
  refine Gx.eff rfl rfl rfl (eff_callE (vs := [mv, pv]) rfl Tryd.fn7 rfl (R := fun u => ∃ c : Int, u = .tuple #[.slice none 0 0, .slice none 0 0, .int .i64 c] ∧ c ≠ 0) (fun w H => play_no (hm.below H.below) (hp.below H.below) hno)) ?_
  rintro _ _ ⟨⟨c1, rfl, hc1⟩, rfl⟩
  refine Gx.val rfl rfl rfl (val_move rfl rfl) ?_
  refine Gx.val rfl rfl rfl (val_extract rfl rfl rfl) ?_
  refine Gx.val rfl rfl rfl (val_extract rfl rfl rfl) ?_
  refine Gx.val rfl rfl rfl (val_extract rfl rfl rfl) ?_
  refine Gx.val rfl rfl rfl (val_assign rfl rfl) ?_
  refine Gx.val rfl rfl rfl (val_assign rfl rfl) ?_
  refine Gx.val rfl rfl rfl (val_assign rfl rfl) ?_
  refine Gx.done ?_
  refine Gx.thenN ?_
  refine Gx.seq ?_
  refine Gx.seq ?_
  refine Gx.region ?_
  refine Gx.val rfl rfl rfl (val_move rfl rfl) ?_
  refine Gx.val rfl rfl rfl (val_move rfl rfl) ?_
  refine Gx.val rfl rfl rfl (val_len rfl Tryd.underlying23 rfl (len_base hp)) ?_
  refine Gx.eff rfl rfl rfl (eff_callE (vs := [mv, .int .i64 ((pays.length : Nat) : Int)]) rfl Tryd.fn8 rfl (R := fun u => ∃ c : Int, u = .int .i64 c ∧ (c = 0 ↔ OkL money pays.length)) (fun w H => lcheck_any ((pays.length : Nat) : Int) (hm.below H.below))) ?_
  rintro _ _ ⟨⟨c2, rfl, hc2⟩, rfl⟩
  refine Gx.val rfl rfl rfl (val_neq rfl rfl rfl) ?_
  refine Gx.done ?_
  refine Gx.thenN ?_
  refine Gx.decT rfl (fun q => hno (hc2.1 q)) ?_
  refine Gx.seq ?_
  refine Gx.region ?_
  refine Gx.val rfl rfl rfl (val_move rfl rfl) ?_
  refine Gx.val rfl rfl rfl (val_neq rfl rfl rfl) ?_
  refine Gx.val rfl rfl rfl (val_assign rfl rfl) ?_
  refine Gx.done ?_
  refine Gx.thenN ?_
  refine Gx.ret ?_
  refine Gx.thenR ?_
  refine Gx.ret1 Tryd.results3 rfl ?_
  exact congrArg Value.bool (decide_eq_true (by assumption))

theorem keeps_yes {W : World} {mv pv : Value} {money : List Int} {pays : List Py} (hg : HG W) (hm : SlS FM 1 W mv money) (hp : SlS FP 4 W pv pays) (hok : OkL money pays.length) :
    Calls Tryd.prog 3 #[mv, pv] W fun e w' => e = .returned (.bool true) ∧ Below W.heap.size W w' := by
  have hm1 := len_bd hm
  have hp1 := len_bd hp
  refine calls_pure (Gx.enter (l := []) Tryd.func3 rfl Tryd.ntmps3 rfl (Sat.start W) ?_)
  refine Gx.know (m' := [(0, mv), (1, pv)]) (.cons rfl (.cons rfl .nil)) ?_
  refine Gx.seq ?_
  refine Gx.region ?_
  refine Gx.val rfl rfl rfl (val_assign rfl rfl) ?_
  refine Gx.done ?_
  refine Gx.thenN ?_
  refine Gx.seq ?_
  refine Gx.region ?_
  refine Gx.val rfl rfl rfl (val_move rfl rfl) ?_
  refine Gx.val rfl rfl rfl (val_move rfl rfl) ?_
  refine Gx.callB rfl rfl rfl (vs := [mv, pv]) rfl Tryd.fn7 rfl (R := fun v w' => ∃ av cv, v = .tuple #[av, cv, .int .i64 0] ∧ SlS FA 2 w' av (accsL (start0 money) pays) ∧ SlS FZ 1 w' cv (codesL (start0 money) pays)) (fun w H => play_ok (hg.below H.below) (hm.below H.below) (hp.below H.below) hok) ?_
  rintro _ W3 ⟨av2, cv1, rfl, hav2, hcv1⟩ H4
  have hW5 := H4.below
  have hs6 := hm.below H4.below
  have hs7 := hp.below H4.below
  have hg8 := hg.below H4.below
  have hclcv1 : (codesL (start0 money) pays).length = (pays).length := codesL_len ..
  have halav2 : (accsL (start0 money) pays).length = money.length := by rw [accsL_len, start_len]
  refine Gx.val rfl rfl rfl (val_move rfl rfl) ?_
  refine Gx.val rfl rfl rfl (val_extract rfl rfl rfl) ?_
  refine Gx.val rfl rfl rfl (val_extract rfl rfl rfl) ?_
  refine Gx.val rfl rfl rfl (val_extract rfl rfl rfl) ?_
  refine Gx.val rfl rfl rfl (val_assign rfl rfl) ?_
  refine Gx.val rfl rfl rfl (val_assign rfl rfl) ?_
  refine Gx.val rfl rfl rfl (val_assign rfl rfl) ?_
  refine Gx.done ?_
  refine Gx.thenN ?_
  refine Gx.seq ?_
  refine Gx.seq ?_
  refine Gx.region ?_
  refine Gx.val rfl rfl rfl (val_move rfl rfl) ?_
  refine Gx.val rfl rfl rfl (val_move rfl rfl) ?_
  refine Gx.val rfl rfl rfl (val_len rfl Tryd.underlying23 rfl (len_base hs7)) ?_
  refine Gx.eff rfl rfl rfl (eff_callE (vs := [mv, .int .i64 ((pays.length : Nat) : Int)]) rfl Tryd.fn8 rfl (R := fun u => ∃ c : Int, u = .int .i64 c ∧ (c = 0 ↔ OkL money pays.length)) (fun w H => lcheck_any ((pays.length : Nat) : Int) (hs6.below H.below))) ?_
  rintro _ _ ⟨⟨c9, rfl, hc9⟩, rfl⟩
  refine Gx.val rfl rfl rfl (val_neq rfl rfl rfl) ?_
  refine Gx.done ?_
  refine Gx.thenN ?_
  refine Gx.decF rfl (fun q => q (hc9.2 hok)) ?_
  refine Gx.skip ?_
  refine Gx.thenN ?_
  refine Gx.seq ?_
  refine Gx.seq ?_
  refine Gx.region ?_
  refine Gx.val rfl rfl rfl (val_move rfl rfl) ?_
  refine Gx.val rfl rfl rfl (Val.cast (val_neq rfl rfl rfl) (v' := .bool false) rfl) ?_
  refine Gx.val rfl rfl rfl (val_move rfl rfl) ?_
  refine Gx.valg rfl rfl rfl rfl rfl (val_move rfl rfl) ?_
  refine Gx.valg rfl rfl rfl rfl rfl (val_len rfl Tryd.underlying24 rfl (len_base hav2)) ?_
  refine Gx.valg rfl rfl rfl rfl rfl (val_move rfl rfl) ?_
  refine Gx.valg rfl rfl rfl rfl rfl (val_len rfl Tryd.underlying22 rfl (len_base hs6)) ?_
  refine Gx.valg rfl rfl rfl rfl rfl (val_neq rfl rfl rfl) ?_
  refine Gx.val rfl rfl rfl (val_pickF rfl rfl rfl) ?_
  refine Gx.val rfl rfl rfl (val_move rfl rfl) ?_
  refine Gx.slot (t := 37) (v := .bool false) (look_decF rfl (by first | decide | omega)) ?_
  refine Gx.valg rfl rfl rfl rfl rfl (val_move rfl rfl) ?_
  refine Gx.valg rfl rfl rfl rfl rfl (val_len rfl Tryd.underlying25 rfl (len_base hcv1)) ?_
  refine Gx.valg rfl rfl rfl rfl rfl (val_move rfl rfl) ?_
  refine Gx.valg rfl rfl rfl rfl rfl (val_len rfl Tryd.underlying23 rfl (len_base hs7)) ?_
  refine Gx.valg rfl rfl rfl rfl rfl (val_neq rfl rfl rfl) ?_
  refine Gx.val rfl rfl rfl (val_pickF rfl rfl rfl) ?_
  refine Gx.done ?_
  refine Gx.thenN ?_
  refine Gx.decF rfl (by omega) ?_
  refine Gx.skip ?_
  refine Gx.thenN ?_
  refine Gx.seq ?_
  refine Gx.region ?_
  refine Gx.val rfl rfl rfl (val_assign rfl rfl) ?_
  refine Gx.done ?_
  refine Gx.thenN ?_
  refine Gx.seq ?_
  refine Gx.region ?_
  refine Gx.val rfl rfl rfl (val_assign rfl rfl) ?_
  refine Gx.done ?_
  refine Gx.thenN ?_
  refine Gx.seq ?_
  refine Gx.seq ?_
  have hhigh := hok.high
  have hfew := hok.few
  have hall := hok.all
  have hbd := BdA.run pays (bd_start hok.all)
  refine Gx.region ?_
  refine Gx.val rfl rfl rfl (val_assign rfl rfl) ?_
  refine Gx.done ?_
  refine Gx.thenN ?_
  refine Gx.block ?_
  refine Gx.loop (ι := Nat × Int × Int) (fun ξ => (ξ.1 ≤ money.length) ∧ (ξ.2.1 = (money.take ξ.1).sum) ∧ (ξ.2.2 = sumA (List.take ξ.1 (accsL (start0 money) pays))) ∧ (0 ≤ ξ.2.1 ∧ ξ.2.1 ≤ 1099511627776 * (ξ.1 : Int)) ∧ (0 ≤ ξ.2.2 ∧ ξ.2.2 ≤ 1099511627776 * (ξ.1 : Int))) (fun ξ => [(0, mv), (1, pv), (5, av2), (6, cv1), (8, .int .i64 ξ.2.1), (9, .int .i64 ξ.2.2), (10, .int .i64 ((ξ.1 : Nat) : Int))]) (fun ξ => []) (fun ξ => money.length - ξ.1) (0, 0, 0) ⟨by first | omega | (dsimp only; omega), rfl, rfl, by simp, by simp⟩ ((.cons rfl (.cons rfl (.cons rfl (.cons rfl (.cons rfl (.cons rfl (.cons rfl .nil)))))))) rfl ?_
  rintro ⟨i, was, is⟩ ⟨hi, hw, his, hwb, hisb⟩
  dsimp only at hi hw his hwb hisb
  refine Gx.know (m' := [(0, mv), (1, pv), (5, av2), (6, cv1), (8, .int .i64 was), (9, .int .i64 is), (10, .int .i64 ((i : Nat) : Int))]) (.cons rfl (.cons rfl (.cons rfl (.cons rfl (.cons rfl (.cons rfl (.cons rfl .nil))))))) (Gx.norm (l' := []) rfl ?_)
  refine Gx.seq ?_
  refine Gx.seq ?_
  refine Gx.region ?_
  refine Gx.val rfl rfl rfl (val_move rfl rfl) ?_
  refine Gx.val rfl rfl rfl (val_move rfl rfl) ?_
  refine Gx.val rfl rfl rfl (val_len rfl Tryd.underlying24 rfl (len_base hav2)) ?_
  refine Gx.val rfl rfl rfl (val_lss rfl rfl rfl) ?_
  refine Gx.done ?_
  refine Gx.thenN ?_
  refine Gx.dec rfl (fun h10 => ?_) (fun h10 => ?_)
  · refine Gx.skip ?_
    refine Gx.thenN ?_
    refine Gx.seq ?_
    refine Gx.block ?_
    refine Gx.seq ?_
    refine Gx.region ?_
    refine Gx.val rfl rfl rfl (val_move rfl rfl) ?_
    refine Gx.val rfl rfl rfl (val_move rfl rfl) ?_
    refine Gx.val rfl rfl rfl (val_move rfl rfl) ?_
    obtain ⟨x11, hx11⟩ := get_of_lt (xs := money) (k := i) (by omega)
    refine Gx.val rfl rfl rfl (val_ixa rfl Tryd.underlying22 Tryd.ty2 rfl rfl (j := i) (rfl) (reach_base hs6 hx11)) ?_
    refine Gx.val rfl rfl rfl (val_load rfl Tryd.ty2 rfl rfl (cell_base (i := 0) hs6 hx11 rfl)) ?_
    have hmx := hall x11 (List.mem_of_getElem? hx11)
    refine Gx.val rfl rfl rfl (val_add rfl rfl rfl (r := (was + x11)) (w64 rfl (by omega))) ?_
    refine Gx.val rfl rfl rfl (val_assign rfl rfl) ?_
    refine Gx.done ?_
    refine Gx.thenN ?_
    refine Gx.seq ?_
    refine Gx.region ?_
    refine Gx.val rfl rfl rfl (val_move rfl rfl) ?_
    refine Gx.val rfl rfl rfl (val_move rfl rfl) ?_
    refine Gx.val rfl rfl rfl (val_move rfl rfl) ?_
    obtain ⟨x12, hx12⟩ := get_of_lt (xs := (accsL (start0 money) pays)) (k := i) (by omega)
    refine Gx.val rfl rfl rfl (val_ixa rfl Tryd.underlying24 Tryd.ty31 rfl rfl (j := i) (rfl) (reach_base hav2 hx12)) ?_
    refine Gx.val rfl rfl rfl (Val.cast (val_fieldAddr rfl Tryd.underlying31 rfl Tryd.ty2 rfl rfl) (v' := ptr (sB av2) (sO av2 + i * 2)) rfl) ?_
    refine Gx.val rfl rfl rfl (val_load rfl Tryd.ty2 rfl rfl (cell_base (i := 0) hav2 hx12 rfl)) ?_
    have hyy := hx12
    have hyb := hbd i x12 hx12
    have hys := made_at hx12
    refine Gx.val rfl rfl rfl (val_add rfl rfl rfl (r := (is + x12.n)) (w64 rfl (by omega))) ?_
    refine Gx.val rfl rfl rfl (val_assign rfl rfl) ?_
    refine Gx.done ?_
    refine Gx.thenN ?_
    refine Gx.seq ?_
    refine Gx.region ?_
    refine Gx.val rfl rfl rfl (val_assign rfl rfl) ?_
    refine Gx.done ?_
    refine Gx.thenN ?_
    refine Gx.seq ?_
    refine Gx.seq ?_
    refine Gx.region ?_
    refine Gx.val rfl rfl rfl (val_move rfl rfl) ?_
    refine Gx.val rfl rfl rfl (val_len rfl Tryd.underlying23 rfl (len_base hs7)) ?_
    refine Gx.val rfl rfl rfl (val_move rfl rfl) ?_
    refine Gx.done ?_
    refine Gx.thenN ?_
    refine Gx.block ?_
    refine Gx.loop (ι := Nat × Nat) (fun ξ => (ξ.1 ≤ pays.length) ∧ (ξ.2 = madeN (start0 money) (pays.take ξ.1) i)) (fun ξ => [(0, mv), (1, pv), (5, av2), (6, cv1), (8, .int .i64 (was + x11)), (9, .int .i64 (is + x12.n)), (10, .int .i64 ((i : Nat) : Int)), (11, .int .i64 ((ξ.2 : Nat) : Int)), (63, pv), (64, .int .i64 ((pays.length : Nat) : Int)), (65, .int .i64 ((ξ.1 : Nat) : Int))]) (fun ξ => []) (fun ξ => pays.length - ξ.1) (0, 0) ⟨by first | omega | (dsimp only; omega), rfl⟩ ((.cons rfl (.cons rfl (.cons rfl (.cons rfl (.cons rfl (.cons rfl (.cons rfl (.cons rfl (.cons rfl (.cons rfl (.cons rfl .nil)))))))))))) rfl ?_
    rintro ⟨q, made⟩ ⟨hq, hmd⟩
    dsimp only at hq hmd
    refine Gx.know (m' := [(0, mv), (1, pv), (5, av2), (6, cv1), (8, .int .i64 (was + x11)), (9, .int .i64 (is + x12.n)), (10, .int .i64 ((i : Nat) : Int)), (11, .int .i64 ((made : Nat) : Int)), (63, pv), (64, .int .i64 ((pays.length : Nat) : Int)), (65, .int .i64 ((q : Nat) : Int))]) (.cons rfl (.cons rfl (.cons rfl (.cons rfl (.cons rfl (.cons rfl (.cons rfl (.cons rfl (.cons rfl (.cons rfl (.cons rfl .nil))))))))))) (Gx.norm (l' := []) rfl ?_)
    have hmle := madeN_le (pays.take q) (start0 money) i
    rw [List.length_take, Nat.min_eq_left hq] at hmle
    refine Gx.seq ?_
    refine Gx.region ?_
    refine Gx.val rfl rfl rfl (val_lss rfl rfl rfl) ?_
    refine Gx.done ?_
    refine Gx.thenN ?_
    refine Gx.seq ?_
    refine Gx.dec rfl (fun h13 => ?_) (fun h13 => ?_)
    · refine Gx.skip ?_
      refine Gx.thenN ?_
      refine Gx.seq ?_
      refine Gx.block ?_
      refine Gx.seq ?_
      refine Gx.region ?_
      refine Gx.val rfl rfl rfl (val_move rfl rfl) ?_
      obtain ⟨x14, hx14⟩ := get_of_lt (xs := pays) (k := q) (by omega)
      refine Gx.val rfl rfl rfl (val_ixa rfl Tryd.underlying23 Tryd.ty33 rfl rfl (j := q) (rfl) (reach_base hs7 hx14)) ?_
      refine Gx.val rfl rfl rfl (Val.cast (val_loadA rfl Tryd.ty33 rfl rfl rfl (cells_base hs7 hx14)) (v' := .agg #[.int .i64 x14.frm, .int .i64 x14.to, .int .i64 x14.ser, .int .i64 x14.n]) rfl) ?_
      refine Gx.eff rfl rfl rfl (eff_alloc rfl Tryd.ty33 (vs := [.int .i64 0, .int .i64 0, .int .i64 0, .int .i64 0]) rfl) ?_
      rintro _ _ ⟨b15, rfl, rfl⟩
      refine Gx.val rfl rfl rfl (val_assign rfl rfl) ?_
      refine Gx.eff0 rfl rfl (eff_store rfl Tryd.ty33 rfl rfl (us := [.int .i64 x14.frm, .int .i64 x14.to, .int .i64 x14.ser, .int .i64 x14.n]) rfl rfl rfl (k := 0) rfl (rfl) (vs' := [.int .i64 x14.frm, .int .i64 x14.to, .int .i64 x14.ser, .int .i64 x14.n]) (rfl) (l' := [Hp.rec_ b15 [.int .i64 x14.frm, .int .i64 x14.to, .int .i64 x14.ser, .int .i64 x14.n]]) rfl) ?_
      rintro _ _ rfl
      refine Gx.done ?_
      refine Gx.thenN ?_
      refine Gx.seq ?_
      refine Gx.region ?_
      refine Gx.val rfl rfl rfl (Val.cast (val_fieldAddr rfl Tryd.underlying33 rfl Tryd.ty3 rfl rfl) (v' := ptr b15 0) rfl) ?_
      refine Gx.val rfl rfl rfl (val_load rfl Tryd.ty3 rfl rfl (cell_rec (k := 0) rfl rfl)) ?_
      refine Gx.val rfl rfl rfl (val_move rfl rfl) ?_
      refine Gx.val rfl rfl rfl (val_eql rfl rfl rfl) ?_
      refine Gx.val rfl rfl rfl (val_move rfl rfl) ?_
      refine Gx.cases (t := 74) rfl (fun h16 => ?_) (fun h16 => ?_)
      · refine Gx.valg rfl rfl rfl rfl rfl (val_move rfl rfl) ?_
        refine Gx.valg rfl rfl rfl rfl rfl (val_move rfl rfl) ?_
        obtain ⟨x17, hx17⟩ := get_of_lt (xs := (codesL (start0 money) pays)) (k := q) (by omega)
        refine Gx.valg rfl rfl rfl rfl rfl (val_ixa rfl Tryd.underlying25 Tryd.ty26 rfl rfl (j := q) (rfl) (reach_base hcv1 hx17)) ?_
        refine Gx.valg rfl rfl rfl rfl rfl (val_load rfl Tryd.ty26 rfl rfl (cell_base (i := 0) hcv1 hx17 rfl)) ?_
        refine Gx.valg rfl rfl rfl rfl rfl (val_eql rfl rfl rfl) ?_
        refine Gx.val rfl rfl rfl (val_pickT rfl rfl rfl) ?_
        refine Gx.done ?_
        refine Gx.thenN ?_
        refine Gx.dec rfl (fun h18 => ?_) (fun h18 => ?_)
        · refine Gx.region ?_
          refine Gx.val rfl rfl rfl (val_move rfl rfl) ?_
          refine Gx.val rfl rfl rfl (val_add rfl rfl rfl (r := ((made + 1 : Nat) : Int)) (w64 (by omega) (by omega))) ?_
          refine Gx.val rfl rfl rfl (val_assign rfl rfl) ?_
          refine Gx.done ?_
          refine Gx.blkN ?_
          refine Gx.thenN ?_
          refine Gx.region ?_
          refine Gx.val rfl rfl rfl (val_add rfl rfl rfl (r := ((q + 1 : Nat) : Int)) (w64 (by omega) (by omega))) ?_
          refine Gx.val rfl rfl rfl (val_move rfl rfl) ?_
          refine Gx.done ?_
          refine Gx.thenN ?_
          refine Gx.drop 0 rfl ?_
          exact Gx.round (q + 1, made + 1) ⟨by first | omega | (dsimp only; omega), by have hcc : x17 = payC (accsL (start0 money) (pays.take q)) x14 := Option.some.inj (hx17.symm.trans (codes_at hx14)); rw [madeN_snoc hx14, ← hmd, if_pos ⟨by omega, by omega⟩]⟩ (by first | omega | (dsimp only; omega)) ((.cons rfl (.cons rfl (.cons rfl (.cons rfl (.cons rfl (.cons rfl (.cons rfl (.cons rfl (.cons rfl (.cons rfl (.cons rfl .nil)))))))))))) rfl
        · refine Gx.skip ?_
          refine Gx.blkN ?_
          refine Gx.thenN ?_
          refine Gx.region ?_
          refine Gx.val rfl rfl rfl (val_add rfl rfl rfl (r := ((q + 1 : Nat) : Int)) (w64 (by omega) (by omega))) ?_
          refine Gx.val rfl rfl rfl (val_move rfl rfl) ?_
          refine Gx.done ?_
          refine Gx.thenN ?_
          refine Gx.drop 0 rfl ?_
          exact Gx.round (q + 1, made) ⟨by first | omega | (dsimp only; omega), by have hcc : x17 = payC (accsL (start0 money) (pays.take q)) x14 := Option.some.inj (hx17.symm.trans (codes_at hx14)); rw [madeN_snoc hx14, ← hmd, if_neg (fun h => by have hin := (pay_ok h.1).1; unfold inA at hin; have h1 := h.1; have h2 := h.2; omega)]; rfl⟩ (by first | omega | (dsimp only; omega)) ((.cons rfl (.cons rfl (.cons rfl (.cons rfl (.cons rfl (.cons rfl (.cons rfl (.cons rfl (.cons rfl (.cons rfl (.cons rfl .nil)))))))))))) rfl
      · refine Gx.skipg rfl rfl rfl rfl rfl rfl ?_
        refine Gx.skipg rfl rfl rfl rfl rfl rfl ?_
        refine Gx.skipg rfl rfl rfl rfl rfl rfl ?_
        refine Gx.skipg rfl rfl rfl rfl rfl rfl ?_
        refine Gx.skipg rfl rfl rfl rfl rfl rfl ?_
        refine Gx.val rfl rfl rfl (val_pickF rfl rfl rfl) ?_
        refine Gx.done ?_
        refine Gx.thenN ?_
        refine Gx.f rfl ?_
        refine Gx.skip ?_
        refine Gx.blkN ?_
        refine Gx.thenN ?_
        refine Gx.region ?_
        refine Gx.val rfl rfl rfl (val_add rfl rfl rfl (r := ((q + 1 : Nat) : Int)) (w64 (by omega) (by omega))) ?_
        refine Gx.val rfl rfl rfl (val_move rfl rfl) ?_
        refine Gx.done ?_
        refine Gx.thenN ?_
        refine Gx.drop 0 rfl ?_
        exact Gx.round (q + 1, made) ⟨by first | omega | (dsimp only; omega), by rw [madeN_snoc hx14, ← hmd, if_neg (fun h => by have hin := (pay_ok h.1).1; unfold inA at hin; have h1 := h.1; have h2 := h.2; omega)]; rfl⟩ (by first | omega | (dsimp only; omega)) ((.cons rfl (.cons rfl (.cons rfl (.cons rfl (.cons rfl (.cons rfl (.cons rfl (.cons rfl (.cons rfl (.cons rfl (.cons rfl .nil)))))))))))) rfl
    · refine Gx.exit ?_
      refine Gx.thenE ?_
      refine Gx.thenE ?_
      refine Gx.blkE ?_
      refine Gx.thenN ?_
      refine Gx.seq ?_
      obtain rfl : q = pays.length := by omega
      rw [List.take_length] at hmd
      refine Gx.region ?_
      refine Gx.val rfl rfl rfl (val_move rfl rfl) ?_
      refine Gx.val rfl rfl rfl (val_move rfl rfl) ?_
      refine Gx.val rfl rfl rfl (val_ixa rfl Tryd.underlying24 Tryd.ty31 rfl rfl (j := i) (rfl) (reach_base hav2 hx12)) ?_
      refine Gx.val rfl rfl rfl (Val.cast (val_fieldAddr rfl Tryd.underlying31 rfl Tryd.ty2 rfl rfl) (v' := ptr (sB av2) (sO av2 + i * 2)) rfl) ?_
      refine Gx.val rfl rfl rfl (val_load rfl Tryd.ty2 rfl rfl (cell_base (i := 0) hav2 hx12 rfl)) ?_
      refine Gx.val rfl rfl rfl (val_lss rfl rfl rfl) ?_
      refine Gx.val rfl rfl rfl (val_move rfl rfl) ?_
      refine Gx.slot (t := 90) (v := .bool false) (look_decF rfl (by omega)) ?_
      refine Gx.valg rfl rfl rfl rfl rfl (val_move rfl rfl) ?_
      refine Gx.valg rfl rfl rfl rfl rfl (val_move rfl rfl) ?_
      refine Gx.valg rfl rfl rfl rfl rfl (val_ixa rfl Tryd.underlying24 Tryd.ty31 rfl rfl (j := i) (rfl) (reach_base hav2 hx12)) ?_
      refine Gx.valg rfl rfl rfl rfl rfl (Val.cast (val_fieldAddr rfl Tryd.underlying31 rfl Tryd.ty2 rfl rfl) (v' := ptr (sB av2) (sO av2 + i * 2)) rfl) ?_
      refine Gx.valg rfl rfl rfl rfl rfl (val_load rfl Tryd.ty2 rfl rfl (cell_base (i := 0) hav2 hx12 rfl)) ?_
      refine Gx.valg rfl rfl rfl rfl rfl (val_gtr rfl rfl rfl) ?_
      refine Gx.val rfl rfl rfl (val_pickF rfl rfl rfl) ?_
      refine Gx.val rfl rfl rfl (val_move rfl rfl) ?_
      refine Gx.slot (t := 98) (v := .bool false) (look_decF rfl (by omega)) ?_
      refine Gx.valg rfl rfl rfl rfl rfl (val_move rfl rfl) ?_
      refine Gx.valg rfl rfl rfl rfl rfl (val_move rfl rfl) ?_
      refine Gx.valg rfl rfl rfl rfl rfl (val_ixa rfl Tryd.underlying24 Tryd.ty31 rfl rfl (j := i) (rfl) (reach_base hav2 hx12)) ?_
      refine Gx.valg rfl rfl rfl rfl rfl (Val.cast (val_fieldAddr rfl Tryd.underlying31 rfl Tryd.ty3 rfl rfl) (v' := ptr (sB av2) (sO av2 + i * 2 + 1)) rfl) ?_
      refine Gx.valg rfl rfl rfl rfl rfl (val_load rfl Tryd.ty3 rfl rfl (cell_base (i := 1) hav2 hx12 rfl)) ?_
      refine Gx.valg rfl rfl rfl rfl rfl (val_move rfl rfl) ?_
      refine Gx.valg rfl rfl rfl rfl rfl (val_neq rfl rfl rfl) ?_
      refine Gx.val rfl rfl rfl (val_pickF rfl rfl rfl) ?_
      refine Gx.done ?_
      refine Gx.thenN ?_
      refine Gx.decF rfl (by omega) ?_
      refine Gx.skip ?_
      refine Gx.blkN ?_
      refine Gx.thenN ?_
      refine Gx.region ?_
      refine Gx.val rfl rfl rfl (val_move rfl rfl) ?_
      refine Gx.val rfl rfl rfl (val_add rfl rfl rfl (r := ((i + 1 : Nat) : Int)) (w64 (by omega) (by omega))) ?_
      refine Gx.val rfl rfl rfl (val_assign rfl rfl) ?_
      refine Gx.done ?_
      refine Gx.thenN ?_
      exact Gx.round (i + 1, (was + x11), (is + x12.n)) ⟨by first | omega | (dsimp only; omega), by rw [sum_snoc hx11, hw], by rw [sumA_snoc hyy, his], by dsimp only; omega, by dsimp only; omega⟩ (by first | omega | (dsimp only; omega)) ((.cons rfl (.cons rfl (.cons rfl (.cons rfl (.cons rfl (.cons rfl (.cons rfl .nil)))))))) rfl
  · refine Gx.exit ?_
    refine Gx.thenE ?_
    refine Gx.thenE ?_
    refine Gx.blkE ?_
    refine Gx.thenN ?_
    refine Gx.seq ?_
    refine Gx.region ?_
    refine Gx.val rfl rfl rfl (val_move rfl rfl) ?_
    refine Gx.val rfl rfl rfl (val_move rfl rfl) ?_
    refine Gx.val rfl rfl rfl (val_eql rfl rfl rfl) ?_
    refine Gx.val rfl rfl rfl (val_assign rfl rfl) ?_
    refine Gx.done ?_
    refine Gx.thenN ?_
    refine Gx.ret ?_
    refine Gx.ret1B hW5 Tryd.results3 rfl ?_
    obtain rfl : i = money.length := by omega
    rw [List.take_length] at hw
    rw [List.take_of_length_le (by omega), sumA_run, sumA_start] at his
    exact congrArg Value.bool (decide_eq_true (by omega))

theorem keeps_any {W : World} {mv pv : Value} {money : List Int} {pays : List Py} (hg : HG W) (hm : SlS FM 1 W mv money) (hp : SlS FP 4 W pv pays) :
    Calls Tryd.prog 3 #[mv, pv] W fun e w' => e = .returned (.bool true) ∧ Below W.heap.size W w' := by
  by_cases h : OkL money pays.length
  · exact keeps_yes hg hm hp h
  · exact keeps_no hg hm hp h
end Go.Proofs.YtbdlpomcmkojmaaDoor
