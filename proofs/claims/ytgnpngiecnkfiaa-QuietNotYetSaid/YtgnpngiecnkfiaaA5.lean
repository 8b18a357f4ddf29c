/- A script played. The walk. No condition. -/
import Derived.Test.YtgnpngiecnkfiaaD5
namespace Go.Proofs.Ytgnpngiecnkfiaa
open Go.RowKit
set_option linter.unusedVariables false
set_option linter.unusedSimpArgs false
set_option maxRecDepth 100000


theorem play_no {W : World} {k : Int} {sv : Value} {cs : List Cm} (hs : SlS FC 3 W sv cs) (hbad : k < 1 ∨ 6 < k ∨ 120 < (cs.length : Int)) :
    Calls Try.prog 7 #[.int .i64 k, sv] W fun e w' => e = .returned (.tuple #[.agg #[.slice none 0 0, .slice none 0 0, .slice none 0 0, .int .i64 0, .bool false], .int .i64 1]) ∧ Below W.heap.size W w' := by
  refine calls_pure (Gx.enter (l := []) Try.func7 rfl Try.ntmps7 rfl (Sat.start W) ?_)
  refine Gx.know (m' := [(0, .int .i64 k), (1, sv)]) (.cons rfl (.cons rfl .nil)) ?_
  refine Gx.seq ?_
  refine Gx.region ?_
  refine Gx.eff rfl rfl rfl (eff_alloc rfl Try.ty26 (vs := [.slice none 0 0, .slice none 0 0, .slice none 0 0, .int .i64 0, .bool false]) rfl) ?_
  rintro _ _ ⟨b1, rfl, rfl⟩
  refine Gx.val rfl rfl rfl (val_assign rfl rfl) ?_
  refine Gx.done ?_
  refine Gx.thenN ?_
  refine Gx.seq ?_
  refine Gx.seq ?_
  refine Gx.region ?_
  refine Gx.val rfl rfl rfl (val_move rfl rfl) ?_
  refine Gx.val rfl rfl rfl (val_lss rfl rfl rfl) ?_
  refine Gx.val rfl rfl rfl (val_move rfl rfl) ?_
  refine Gx.cases (t := 18) rfl (fun h2 => ?_) (fun h2 => ?_)
  · refine Gx.skipg rfl rfl rfl rfl rfl rfl ?_
    refine Gx.skipg rfl rfl rfl rfl rfl rfl ?_
    refine Gx.val rfl rfl rfl (val_pickT rfl rfl rfl) ?_
    refine Gx.val rfl rfl rfl (val_move rfl rfl) ?_
    refine Gx.skipg rfl rfl rfl rfl rfl rfl ?_
    refine Gx.skipg rfl rfl rfl rfl rfl rfl ?_
    refine Gx.skipg rfl rfl rfl rfl rfl rfl ?_
    refine Gx.val rfl rfl rfl (val_pickT rfl rfl rfl) ?_
    refine Gx.done ?_
    refine Gx.thenN ?_
    refine Gx.t rfl ?_
    refine Gx.seq ?_
    refine Gx.region ?_
    refine Gx.val rfl rfl rfl (val_build rfl (qs := []) rfl rfl (fun w => by go_simp) (v := .agg #[.slice none 0 0, .slice none 0 0, .slice none 0 0, .int .i64 0, .bool false])) ?_
    refine Gx.eff0 rfl rfl (eff_store rfl Try.ty26 rfl rfl (us := [.slice none 0 0, .slice none 0 0, .slice none 0 0, .int .i64 0, .bool false]) rfl rfl rfl (k := 0) rfl rfl (vs' := [.slice none 0 0, .slice none 0 0, .slice none 0 0, .int .i64 0, .bool false]) rfl (l' := [Hp.rec_ b1 [.slice none 0 0, .slice none 0 0, .slice none 0 0, .int .i64 0, .bool false]]) rfl) ?_
    rintro _ _ rfl
    refine Gx.val rfl rfl rfl (val_assign rfl rfl) ?_
    refine Gx.done ?_
    refine Gx.thenN ?_
    refine Gx.ret ?_
    refine Gx.thenR ?_
    refine Gx.retC2 Try.results7 Try.ty26 rfl rfl (us := [.slice none 0 0, .slice none 0 0, .slice none 0 0, .int .i64 0, .bool false]) rfl (k := 0) rfl rfl ?_
    rfl
  · refine Gx.valg rfl rfl rfl rfl rfl (val_move rfl rfl) ?_
    refine Gx.valg rfl rfl rfl rfl rfl (val_gtr rfl rfl rfl) ?_
    refine Gx.val rfl rfl rfl (val_pickF rfl rfl rfl) ?_
    refine Gx.val rfl rfl rfl (val_move rfl rfl) ?_
    refine Gx.cases (t := 22) rfl (fun h3 => ?_) (fun h3 => ?_)
    · refine Gx.skipg rfl rfl rfl rfl rfl rfl ?_
      refine Gx.skipg rfl rfl rfl rfl rfl rfl ?_
      refine Gx.skipg rfl rfl rfl rfl rfl rfl ?_
      refine Gx.val rfl rfl rfl (val_pickT rfl rfl rfl) ?_
      refine Gx.done ?_
      refine Gx.thenN ?_
      refine Gx.t rfl ?_
      refine Gx.seq ?_
      refine Gx.region ?_
      refine Gx.val rfl rfl rfl (val_build rfl (qs := []) rfl rfl (fun w => by go_simp) (v := .agg #[.slice none 0 0, .slice none 0 0, .slice none 0 0, .int .i64 0, .bool false])) ?_
      refine Gx.eff0 rfl rfl (eff_store rfl Try.ty26 rfl rfl (us := [.slice none 0 0, .slice none 0 0, .slice none 0 0, .int .i64 0, .bool false]) rfl rfl rfl (k := 0) rfl rfl (vs' := [.slice none 0 0, .slice none 0 0, .slice none 0 0, .int .i64 0, .bool false]) rfl (l' := [Hp.rec_ b1 [.slice none 0 0, .slice none 0 0, .slice none 0 0, .int .i64 0, .bool false]]) rfl) ?_
      rintro _ _ rfl
      refine Gx.val rfl rfl rfl (val_assign rfl rfl) ?_
      refine Gx.done ?_
      refine Gx.thenN ?_
      refine Gx.ret ?_
      refine Gx.thenR ?_
      refine Gx.retC2 Try.results7 Try.ty26 rfl rfl (us := [.slice none 0 0, .slice none 0 0, .slice none 0 0, .int .i64 0, .bool false]) rfl (k := 0) rfl rfl ?_
      rfl
    · refine Gx.valg rfl rfl rfl rfl rfl (val_move rfl rfl) ?_
      refine Gx.valg rfl rfl rfl rfl rfl (val_len rfl Try.underlying22 rfl (len_base hs)) ?_
      refine Gx.valg rfl rfl rfl rfl rfl (val_gtr rfl rfl rfl) ?_
      refine Gx.val rfl rfl rfl (val_pickF rfl rfl rfl) ?_
      refine Gx.done ?_
      refine Gx.thenN ?_
      refine Gx.dec rfl (fun h4 => ?_) (fun h4 => ?_)
      · refine Gx.seq ?_
        refine Gx.region ?_
        refine Gx.val rfl rfl rfl (val_build rfl (qs := []) rfl rfl (fun w => by go_simp) (v := .agg #[.slice none 0 0, .slice none 0 0, .slice none 0 0, .int .i64 0, .bool false])) ?_
        refine Gx.eff0 rfl rfl (eff_store rfl Try.ty26 rfl rfl (us := [.slice none 0 0, .slice none 0 0, .slice none 0 0, .int .i64 0, .bool false]) rfl rfl rfl (k := 0) rfl rfl (vs' := [.slice none 0 0, .slice none 0 0, .slice none 0 0, .int .i64 0, .bool false]) rfl (l' := [Hp.rec_ b1 [.slice none 0 0, .slice none 0 0, .slice none 0 0, .int .i64 0, .bool false]]) rfl) ?_
        rintro _ _ rfl
        refine Gx.val rfl rfl rfl (val_assign rfl rfl) ?_
        refine Gx.done ?_
        refine Gx.thenN ?_
        refine Gx.ret ?_
        refine Gx.thenR ?_
        refine Gx.retC2 Try.results7 Try.ty26 rfl rfl (us := [.slice none 0 0, .slice none 0 0, .slice none 0 0, .int .i64 0, .bool false]) rfl (k := 0) rfl rfl ?_
        rfl
      · exfalso; omega

def PlayR (n : Nat) (cs : List Cm) (v : Value) (w : World) : Prop := ∃ cv wv bv, v = .tuple #[.agg #[cv, wv, bv, .int .i64 ((awQ (stQ n (qs0 n) cs) 2 : Nat) : Int), .bool (stQ n (qs0 n) cs).dn], .int .i64 0] ∧
  SlS FZ 1 w cv (codesQ n (qs0 n) cs) ∧ SlS FB 1 w wv ((stQ n (qs0 n) cs).ps.map (·.works)) ∧ SlS FB 1 w bv ((stQ n (qs0 n) cs).ps.map (·.bound))
theorem play_ok {W : World} {n : Nat} {sv : Value} {cs : List Cm} (hs : SlS FC 3 W sv cs) (h1 : 1 ≤ n) (h6 : n ≤ 6) (hm : cs.length ≤ 120) :
    Calls Try.prog 7 #[.int .i64 ((n : Nat) : Int), sv] W fun e w' => ∃ v, e = .returned v ∧ PlayR n cs v w' ∧ Below W.heap.size W w' := by
  refine calls_some (S := fun v l => ∃ cv wv bv R, v = .tuple #[.agg #[cv, wv, bv, .int .i64 ((awQ (stQ n (qs0 n) cs) 2 : Nat) : Int), .bool (stQ n (qs0 n) cs).dn], .int .i64 0] ∧ l = [Hp.own FZ 1 cv (codesQ n (qs0 n) cs), Hp.own FB 1 wv ((stQ n (qs0 n) cs).ps.map (·.works)), Hp.own FB 1 bv ((stQ n (qs0 n) cs).ps.map (·.bound)), R]) (Gx.enter (l := []) Try.func7 rfl Try.ntmps7 rfl (Sat.start W) ?_) ?_
  refine Gx.know (m' := [(0, .int .i64 ((n : Nat) : Int)), (1, sv)]) (.cons rfl (.cons rfl .nil)) ?_
  refine Gx.seq ?_
  refine Gx.region ?_
  refine Gx.eff rfl rfl rfl (eff_alloc rfl Try.ty26 (vs := [.slice none 0 0, .slice none 0 0, .slice none 0 0, .int .i64 0, .bool false]) rfl) ?_
  rintro _ _ ⟨b1, rfl, rfl⟩
  refine Gx.val rfl rfl rfl (val_assign rfl rfl) ?_
  refine Gx.done ?_
  refine Gx.thenN ?_
  refine Gx.seq ?_
  refine Gx.seq ?_
  refine Gx.region ?_
  refine Gx.val rfl rfl rfl (val_move rfl rfl) ?_
  refine Gx.val rfl rfl rfl (val_lss rfl rfl rfl) ?_
  refine Gx.val rfl rfl rfl (val_move rfl rfl) ?_
  refine Gx.slot (t := 18) (v := .bool false) (look_decF rfl (by omega)) ?_
  refine Gx.valg rfl rfl rfl rfl rfl (val_move rfl rfl) ?_
  refine Gx.valg rfl rfl rfl rfl rfl (val_gtr rfl rfl rfl) ?_
  refine Gx.val rfl rfl rfl (val_pickF rfl rfl rfl) ?_
  refine Gx.val rfl rfl rfl (val_move rfl rfl) ?_
  refine Gx.slot (t := 22) (v := .bool false) (look_decF rfl (by omega)) ?_
  refine Gx.valg rfl rfl rfl rfl rfl (val_move rfl rfl) ?_
  refine Gx.valg rfl rfl rfl rfl rfl (val_len rfl Try.underlying22 rfl (len_base hs)) ?_
  refine Gx.valg rfl rfl rfl rfl rfl (val_gtr rfl rfl rfl) ?_
  refine Gx.val rfl rfl rfl (val_pickF rfl rfl rfl) ?_
  refine Gx.done ?_
  refine Gx.thenN ?_
  refine Gx.decF rfl (by omega) ?_
  refine Gx.skip ?_
  refine Gx.thenN ?_
  refine Gx.seq ?_
  refine Gx.region ?_
  refine Gx.val rfl rfl rfl (val_move rfl rfl) ?_
  refine Gx.eff rfl rfl rfl (eff_makeSlice (n := n) (f := FP) rfl Try.underlying36 Try.ty41 rfl rfl (rfl) (rfl) FP_len (⟨false, false, some 0, 0⟩ : Pr) rfl (by omega) (by omega)) ?_
  rintro v2 _ ⟨hiv2, rfl⟩
  refine Gx.eff rfl rfl rfl (eff_makeMap 45 pairL vN rfl) ?_
  rintro _ _ ⟨b3, rfl, rfl⟩
  refine Gx.eff rfl rfl rfl (eff_makeMap 45 pairL vN rfl) ?_
  rintro _ _ ⟨b4, rfl, rfl⟩
  refine Gx.val rfl rfl rfl (val_build rfl (qs := [(0, v2), (1, .map (some b3)), (2, .map (some b4))]) rfl rfl (fun w => by obtain ⟨_, _, _, rfl⟩ := hiv2; go_simp) (v := .agg #[v2, .map (some b3), .map (some b4), .bool false])) ?_
  refine Gx.eff rfl rfl rfl (eff_box rfl rfl (vs := [v2, .map (some b3), .map (some b4), .bool false]) rfl) ?_
  rintro _ _ ⟨b5, rfl, rfl⟩
  refine Gx.val rfl rfl rfl (val_assign rfl rfl) ?_
  refine Gx.done ?_
  refine Gx.thenN ?_
  refine Gx.seq ?_
  refine Gx.region ?_
  refine Gx.val rfl rfl rfl (val_move rfl rfl) ?_
  refine Gx.val rfl rfl rfl (val_nilCheck rfl rfl) ?_
  refine Gx.val rfl rfl rfl (Val.cast (val_fieldAddr rfl Try.underlying39 rfl Try.ty36 rfl rfl) (v' := ptr b5 0) rfl) ?_
  refine Gx.val rfl rfl rfl (val_load rfl Try.ty36 rfl rfl (cell_rec (k := 0) rfl rfl)) ?_
  refine Gx.val rfl rfl rfl (val_build rfl (qs := [(0, .bool true), (1, .bool true), (2, .int .i64 (-1))]) rfl rfl (fun w => by go_simp) (v := .agg #[.bool true, .bool true, .int .i64 (-1), .int .i64 0])) ?_
  obtain ⟨x6, hx6⟩ := get_of_lt (xs := List.replicate n (⟨false, false, some 0, 0⟩ : Pr)) (k := 0) (by first | omega | (simp; omega))
  refine Gx.val rfl rfl rfl (val_ixa rfl Try.underlying36 Try.ty41 rfl rfl (j := 0) (rfl) (reach_own (k := 3) rfl hx6)) ?_
  refine Gx.eff0 rfl rfl (eff_storeElA (⟨true, true, none, 0⟩ : Pr) rfl Try.ty41 rfl rfl rfl FP_one (k := 3) rfl FP_len hx6 (l' := [Hp.rec_ b5 [v2, .map (some b3), .map (some b4), .bool false], Hp.map Try.prog 45 pairL vN b4 ([]), Hp.map Try.prog 45 pairL vN b3 ([]), Hp.own FP 4 v2 ((List.replicate n (⟨false, false, some 0, 0⟩ : Pr)).set 0 (⟨true, true, none, 0⟩ : Pr)), Hp.rec_ b1 [.slice none 0 0, .slice none 0 0, .slice none 0 0, .int .i64 0, .bool false]]) rfl) ?_
  rintro _ _ rfl
  refine Gx.done ?_
  refine Gx.thenN ?_
  refine Gx.seq ?_
  refine Gx.region ?_
  refine Gx.eff rfl rfl rfl (eff_alloc rfl Try.ty26 (vs := [.slice none 0 0, .slice none 0 0, .slice none 0 0, .int .i64 0, .bool false]) rfl) ?_
  rintro _ _ ⟨b7, rfl, rfl⟩
  refine Gx.done ?_
  refine Gx.thenN ?_
  refine Gx.seq ?_
  refine Gx.seq ?_
  refine Gx.front 2 rfl ?_
  refine Gx.front 3 rfl ?_
  refine Gx.front 4 rfl ?_
  refine Gx.front 4 rfl ?_
  refine Gx.norm (l' := [Hp.rec_ b5 [v2, .map (some b3), .map (some b4), .bool false], Hp.own FP 4 v2 ((List.replicate n (⟨false, false, some 0, 0⟩ : Pr)).set 0 (⟨true, true, none, 0⟩ : Pr)), Hp.map Try.prog 45 pairL vN b3 ([]), Hp.map Try.prog 45 pairL vN b4 ([]), Hp.rec_ b7 [.slice none 0 0, .slice none 0 0, .slice none 0 0, .int .i64 0, .bool false], Hp.rec_ b1 [.slice none 0 0, .slice none 0 0, .slice none 0 0, .int .i64 0, .bool false]]) rfl ?_
  refine Gx.sat (l' := [qH b5 (qs0 n), Hp.rec_ b7 [.slice none 0 0, .slice none 0 0, .slice none 0 0, .int .i64 0, .bool false], Hp.rec_ b1 [.slice none 0 0, .slice none 0 0, .slice none 0 0, .int .i64 0, .bool false]]) (fun w H => (qH.shut (s := qs0 n) H)) ?_
  refine Gx.ownNil FZ 1 ?_
  refine Gx.region ?_
  refine Gx.val rfl rfl rfl (val_move rfl rfl) ?_
  refine Gx.val rfl rfl rfl (val_len rfl Try.underlying22 rfl (len_base hs)) ?_
  refine Gx.val rfl rfl rfl (val_move rfl rfl) ?_
  refine Gx.done ?_
  refine Gx.thenN ?_
  refine Gx.block ?_
  refine Gx.front 1 rfl ?_
  refine Gx.front 3 rfl ?_
  refine Gx.front 3 rfl ?_
  refine Gx.front 3 rfl ?_
  refine Gx.loop (ι := Nat × Value) (fun ξ => (ξ.1 ≤ cs.length)) (fun ξ => [(4, ptr b1 0), (6, ptr b5 0), (7, ptr b7 0), (40, sv), (41, .int .i64 ((cs.length : Nat) : Int)), (42, .int .i64 ((ξ.1 : Nat) : Int))]) (fun ξ => [Hp.own FZ 1 ξ.2 (codesQ n (qs0 n) (cs.take ξ.1)), Hp.rec_ b7 [ξ.2, .slice none 0 0, .slice none 0 0, .int .i64 0, .bool false], Hp.rec_ b1 [.slice none 0 0, .slice none 0 0, .slice none 0 0, .int .i64 0, .bool false], qH b5 (stQ n (qs0 n) (cs.take ξ.1))]) (fun ξ => cs.length - ξ.1) (0, (.slice none 0 0)) (by omega) ((.cons rfl (.cons rfl (.cons rfl (.cons rfl (.cons rfl (.cons rfl .nil))))))) rfl ?_
  rintro ⟨i, cv⟩ hi
  dsimp only at hi
  refine Gx.know (m' := [(4, ptr b1 0), (6, ptr b5 0), (7, ptr b7 0), (40, sv), (41, .int .i64 ((cs.length : Nat) : Int)), (42, .int .i64 ((i : Nat) : Int))]) (.cons rfl (.cons rfl (.cons rfl (.cons rfl (.cons rfl (.cons rfl .nil)))))) (Gx.norm (l' := [Hp.own FZ 1 cv (codesQ n (qs0 n) (cs.take i)), Hp.rec_ b7 [cv, .slice none 0 0, .slice none 0 0, .int .i64 0, .bool false], Hp.rec_ b1 [.slice none 0 0, .slice none 0 0, .slice none 0 0, .int .i64 0, .bool false], qH b5 (stQ n (qs0 n) (cs.take i))]) rfl ?_)
  have hbi : BdQ 240 (stQ n (qs0 n) (cs.take i)) := ((BdQ.zero n).run (n := n) (cs.take i)).mono (by rw [List.length_take]; omega)
  have hli : (stQ n (qs0 n) (cs.take i)).ps.length = n := by rw [stQ_len, qs0_len]
  have hci : (codesQ n (qs0 n) (cs.take i)).length = i := by rw [codesQ_len, List.length_take]; omega
  refine Gx.seq ?_
  refine Gx.region ?_
  refine Gx.val rfl rfl rfl (val_lss rfl rfl rfl) ?_
  refine Gx.done ?_
  refine Gx.thenN ?_
  refine Gx.seq ?_
  refine Gx.dec rfl (fun h8 => ?_) (fun h8 => ?_)
  · refine Gx.skip ?_
    refine Gx.thenN ?_
    refine Gx.seq ?_
    refine Gx.block ?_
    refine Gx.seq ?_
    refine Gx.region ?_
    obtain ⟨x9, hx9⟩ := get_of_lt (xs := cs) (k := i) (by first | omega | (simp; omega))
    refine Gx.val rfl rfl rfl (val_ixa rfl Try.underlying22 Try.ty32 rfl rfl (j := i) (rfl) (reach_base hs hx9)) ?_
    refine Gx.val rfl rfl rfl (Val.cast (val_loadA rfl Try.ty32 rfl rfl rfl (cells_base hs hx9)) (v' := .agg #[.int .i64 x9.kind, .int .i64 x9.who, .int .i64 x9.other]) rfl) ?_
    refine Gx.eff rfl rfl rfl (eff_alloc rfl Try.ty32 (vs := [.int .i64 0, .int .i64 0, .int .i64 0]) rfl) ?_
    rintro _ _ ⟨b10, rfl, rfl⟩
    refine Gx.eff0 rfl rfl (eff_store rfl Try.ty32 rfl rfl (us := [.int .i64 x9.kind, .int .i64 x9.who, .int .i64 x9.other]) rfl rfl rfl (k := 0) rfl rfl (vs' := [.int .i64 x9.kind, .int .i64 x9.who, .int .i64 x9.other]) rfl (l' := [Hp.rec_ b10 [.int .i64 x9.kind, .int .i64 x9.who, .int .i64 x9.other], Hp.own FZ 1 cv (codesQ n (qs0 n) (cs.take i)), Hp.rec_ b7 [cv, .slice none 0 0, .slice none 0 0, .int .i64 0, .bool false], Hp.rec_ b1 [.slice none 0 0, .slice none 0 0, .slice none 0 0, .int .i64 0, .bool false], qH b5 (stQ n (qs0 n) (cs.take i))]) rfl) ?_
    rintro _ _ rfl
    refine Gx.done ?_
    refine Gx.thenN ?_
    refine Gx.regionO (fun j => j == 4 || j == 5 || j == 6) 8 [0, 1, 2, 3, 4, 5, 6, 7] (fun us => match us with | [] => [Hp.rec_ b10 [.int .i64 x9.kind, .int .i64 x9.who, .int .i64 x9.other], Hp.own FZ 1 cv (codesQ n (qs0 n) (cs.take i)), Hp.rec_ b7 [cv, .slice none 0 0, .slice none 0 0, .int .i64 0, .bool false], Hp.rec_ b1 [.slice none 0 0, .slice none 0 0, .slice none 0 0, .int .i64 0, .bool false], qH b5 (stQ n (qs0 n) (cs.take i))] | [u1] => [qH b5 (stepQ n (stQ n (qs0 n) (cs.take i)) x9).2, Hp.rec_ b10 [.int .i64 x9.kind, .int .i64 x9.who, .int .i64 x9.other], Hp.own FZ 1 cv (codesQ n (qs0 n) (cs.take i)), Hp.rec_ b7 [cv, .slice none 0 0, .slice none 0 0, .int .i64 0, .bool false], Hp.rec_ b1 [.slice none 0 0, .slice none 0 0, .slice none 0 0, .int .i64 0, .bool false]] | [u1, u2] => [Hp.rec_ (sB u2) [.int .i64 ((stepQ n (stQ n (qs0 n) (cs.take i)) x9).1)], qH b5 (stepQ n (stQ n (qs0 n) (cs.take i)) x9).2, Hp.rec_ b10 [.int .i64 x9.kind, .int .i64 x9.who, .int .i64 x9.other], Hp.own FZ 1 cv (codesQ n (qs0 n) (cs.take i)), Hp.rec_ b7 [cv, .slice none 0 0, .slice none 0 0, .int .i64 0, .bool false], Hp.rec_ b1 [.slice none 0 0, .slice none 0 0, .slice none 0 0, .int .i64 0, .bool false]] | u1 :: u2 :: u3 :: _ => [qH b5 (stepQ n (stQ n (qs0 n) (cs.take i)) x9).2, Hp.rec_ b10 [.int .i64 x9.kind, .int .i64 x9.who, .int .i64 x9.other], Hp.own FZ 1 u3 ((codesQ n (qs0 n) (cs.take i)) ++ [(stepQ n (stQ n (qs0 n) (cs.take i)) x9).1]), Hp.rec_ b7 [cv, .slice none 0 0, .slice none 0 0, .int .i64 0, .bool false], Hp.rec_ b1 [.slice none 0 0, .slice none 0 0, .slice none 0 0, .int .i64 0, .bool false]]) Try.mixed (by kernel_rfl) rfl ?_
    refine Gw.val rfl rfl rfl rfl rfl (fun us => Val.cast (val_fieldAddr rfl Try.underlying26 rfl Try.ty23 rfl rfl) (v' := ptr b7 0) rfl) ?_
    refine Gw.val rfl rfl rfl rfl rfl (fun us => match us with | [] => val_load rfl Try.ty23 rfl rfl (cell_rec (k := 2) rfl rfl) | [u1] => val_load rfl Try.ty23 rfl rfl (cell_rec (k := 3) rfl rfl) | [u1, u2] => val_load rfl Try.ty23 rfl rfl (cell_rec (k := 4) rfl rfl) | u1 :: u2 :: u3 :: _ => val_load rfl Try.ty23 rfl rfl (cell_rec (k := 3) rfl rfl)) ?_
    refine Gw.val rfl rfl rfl rfl rfl (fun us => val_move rfl rfl) ?_
    refine Gw.val rfl rfl rfl rfl rfl (fun us => match us with | [] => Val.cast (val_loadA rfl Try.ty32 rfl rfl rfl (cells_rec (k := 0) rfl)) (v' := .agg #[.int .i64 x9.kind, .int .i64 x9.who, .int .i64 x9.other]) rfl | [u1] => Val.cast (val_loadA rfl Try.ty32 rfl rfl rfl (cells_rec (k := 1) rfl)) (v' := .agg #[.int .i64 x9.kind, .int .i64 x9.who, .int .i64 x9.other]) rfl | [u1, u2] => Val.cast (val_loadA rfl Try.ty32 rfl rfl rfl (cells_rec (k := 2) rfl)) (v' := .agg #[.int .i64 x9.kind, .int .i64 x9.who, .int .i64 x9.other]) rfl | u1 :: u2 :: u3 :: _ => Val.cast (val_loadA rfl Try.ty32 rfl rfl rfl (cells_rec (k := 1) rfl)) (v' := .agg #[.int .i64 x9.kind, .int .i64 x9.who, .int .i64 x9.other]) rfl) ?_
    refine Gw.chg rfl rfl rfl rfl rfl (fun v => v = .int .i64 ((stepQ n (stQ n (qs0 n) (cs.take i)) x9).1)) (eff_call (vs := [ptr b5 0, .agg #[.int .i64 x9.kind, .int .i64 x9.who, .int .i64 x9.other]]) rfl Try.fn9 rfl (fun w H => step_any (c := x9) hbi (by omega) hli (by omega) (H.at_ (k := 4) rfl))) ?_
    rintro _ rfl
    refine Gw.chg rfl rfl rfl rfl rfl (fun v => ∃ b12, v = .slice (some ⟨b12, 0, none⟩) 1 1) (Eff.mono (eff_buildSlice rfl (qs := [(0, .int .i64 ((stepQ n (stQ n (qs0 n) (cs.take i)) x9).1))]) rfl rfl (cs := #[.int .i64 ((stepQ n (stQ n (qs0 n) (cs.take i)) x9).1)]) (vs := [.int .i64 ((stepQ n (stQ n (qs0 n) (cs.take i)) x9).1)]) (E := 27) rfl (fun w => by first | (go_simp; done) | (go_simp; rfl))) (by rintro _ _ ⟨b12, rfl, rfl⟩; exact ⟨⟨b12, rfl⟩, rfl⟩)) ?_
    rintro _ ⟨b12, rfl⟩
    refine Gw.chg rfl rfl rfl rfl rfl IsS (Eff.mono (eff_push (r := (stepQ n (stQ n (qs0 n) (cs.take i)) x9).1) rfl Try.eC FZ_len FZ_one rfl rfl (k := 0) rfl rfl (k' := 2) rfl (by rw [hci]; omega) (by rw [hci]; omega)) (fun _ _ h => ⟨h.1, congrArg sep h.2⟩)) ?_
    intro v13 hiv13
    refine Gw.val rfl rfl rfl rfl rfl (fun us => Val.cast (val_fieldAddr rfl Try.underlying26 rfl Try.ty23 rfl rfl) (v' := ptr b7 0) rfl) ?_
    refine Gw.done ?_
    refine Gx.norm (l' := [qH b5 (stepQ n (stQ n (qs0 n) (cs.take i)) x9).2, Hp.rec_ b10 [.int .i64 x9.kind, .int .i64 x9.who, .int .i64 x9.other], Hp.own FZ 1 v13 ((codesQ n (qs0 n) (cs.take i)) ++ [(stepQ n (stQ n (qs0 n) (cs.take i)) x9).1]), Hp.rec_ b7 [cv, .slice none 0 0, .slice none 0 0, .int .i64 0, .bool false], Hp.rec_ b1 [.slice none 0 0, .slice none 0 0, .slice none 0 0, .int .i64 0, .bool false]]) rfl ?_
    refine Gx.eff0 rfl rfl (eff_store rfl Try.ty23 rfl rfl (us := [v13]) hiv13.cellsL rfl hiv13.all (k := 3) rfl rfl (vs' := [v13, .slice none 0 0, .slice none 0 0, .int .i64 0, .bool false]) rfl (l' := [qH b5 (stepQ n (stQ n (qs0 n) (cs.take i)) x9).2, Hp.rec_ b10 [.int .i64 x9.kind, .int .i64 x9.who, .int .i64 x9.other], Hp.own FZ 1 v13 ((codesQ n (qs0 n) (cs.take i)) ++ [(stepQ n (stQ n (qs0 n) (cs.take i)) x9).1]), Hp.rec_ b7 [v13, .slice none 0 0, .slice none 0 0, .int .i64 0, .bool false], Hp.rec_ b1 [.slice none 0 0, .slice none 0 0, .slice none 0 0, .int .i64 0, .bool false]]) rfl) ?_
    rintro _ _ rfl
    refine Gx.done ?_
    refine Gx.blkN ?_
    refine Gx.thenN ?_
    refine Gx.region ?_
    refine Gx.val rfl rfl rfl (val_add rfl rfl rfl (r := ((i + 1 : Nat) : Int)) (w64 (by omega) (by omega))) ?_
    refine Gx.val rfl rfl rfl (val_move rfl rfl) ?_
    refine Gx.done ?_
    refine Gx.thenN ?_
    refine Gx.drop 1 rfl ?_
    refine Gx.front 0 rfl ?_
    refine Gx.front 3 rfl ?_
    refine Gx.front 3 rfl ?_
    refine Gx.front 3 rfl ?_
    refine Gx.norm (l' := [Hp.own FZ 1 v13 (codesQ n (qs0 n) (cs.take (i + 1))), Hp.rec_ b7 [v13, .slice none 0 0, .slice none 0 0, .int .i64 0, .bool false], Hp.rec_ b1 [.slice none 0 0, .slice none 0 0, .slice none 0 0, .int .i64 0, .bool false], qH b5 (stQ n (qs0 n) (cs.take (i + 1)))]) (by rw [stQ_snoc hx9, codesQ_snoc hx9] <;> rfl) ?_
    exact Gx.round (i + 1, v13) (by omega) (by omega) ((.cons rfl (.cons rfl (.cons rfl (.cons rfl (.cons rfl (.cons rfl .nil))))))) rfl
  · refine Gx.exit ?_
    refine Gx.thenE ?_
    refine Gx.thenE ?_
    refine Gx.blkE ?_
    refine Gx.thenN ?_
    refine Gx.seq ?_
    refine Gx.seq ?_
    refine Gx.front 3 rfl ?_
    have ei : i = cs.length := by omega
    subst ei
    rw [List.take_length] at hbi hli hci
    refine Gx.norm (l' := [qH b5 (stQ n (qs0 n) cs), Hp.own FZ 1 cv (codesQ n (qs0 n) cs), Hp.rec_ b7 [cv, .slice none 0 0, .slice none 0 0, .int .i64 0, .bool false], Hp.rec_ b1 [.slice none 0 0, .slice none 0 0, .slice none 0 0, .int .i64 0, .bool false]]) (by rw [List.take_length] <;> rfl) ?_
    obtain ⟨s, hsd⟩ : ∃ s, s = (stQ n (qs0 n) cs) := ⟨_, rfl⟩
    rw [← hsd] at hbi hli
    refine Gx.norm (l' := [qH b5 s, Hp.own FZ 1 cv (codesQ n (qs0 n) cs), Hp.rec_ b7 [cv, .slice none 0 0, .slice none 0 0, .int .i64 0, .bool false], Hp.rec_ b1 [.slice none 0 0, .slice none 0 0, .slice none 0 0, .int .i64 0, .bool false]]) (by rw [hsd] <;> rfl) ?_
    refine Gx.exists_ (α := Value × Nat × Nat) (l' := fun q => [Hp.rec_ b5 [q.1, .map (some q.2.1), .map (some q.2.2), .bool s.dn], Hp.own FP 4 q.1 s.ps, Hp.map Try.prog 45 pairL vN q.2.1 s.ca, Hp.map Try.prog 45 pairL vN q.2.2 s.an, Hp.own FZ 1 cv (codesQ n (qs0 n) cs), Hp.rec_ b7 [cv, .slice none 0 0, .slice none 0 0, .int .i64 0, .bool false], Hp.rec_ b1 [.slice none 0 0, .slice none 0 0, .slice none 0 0, .int .i64 0, .bool false]]) (fun w H => by obtain ⟨pv, mc, ma, H⟩ := qH.open_ H; exact ⟨(pv, mc, ma), H⟩) ?_
    rintro ⟨pv, mc, ma⟩
    refine Gx.norm (l' := [Hp.rec_ b5 [pv, .map (some mc), .map (some ma), .bool s.dn], Hp.own FP 4 pv s.ps, Hp.map Try.prog 45 pairL vN mc s.ca, Hp.map Try.prog 45 pairL vN ma s.an, Hp.own FZ 1 cv (codesQ n (qs0 n) cs), Hp.rec_ b7 [cv, .slice none 0 0, .slice none 0 0, .int .i64 0, .bool false], Hp.rec_ b1 [.slice none 0 0, .slice none 0 0, .slice none 0 0, .int .i64 0, .bool false]]) rfl ?_
    refine Gx.fact (p := s.ca.Pairwise (fun p q => p.1 ≠ q.1)) (fun w H => (H.at_ (k := 2) rfl).mapNodup Try.kL.keyed) (fun hnc => ?_)
    refine Gx.fact (p := s.an.Pairwise (fun p q => p.1 ≠ q.1)) (fun w H => (H.at_ (k := 3) rfl).mapNodup Try.kL.keyed) (fun hna => ?_)
    have hsc := sumM_bd hnc hbi.c hbi.cc
    have hsa := sumM_bd hna hbi.a hbi.aa
    refine Gx.ownNil FB 1 ?_
    refine Gx.ownNil FB 1 ?_
    refine Gx.region ?_
    refine Gx.val rfl rfl rfl (val_move rfl rfl) ?_
    refine Gx.val rfl rfl rfl (val_nilCheck rfl rfl) ?_
    refine Gx.val rfl rfl rfl (Val.cast (val_fieldAddr rfl Try.underlying39 rfl Try.ty36 rfl rfl) (v' := ptr b5 0) rfl) ?_
    refine Gx.val rfl rfl rfl (val_load rfl Try.ty36 rfl rfl (cell_rec (k := 2) rfl rfl)) ?_
    refine Gx.val rfl rfl rfl (val_len rfl Try.underlying36 rfl (len_own (k := 3) rfl)) ?_
    refine Gx.val rfl rfl rfl (val_move rfl rfl) ?_
    refine Gx.done ?_
    refine Gx.thenN ?_
    refine Gx.block ?_
    refine Gx.front 5 rfl ?_
    refine Gx.front 5 rfl ?_
    refine Gx.front 5 rfl ?_
    refine Gx.front 5 rfl ?_
    refine Gx.front 6 rfl ?_
    refine Gx.front 8 rfl ?_
    refine Gx.front 8 rfl ?_
    refine Gx.front 8 rfl ?_
    refine Gx.front 8 rfl ?_
    refine Gx.loop (ι := Nat × Value × Value) (fun ξ => (ξ.1 ≤ s.ps.length)) (fun ξ => [(4, ptr b1 0), (6, ptr b5 0), (7, ptr b7 0), (58, pv), (59, .int .i64 ((s.ps.length : Nat) : Int)), (60, .int .i64 ((ξ.1 : Nat) : Int))]) (fun ξ => [Hp.own FB 1 ξ.2.1 ((s.ps.take ξ.1).map (·.works)), Hp.own FB 1 ξ.2.2 ((s.ps.take ξ.1).map (·.bound)), Hp.rec_ b7 [cv, ξ.2.1, ξ.2.2, .int .i64 0, .bool false], Hp.rec_ b1 [.slice none 0 0, .slice none 0 0, .slice none 0 0, .int .i64 0, .bool false], Hp.own FZ 1 cv (codesQ n (qs0 n) cs), Hp.rec_ b5 [pv, .map (some mc), .map (some ma), .bool s.dn], Hp.own FP 4 pv s.ps, Hp.map Try.prog 45 pairL vN mc s.ca, Hp.map Try.prog 45 pairL vN ma s.an]) (fun ξ => s.ps.length - ξ.1) (0, (.slice none 0 0), (.slice none 0 0)) (by omega) ((.cons rfl (.cons rfl (.cons rfl (.cons rfl (.cons rfl (.cons rfl .nil))))))) rfl ?_
    rintro ⟨j, wv, bv⟩ hj
    dsimp only at hj
    refine Gx.know (m' := [(4, ptr b1 0), (6, ptr b5 0), (7, ptr b7 0), (58, pv), (59, .int .i64 ((s.ps.length : Nat) : Int)), (60, .int .i64 ((j : Nat) : Int))]) (.cons rfl (.cons rfl (.cons rfl (.cons rfl (.cons rfl (.cons rfl .nil)))))) (Gx.norm (l' := [Hp.own FB 1 wv ((s.ps.take j).map (·.works)), Hp.own FB 1 bv ((s.ps.take j).map (·.bound)), Hp.rec_ b7 [cv, wv, bv, .int .i64 0, .bool false], Hp.rec_ b1 [.slice none 0 0, .slice none 0 0, .slice none 0 0, .int .i64 0, .bool false], Hp.own FZ 1 cv (codesQ n (qs0 n) cs), Hp.rec_ b5 [pv, .map (some mc), .map (some ma), .bool s.dn], Hp.own FP 4 pv s.ps, Hp.map Try.prog 45 pairL vN mc s.ca, Hp.map Try.prog 45 pairL vN ma s.an]) rfl ?_)
    refine Gx.seq ?_
    refine Gx.region ?_
    refine Gx.val rfl rfl rfl (val_lss rfl rfl rfl) ?_
    refine Gx.done ?_
    refine Gx.thenN ?_
    refine Gx.seq ?_
    refine Gx.dec rfl (fun h14 => ?_) (fun h14 => ?_)
    · refine Gx.skip ?_
      refine Gx.thenN ?_
      refine Gx.seq ?_
      refine Gx.block ?_
      refine Gx.seq ?_
      refine Gx.region ?_
      obtain ⟨x15, hx15⟩ := get_of_lt (xs := s.ps) (k := j) (by first | omega | (simp; omega))
      refine Gx.val rfl rfl rfl (val_ixa rfl Try.underlying36 Try.ty41 rfl rfl (j := j) (rfl) (reach_own (k := 6) rfl hx15)) ?_
      refine Gx.val rfl rfl rfl (Val.cast (val_loadA rfl Try.ty41 rfl rfl rfl (cells_own (k := 6) rfl hx15)) (v' := .agg #[.bool x15.works, .bool x15.bound, .int .i64 (toI x15.to), .int .i64 x15.owes]) rfl) ?_
      refine Gx.eff rfl rfl rfl (eff_alloc rfl Try.ty41 (vs := [.bool false, .bool false, .int .i64 0, .int .i64 0]) rfl) ?_
      rintro _ _ ⟨b16, rfl, rfl⟩
      refine Gx.eff0 rfl rfl (eff_store rfl Try.ty41 rfl rfl (us := [.bool x15.works, .bool x15.bound, .int .i64 (toI x15.to), .int .i64 x15.owes]) rfl rfl rfl (k := 0) rfl rfl (vs' := [.bool x15.works, .bool x15.bound, .int .i64 (toI x15.to), .int .i64 x15.owes]) rfl (l' := [Hp.rec_ b16 [.bool x15.works, .bool x15.bound, .int .i64 (toI x15.to), .int .i64 x15.owes], Hp.own FB 1 wv ((s.ps.take j).map (·.works)), Hp.own FB 1 bv ((s.ps.take j).map (·.bound)), Hp.rec_ b7 [cv, wv, bv, .int .i64 0, .bool false], Hp.rec_ b1 [.slice none 0 0, .slice none 0 0, .slice none 0 0, .int .i64 0, .bool false], Hp.own FZ 1 cv (codesQ n (qs0 n) cs), Hp.rec_ b5 [pv, .map (some mc), .map (some ma), .bool s.dn], Hp.own FP 4 pv s.ps, Hp.map Try.prog 45 pairL vN mc s.ca, Hp.map Try.prog 45 pairL vN ma s.an]) rfl) ?_
      rintro _ _ rfl
      refine Gx.done ?_
      refine Gx.thenN ?_
      -- region 14, in whatever order
      refine Gx.ones 6 (Gx.norm (l' := [Hp.rec_ b16 [.bool x15.works, .bool x15.bound, .int .i64 (toI x15.to), .int .i64 x15.owes], Hp.own FB 1 wv ((s.ps.take j).map (·.works)), Hp.own FB 1 bv ((s.ps.take j).map (·.bound)), Hp.rec_ b7 [cv, wv, bv, .int .i64 0, .bool false], Hp.rec_ b1 [.slice none 0 0, .slice none 0 0, .slice none 0 0, .int .i64 0, .bool false], Hp.own FZ 1 cv (codesQ n (qs0 n) cs), Hp.rec_ b5 [pv, .map (some mc), .map (some ma), .bool s.dn], Hp.own FP 4 pv s.ps, Hp.map Try.prog 45 pairL vN mc s.ca, Hp.map Try.prog 45 pairL vN ma s.an, 1, 1, 1, 1, 1, 1]) rfl ?_)
      obtain ⟨pp17x1, pp17x1e⟩ : ∃ p : Done → Hp, p = fun d => cond (dn d 5) (Hp.own FB 1 (dv d 5) (((s.ps.take j).map (·.works)) ++ [x15.works])) (Hp.own FB 1 wv ((s.ps.take j).map (·.works))) := ⟨_, rfl⟩
      obtain ⟨pp17x2, pp17x2e⟩ : ∃ p : Done → Hp, p = fun d => cond (dn d 11) (Hp.own FB 1 (dv d 11) (((s.ps.take j).map (·.bound)) ++ [x15.bound])) (Hp.own FB 1 bv ((s.ps.take j).map (·.bound))) := ⟨_, rfl⟩
      obtain ⟨pp17x3, pp17x3e⟩ : ∃ p : Done → Hp, p = fun d => cond (dn d 15) (Hp.rec_ b7 [cv, (dv d 5), (dv d 11), .int .i64 0, .bool false]) (cond (dn d 13) (Hp.rec_ b7 [cv, (dv d 5), bv, .int .i64 0, .bool false]) (Hp.rec_ b7 [cv, wv, bv, .int .i64 0, .bool false])) := ⟨_, rfl⟩
      obtain ⟨pp17x10, pp17x10e⟩ : ∃ p : Done → Hp, p = fun d => cond (dn d 5) (1) (cond (dn d 4) (Hp.rec_ (sB (dv d 4)) [.bool x15.works]) (1)) := ⟨_, rfl⟩
      obtain ⟨pp17x11, pp17x11e⟩ : ∃ p : Done → Hp, p = fun d => cond (dn d 11) (1) (cond (dn d 10) (Hp.rec_ (sB (dv d 10)) [.bool x15.bound]) (1)) := ⟨_, rfl⟩
      obtain ⟨pp17x12, pp17x12e⟩ : ∃ p : Done → Hp, p = fun d => cond (dn d 4) (Hp.pure (dv d 4 = .slice (some ⟨sB (dv d 4), 0, none⟩) 1 1)) 1 := ⟨_, rfl⟩
      obtain ⟨pp17x13, pp17x13e⟩ : ∃ p : Done → Hp, p = fun d => cond (dn d 5) (Hp.pure (IsS (dv d 5))) 1 := ⟨_, rfl⟩
      obtain ⟨pp17x14, pp17x14e⟩ : ∃ p : Done → Hp, p = fun d => cond (dn d 10) (Hp.pure (dv d 10 = .slice (some ⟨sB (dv d 10), 0, none⟩) 1 1)) 1 := ⟨_, rfl⟩
      obtain ⟨pp17x15, pp17x15e⟩ : ∃ p : Done → Hp, p = fun d => cond (dn d 11) (Hp.pure (IsS (dv d 11))) 1 := ⟨_, rfl⟩
      refine Gx.regionF [4, 5, 10, 11, 13, 15] [0, 1, 2, 3, 6, 7, 8, 9, 12, 14] (fun ιi => cond (Nat.beq ιi 9) [Hp.rec_ b16 [.bool x15.works, .bool x15.bound, .int .i64 (toI x15.to), .int .i64 x15.owes]] (cond (Nat.beq ιi 7) [Hp.rec_ b7 [cv, wv, bv, .int .i64 0, .bool false]] (cond (Nat.beq ιi 3) [Hp.rec_ b16 [.bool x15.works, .bool x15.bound, .int .i64 (toI x15.to), .int .i64 x15.owes]] (cond (Nat.beq ιi 1) [Hp.rec_ b7 [cv, wv, bv, .int .i64 0, .bool false]] ([]))))) (fun d => [Hp.rec_ b16 [.bool x15.works, .bool x15.bound, .int .i64 (toI x15.to), .int .i64 x15.owes], pp17x1 d, pp17x2 d, pp17x3 d, Hp.rec_ b1 [.slice none 0 0, .slice none 0 0, .slice none 0 0, .int .i64 0, .bool false], Hp.own FZ 1 cv (codesQ n (qs0 n) cs), Hp.rec_ b5 [pv, .map (some mc), .map (some ma), .bool s.dn], Hp.own FP 4 pv s.ps, Hp.map Try.prog 45 pairL vN mc s.ca, Hp.map Try.prog 45 pairL vN ma s.an, pp17x10 d, pp17x11 d, pp17x12 d, pp17x13 d, pp17x14 d, pp17x15 d]) Try.mixed (by kernel_rfl) (by kernel_rfl) (by rw [pp17x1e]; rw [pp17x2e]; rw [pp17x3e]; rw [pp17x10e]; rw [pp17x11e]; rw [pp17x12e]; rw [pp17x13e]; rw [pp17x14e]; rw [pp17x15e]; rfl) ?_ ?_
      · intro ιi d w hc hs H
        by_cases hn1 : ιi = 1
        · subst hn1
          have q5 : dn d 5 = false := hs 5 rfl (by kernel_rfl)
          have q13 : dn d 13 = false := hs 13 rfl (by kernel_rfl)
          have q15 : dn d 15 = false := hs 15 rfl (by kernel_rfl)
          have q11 : dn d 11 = false := hc.not 11 5 rfl (by kernel_rfl) q5
          exact H.only (k := 3) rfl (by rw [pp17x3e]; simp only [q13, q15, cond_false])
        · by_cases hn3 : ιi = 3
          · subst hn3
            exact H.only (k := 0) rfl rfl
          · by_cases hn7 : ιi = 7
            · subst hn7
              have q11 : dn d 11 = false := hs 11 rfl (by kernel_rfl)
              have q13 : dn d 13 = false := hs 13 rfl (by kernel_rfl)
              have q15 : dn d 15 = false := hs 15 rfl (by kernel_rfl)
              exact H.only (k := 3) rfl (by rw [pp17x3e]; simp only [q13, q15, cond_false])
            · by_cases hn9 : ιi = 9
              · subst hn9
                exact H.only (k := 0) rfl rfl
              · refine Sat.listed (l := []) H.noneL ?_
                simp only [beq_no hn1, beq_no hn3, beq_no hn7, beq_no hn9, cond_false]
      refine Gp.val rfl rfl rfl rfl (Val.cast (val_fieldAddr rfl Try.underlying26 rfl Try.ty24 rfl rfl) (v' := ptr b7 1) rfl) ?_
      refine Gp.val rfl rfl rfl rfl (val_load rfl Try.ty24 rfl rfl (cell_rec (k := 0) rfl rfl)) ?_
      refine Gp.val rfl rfl rfl rfl (Val.cast (val_fieldAddr rfl Try.underlying41 rfl Try.ty4 rfl rfl) (v' := ptr b16 0) rfl) ?_
      refine Gp.val rfl rfl rfl rfl (val_load rfl Try.ty4 rfl rfl (cell_rec (k := 0) rfl rfl)) ?_
      refine Gp.val rfl rfl rfl rfl (Val.cast (val_fieldAddr rfl Try.underlying26 rfl Try.ty24 rfl rfl) (v' := ptr b7 2) rfl) ?_
      refine Gp.val rfl rfl rfl rfl (val_load rfl Try.ty24 rfl rfl (cell_rec (k := 0) rfl rfl)) ?_
      refine Gp.val rfl rfl rfl rfl (Val.cast (val_fieldAddr rfl Try.underlying41 rfl Try.ty4 rfl rfl) (v' := ptr b16 1) rfl) ?_
      refine Gp.val rfl rfl rfl rfl (val_load rfl Try.ty4 rfl rfl (cell_rec (k := 0) rfl rfl)) ?_
      refine Gp.val rfl rfl rfl rfl (Val.cast (val_fieldAddr rfl Try.underlying26 rfl Try.ty24 rfl rfl) (v' := ptr b7 1) rfl) ?_
      refine Gp.val rfl rfl rfl rfl (Val.cast (val_fieldAddr rfl Try.underlying26 rfl Try.ty24 rfl rfl) (v' := ptr b7 2) rfl) ?_
      refine Gp.done (uniq_of (by kernel_rfl)) (by rfl) (by kernel_rfl) ⟨⟨_, rfl, ?_⟩, ⟨_, rfl, ?_⟩, ⟨_, rfl, ?_⟩, ⟨_, rfl, ?_⟩, ⟨_, rfl, ?_⟩, ⟨_, rfl, ?_⟩, trivial⟩ ?_
      · intro d hc hdi hpre a w hf H
        change Sat _ _ (sep [Hp.rec_ b16 [.bool x15.works, .bool x15.bound, .int .i64 (toI x15.to), .int .i64 x15.owes], pp17x1 d, pp17x2 d, pp17x3 d, Hp.rec_ b1 [.slice none 0 0, .slice none 0 0, .slice none 0 0, .int .i64 0, .bool false], Hp.own FZ 1 cv (codesQ n (qs0 n) cs), Hp.rec_ b5 [pv, .map (some mc), .map (some ma), .bool s.dn], Hp.own FP 4 pv s.ps, Hp.map Try.prog 45 pairL vN mc s.ca, Hp.map Try.prog 45 pairL vN ma s.an, pp17x10 d, pp17x11 d, pp17x12 d, pp17x13 d, pp17x14 d, pp17x15 d]) at H
        have q4 := hdi
        have q5 : dn d 5 = false := hc.not 5 4 rfl (by kernel_rfl) q4
        have q13 : dn d 13 = false := hc.not 13 4 rfl (by kernel_rfl) q4
        have q15 : dn d 15 = false := hc.not 15 4 rfl (by kernel_rfl) q4
        have q11 : dn d 11 = false := hc.not 11 5 rfl (by kernel_rfl) q5
        have n1 : pp17x1 d = Hp.own FB 1 wv ((s.ps.take j).map (·.works)) := by rw [pp17x1e]; simp only [q5, cond_true, cond_false]
        have n2 : pp17x2 d = Hp.own FB 1 bv ((s.ps.take j).map (·.bound)) := by rw [pp17x2e]; simp only [q11, cond_true, cond_false]
        have n3 : pp17x3 d = Hp.rec_ b7 [cv, wv, bv, .int .i64 0, .bool false] := by rw [pp17x3e]; simp only [q13, q15, cond_true, cond_false]
        have n10 : pp17x10 d = 1 := by rw [pp17x10e]; simp only [q4, q5, cond_true, cond_false]
        have n12 : pp17x12 d = 1 := by rw [pp17x12e]; simp only [q4, cond_true, cond_false]
        rw [n1, n2, n3, n10, n12] at H
        refine EffAt.mono (Eff.at_ hf.slots H (eff_buildSlice rfl (qs := [(0, .bool x15.works)]) rfl rfl (cs := #[.bool x15.works]) (vs := [.bool x15.works]) (E := 4) rfl (fun w => by first | (go_simp; done) | (go_simp; rfl)))) ?_
        rintro _ w2 ⟨_, ⟨b18, rfl, rfl⟩, H2⟩
        have H2 := Sat.fillAt H2 (k := 10) rfl
        have H2 := (Sat.pureI (p := (.slice (some ⟨b18, 0, none⟩) 1 1 : Value) = .slice (some ⟨b18, 0, none⟩) 1 1) rfl H2).fillAt (k := 12) rfl
        obtain ⟨d2, hd2⟩ : ∃ d2, d2 = upd d 4 (.slice (some ⟨b18, 0, none⟩) 1 1) := ⟨_, rfl⟩
        have m4 : dn d2 4 = true := by rw [hd2]; rfl
        have m5 : dn d2 5 = false := by rw [hd2]; exact q5
        have m13 : dn d2 13 = false := by rw [hd2]; exact q13
        have m15 : dn d2 15 = false := by rw [hd2]; exact q15
        have m11 : dn d2 11 = false := by rw [hd2]; exact q11
        rw [← hd2]
        change Sat _ _ (sep [Hp.rec_ b16 [.bool x15.works, .bool x15.bound, .int .i64 (toI x15.to), .int .i64 x15.owes], pp17x1 d2, pp17x2 d2, pp17x3 d2, Hp.rec_ b1 [.slice none 0 0, .slice none 0 0, .slice none 0 0, .int .i64 0, .bool false], Hp.own FZ 1 cv (codesQ n (qs0 n) cs), Hp.rec_ b5 [pv, .map (some mc), .map (some ma), .bool s.dn], Hp.own FP 4 pv s.ps, Hp.map Try.prog 45 pairL vN mc s.ca, Hp.map Try.prog 45 pairL vN ma s.an, pp17x10 d2, pp17x11 d2, pp17x12 d2, pp17x13 d2, pp17x14 d2, pp17x15 d2])
        have u1 := congrFun pp17x1e d2
        simp only [m5, cond_true, cond_false] at u1
        have u2 := congrFun pp17x2e d2
        simp only [m11, cond_true, cond_false] at u2
        have u3 := congrFun pp17x3e d2
        simp only [m13, m15, cond_true, cond_false] at u3
        have u10 := congrFun pp17x10e d2
        simp only [m4, m5, cond_true, cond_false] at u10
        have u11 : pp17x11 d2 = pp17x11 d := by rw [hd2, pp17x11e]; rfl
        have u12 := congrFun pp17x12e d2
        simp only [m4, cond_true, cond_false] at u12
        have u13 : pp17x13 d2 = pp17x13 d := by rw [hd2, pp17x13e]; rfl
        have u14 : pp17x14 d2 = pp17x14 d := by rw [hd2, pp17x14e]; rfl
        have u15 : pp17x15 d2 = pp17x15 d := by rw [hd2, pp17x15e]; rfl
        rw [u1, u2, u3, u10, u11, u12, u13, u14, u15]
        subst hd2
        exact H2
      · intro d hc hdi hpre a w hf H
        change Sat _ _ (sep [Hp.rec_ b16 [.bool x15.works, .bool x15.bound, .int .i64 (toI x15.to), .int .i64 x15.owes], pp17x1 d, pp17x2 d, pp17x3 d, Hp.rec_ b1 [.slice none 0 0, .slice none 0 0, .slice none 0 0, .int .i64 0, .bool false], Hp.own FZ 1 cv (codesQ n (qs0 n) cs), Hp.rec_ b5 [pv, .map (some mc), .map (some ma), .bool s.dn], Hp.own FP 4 pv s.ps, Hp.map Try.prog 45 pairL vN mc s.ca, Hp.map Try.prog 45 pairL vN ma s.an, pp17x10 d, pp17x11 d, pp17x12 d, pp17x13 d, pp17x14 d, pp17x15 d]) at H
        have q4 : dn d 4 = true := hpre 4 (by kernel_rfl)
        have q5 := hdi
        have q11 : dn d 11 = false := hc.not 11 5 rfl (by kernel_rfl) q5
        have q13 : dn d 13 = false := hc.not 13 5 rfl (by kernel_rfl) q5
        have q15 : dn d 15 = false := hc.not 15 5 rfl (by kernel_rfl) q5
        have e4 : dv d 4 = .slice (some ⟨sB (dv d 4), 0, none⟩) 1 1 := H.factAt (k := 12) rfl (by rw [pp17x12e]; simp only [q4, cond_true])
        have n1 : pp17x1 d = Hp.own FB 1 wv ((s.ps.take j).map (·.works)) := by rw [pp17x1e]; simp only [q5, cond_true, cond_false]
        have n2 : pp17x2 d = Hp.own FB 1 bv ((s.ps.take j).map (·.bound)) := by rw [pp17x2e]; simp only [q11, cond_true, cond_false]
        have n3 : pp17x3 d = Hp.rec_ b7 [cv, wv, bv, .int .i64 0, .bool false] := by rw [pp17x3e]; simp only [q13, q15, cond_true, cond_false]
        have n10 : pp17x10 d = Hp.rec_ (sB (dv d 4)) [.bool x15.works] := by rw [pp17x10e]; simp only [q4, q5, cond_true, cond_false]
        have n13 : pp17x13 d = 1 := by rw [pp17x13e]; simp only [q5, cond_true, cond_false]
        rw [n1, n2, n3, n10, n13] at H
        have s4 := hf.add hf.slots 4 rfl (by kernel_rfl) rfl q4 (v := .slice (some ⟨sB (dv d 4), 0, none⟩) 1 1) e4
        refine EffAt.mono (Eff.at_ s4 H (eff_pushP (r := x15.works) rfl Try.eB FB_len FB_one rfl rfl (k := 10) rfl rfl (k' := 1) rfl (by rw [List.length_map, List.length_take]; omega) (by rw [List.length_map, List.length_take]; omega))) ?_
        rintro v19 w2 ⟨_, ⟨hiv19, rfl⟩, H2⟩
        have H2 := (Sat.pureI hiv19 H2).fillAt (k := 13) rfl
        obtain ⟨d2, hd2⟩ : ∃ d2, d2 = upd d 5 (v19) := ⟨_, rfl⟩
        have m5 : dn d2 5 = true := by rw [hd2]; rfl
        have m4 : dn d2 4 = true := by rw [hd2]; exact q4
        have m11 : dn d2 11 = false := by rw [hd2]; exact q11
        have m13 : dn d2 13 = false := by rw [hd2]; exact q13
        have m15 : dn d2 15 = false := by rw [hd2]; exact q15
        rw [← hd2]
        change Sat _ _ (sep [Hp.rec_ b16 [.bool x15.works, .bool x15.bound, .int .i64 (toI x15.to), .int .i64 x15.owes], pp17x1 d2, pp17x2 d2, pp17x3 d2, Hp.rec_ b1 [.slice none 0 0, .slice none 0 0, .slice none 0 0, .int .i64 0, .bool false], Hp.own FZ 1 cv (codesQ n (qs0 n) cs), Hp.rec_ b5 [pv, .map (some mc), .map (some ma), .bool s.dn], Hp.own FP 4 pv s.ps, Hp.map Try.prog 45 pairL vN mc s.ca, Hp.map Try.prog 45 pairL vN ma s.an, pp17x10 d2, pp17x11 d2, pp17x12 d2, pp17x13 d2, pp17x14 d2, pp17x15 d2])
        have u1 := congrFun pp17x1e d2
        simp only [m5, cond_true, cond_false] at u1
        have u2 := congrFun pp17x2e d2
        simp only [m11, cond_true, cond_false] at u2
        have u3 := congrFun pp17x3e d2
        simp only [m13, m15, cond_true, cond_false] at u3
        have u10 := congrFun pp17x10e d2
        simp only [m4, m5, cond_true, cond_false] at u10
        have u11 : pp17x11 d2 = pp17x11 d := by rw [hd2, pp17x11e]; rfl
        have u12 : pp17x12 d2 = pp17x12 d := by rw [hd2, pp17x12e]; rfl
        have u13 := congrFun pp17x13e d2
        simp only [m5, cond_true, cond_false] at u13
        have u14 : pp17x14 d2 = pp17x14 d := by rw [hd2, pp17x14e]; rfl
        have u15 : pp17x15 d2 = pp17x15 d := by rw [hd2, pp17x15e]; rfl
        rw [u1, u2, u3, u10, u11, u12, u13, u14, u15]
        subst hd2
        exact H2
      · intro d hc hdi hpre a w hf H
        change Sat _ _ (sep [Hp.rec_ b16 [.bool x15.works, .bool x15.bound, .int .i64 (toI x15.to), .int .i64 x15.owes], pp17x1 d, pp17x2 d, pp17x3 d, Hp.rec_ b1 [.slice none 0 0, .slice none 0 0, .slice none 0 0, .int .i64 0, .bool false], Hp.own FZ 1 cv (codesQ n (qs0 n) cs), Hp.rec_ b5 [pv, .map (some mc), .map (some ma), .bool s.dn], Hp.own FP 4 pv s.ps, Hp.map Try.prog 45 pairL vN mc s.ca, Hp.map Try.prog 45 pairL vN ma s.an, pp17x10 d, pp17x11 d, pp17x12 d, pp17x13 d, pp17x14 d, pp17x15 d]) at H
        have q10 := hdi
        have q11 : dn d 11 = false := hc.not 11 10 rfl (by kernel_rfl) q10
        have q15 : dn d 15 = false := hc.not 15 10 rfl (by kernel_rfl) q10
        have q13 : dn d 13 = false := hc.not 13 11 rfl (by kernel_rfl) q11
        have n2 : pp17x2 d = Hp.own FB 1 bv ((s.ps.take j).map (·.bound)) := by rw [pp17x2e]; simp only [q11, cond_true, cond_false]
        have n3 : pp17x3 d = Hp.rec_ b7 [cv, wv, bv, .int .i64 0, .bool false] := by rw [pp17x3e]; simp only [q13, q15, cond_true, cond_false]
        have n11 : pp17x11 d = 1 := by rw [pp17x11e]; simp only [q10, q11, cond_true, cond_false]
        have n14 : pp17x14 d = 1 := by rw [pp17x14e]; simp only [q10, cond_true, cond_false]
        rw [n2, n3, n11, n14] at H
        refine EffAt.mono (Eff.at_ hf.slots H (eff_buildSlice rfl (qs := [(0, .bool x15.bound)]) rfl rfl (cs := #[.bool x15.bound]) (vs := [.bool x15.bound]) (E := 4) rfl (fun w => by first | (go_simp; done) | (go_simp; rfl)))) ?_
        rintro _ w2 ⟨_, ⟨b20, rfl, rfl⟩, H2⟩
        have H2 := Sat.fillAt H2 (k := 11) rfl
        have H2 := (Sat.pureI (p := (.slice (some ⟨b20, 0, none⟩) 1 1 : Value) = .slice (some ⟨b20, 0, none⟩) 1 1) rfl H2).fillAt (k := 14) rfl
        obtain ⟨d2, hd2⟩ : ∃ d2, d2 = upd d 10 (.slice (some ⟨b20, 0, none⟩) 1 1) := ⟨_, rfl⟩
        have m10 : dn d2 10 = true := by rw [hd2]; rfl
        have m11 : dn d2 11 = false := by rw [hd2]; exact q11
        have m15 : dn d2 15 = false := by rw [hd2]; exact q15
        have m13 : dn d2 13 = false := by rw [hd2]; exact q13
        rw [← hd2]
        change Sat _ _ (sep [Hp.rec_ b16 [.bool x15.works, .bool x15.bound, .int .i64 (toI x15.to), .int .i64 x15.owes], pp17x1 d2, pp17x2 d2, pp17x3 d2, Hp.rec_ b1 [.slice none 0 0, .slice none 0 0, .slice none 0 0, .int .i64 0, .bool false], Hp.own FZ 1 cv (codesQ n (qs0 n) cs), Hp.rec_ b5 [pv, .map (some mc), .map (some ma), .bool s.dn], Hp.own FP 4 pv s.ps, Hp.map Try.prog 45 pairL vN mc s.ca, Hp.map Try.prog 45 pairL vN ma s.an, pp17x10 d2, pp17x11 d2, pp17x12 d2, pp17x13 d2, pp17x14 d2, pp17x15 d2])
        have u1 : pp17x1 d2 = pp17x1 d := by rw [hd2, pp17x1e]; rfl
        have u2 := congrFun pp17x2e d2
        simp only [m11, cond_true, cond_false] at u2
        have u3 := congrFun pp17x3e d2
        simp only [m13, m15, cond_true, cond_false] at u3
        have u10 : pp17x10 d2 = pp17x10 d := by rw [hd2, pp17x10e]; rfl
        have u11 := congrFun pp17x11e d2
        simp only [m10, m11, cond_true, cond_false] at u11
        have u12 : pp17x12 d2 = pp17x12 d := by rw [hd2, pp17x12e]; rfl
        have u13 : pp17x13 d2 = pp17x13 d := by rw [hd2, pp17x13e]; rfl
        have u14 := congrFun pp17x14e d2
        simp only [m10, cond_true, cond_false] at u14
        have u15 : pp17x15 d2 = pp17x15 d := by rw [hd2, pp17x15e]; rfl
        rw [u1, u2, u3, u10, u11, u12, u13, u14, u15]
        subst hd2
        exact H2
      · intro d hc hdi hpre a w hf H
        change Sat _ _ (sep [Hp.rec_ b16 [.bool x15.works, .bool x15.bound, .int .i64 (toI x15.to), .int .i64 x15.owes], pp17x1 d, pp17x2 d, pp17x3 d, Hp.rec_ b1 [.slice none 0 0, .slice none 0 0, .slice none 0 0, .int .i64 0, .bool false], Hp.own FZ 1 cv (codesQ n (qs0 n) cs), Hp.rec_ b5 [pv, .map (some mc), .map (some ma), .bool s.dn], Hp.own FP 4 pv s.ps, Hp.map Try.prog 45 pairL vN mc s.ca, Hp.map Try.prog 45 pairL vN ma s.an, pp17x10 d, pp17x11 d, pp17x12 d, pp17x13 d, pp17x14 d, pp17x15 d]) at H
        have q10 : dn d 10 = true := hpre 10 (by kernel_rfl)
        have q5 : dn d 5 = true := hpre 5 (by kernel_rfl)
        have q4 : dn d 4 = true := hc.pre 5 4 rfl (by kernel_rfl) q5
        have q11 := hdi
        have q13 : dn d 13 = false := hc.not 13 11 rfl (by kernel_rfl) q11
        have q15 : dn d 15 = false := hc.not 15 11 rfl (by kernel_rfl) q11
        have e10 : dv d 10 = .slice (some ⟨sB (dv d 10), 0, none⟩) 1 1 := H.factAt (k := 14) rfl (by rw [pp17x14e]; simp only [q10, cond_true])
        have e5 : IsS (dv d 5) := H.factAt (k := 13) rfl (by rw [pp17x13e]; simp only [q5, cond_true])
        have e4 : dv d 4 = .slice (some ⟨sB (dv d 4), 0, none⟩) 1 1 := H.factAt (k := 12) rfl (by rw [pp17x12e]; simp only [q4, cond_true])
        have n1 : pp17x1 d = Hp.own FB 1 (dv d 5) (((s.ps.take j).map (·.works)) ++ [x15.works]) := by rw [pp17x1e]; simp only [q5, cond_true, cond_false]
        have n2 : pp17x2 d = Hp.own FB 1 bv ((s.ps.take j).map (·.bound)) := by rw [pp17x2e]; simp only [q11, cond_true, cond_false]
        have n3 : pp17x3 d = Hp.rec_ b7 [cv, wv, bv, .int .i64 0, .bool false] := by rw [pp17x3e]; simp only [q13, q15, cond_true, cond_false]
        have n10 : pp17x10 d = 1 := by rw [pp17x10e]; simp only [q4, q5, cond_true, cond_false]
        have n11 : pp17x11 d = Hp.rec_ (sB (dv d 10)) [.bool x15.bound] := by rw [pp17x11e]; simp only [q10, q11, cond_true, cond_false]
        have n15 : pp17x15 d = 1 := by rw [pp17x15e]; simp only [q11, cond_true, cond_false]
        rw [n1, n2, n3, n10, n11, n15] at H
        have s10 := hf.add hf.slots 10 rfl (by kernel_rfl) rfl q10 (v := .slice (some ⟨sB (dv d 10), 0, none⟩) 1 1) e10
        refine EffAt.mono (Eff.at_ s10 H (eff_pushP (r := x15.bound) rfl Try.eB FB_len FB_one rfl rfl (k := 11) rfl rfl (k' := 2) rfl (by rw [List.length_map, List.length_take]; omega) (by rw [List.length_map, List.length_take]; omega))) ?_
        rintro v21 w2 ⟨_, ⟨hiv21, rfl⟩, H2⟩
        have H2 := (Sat.pureI hiv21 H2).fillAt (k := 15) rfl
        obtain ⟨d2, hd2⟩ : ∃ d2, d2 = upd d 11 (v21) := ⟨_, rfl⟩
        have m11 : dn d2 11 = true := by rw [hd2]; rfl
        have m10 : dn d2 10 = true := by rw [hd2]; exact q10
        have m5 : dn d2 5 = true := by rw [hd2]; exact q5
        have m4 : dn d2 4 = true := by rw [hd2]; exact q4
        have m13 : dn d2 13 = false := by rw [hd2]; exact q13
        have m15 : dn d2 15 = false := by rw [hd2]; exact q15
        rw [← hd2]
        change Sat _ _ (sep [Hp.rec_ b16 [.bool x15.works, .bool x15.bound, .int .i64 (toI x15.to), .int .i64 x15.owes], pp17x1 d2, pp17x2 d2, pp17x3 d2, Hp.rec_ b1 [.slice none 0 0, .slice none 0 0, .slice none 0 0, .int .i64 0, .bool false], Hp.own FZ 1 cv (codesQ n (qs0 n) cs), Hp.rec_ b5 [pv, .map (some mc), .map (some ma), .bool s.dn], Hp.own FP 4 pv s.ps, Hp.map Try.prog 45 pairL vN mc s.ca, Hp.map Try.prog 45 pairL vN ma s.an, pp17x10 d2, pp17x11 d2, pp17x12 d2, pp17x13 d2, pp17x14 d2, pp17x15 d2])
        have u1 := congrFun pp17x1e d2
        simp only [m5, cond_true, cond_false] at u1
        have u2 := congrFun pp17x2e d2
        simp only [m11, cond_true, cond_false] at u2
        have u3 := congrFun pp17x3e d2
        simp only [m13, m15, cond_true, cond_false] at u3
        have u10 := congrFun pp17x10e d2
        simp only [m4, m5, cond_true, cond_false] at u10
        have u11 := congrFun pp17x11e d2
        simp only [m10, m11, cond_true, cond_false] at u11
        have u12 : pp17x12 d2 = pp17x12 d := by rw [hd2, pp17x12e]; rfl
        have u13 : pp17x13 d2 = pp17x13 d := by rw [hd2, pp17x13e]; rfl
        have u14 : pp17x14 d2 = pp17x14 d := by rw [hd2, pp17x14e]; rfl
        have u15 := congrFun pp17x15e d2
        simp only [m11, cond_true, cond_false] at u15
        rw [u1, u2, u3, u10, u11, u12, u13, u14, u15]
        subst hd2
        exact H2
      · intro d hc hdi hpre a w hf H
        change Sat _ _ (sep [Hp.rec_ b16 [.bool x15.works, .bool x15.bound, .int .i64 (toI x15.to), .int .i64 x15.owes], pp17x1 d, pp17x2 d, pp17x3 d, Hp.rec_ b1 [.slice none 0 0, .slice none 0 0, .slice none 0 0, .int .i64 0, .bool false], Hp.own FZ 1 cv (codesQ n (qs0 n) cs), Hp.rec_ b5 [pv, .map (some mc), .map (some ma), .bool s.dn], Hp.own FP 4 pv s.ps, Hp.map Try.prog 45 pairL vN mc s.ca, Hp.map Try.prog 45 pairL vN ma s.an, pp17x10 d, pp17x11 d, pp17x12 d, pp17x13 d, pp17x14 d, pp17x15 d]) at H
        have q5 : dn d 5 = true := hpre 5 (by kernel_rfl)
        have q11 : dn d 11 = true := hpre 11 (by kernel_rfl)
        have q4 : dn d 4 = true := hpre 4 (by kernel_rfl)
        have q5 : dn d 5 = true := hpre 5 (by kernel_rfl)
        have q10 : dn d 10 = true := hc.pre 11 10 rfl (by kernel_rfl) q11
        have q13 := hdi
        have q15 : dn d 15 = false := hc.not 15 13 rfl (by kernel_rfl) q13
        have e5 : IsS (dv d 5) := H.factAt (k := 13) rfl (by rw [pp17x13e]; simp only [q5, cond_true])
        have e11 : IsS (dv d 11) := H.factAt (k := 15) rfl (by rw [pp17x15e]; simp only [q11, cond_true])
        have e4 : dv d 4 = .slice (some ⟨sB (dv d 4), 0, none⟩) 1 1 := H.factAt (k := 12) rfl (by rw [pp17x12e]; simp only [q4, cond_true])
        have e10 : dv d 10 = .slice (some ⟨sB (dv d 10), 0, none⟩) 1 1 := H.factAt (k := 14) rfl (by rw [pp17x14e]; simp only [q10, cond_true])
        have n1 : pp17x1 d = Hp.own FB 1 (dv d 5) (((s.ps.take j).map (·.works)) ++ [x15.works]) := by rw [pp17x1e]; simp only [q5, cond_true, cond_false]
        have n2 : pp17x2 d = Hp.own FB 1 (dv d 11) (((s.ps.take j).map (·.bound)) ++ [x15.bound]) := by rw [pp17x2e]; simp only [q11, cond_true, cond_false]
        have n3 : pp17x3 d = Hp.rec_ b7 [cv, wv, bv, .int .i64 0, .bool false] := by rw [pp17x3e]; simp only [q13, q15, cond_true, cond_false]
        have n10 : pp17x10 d = 1 := by rw [pp17x10e]; simp only [q4, q5, cond_true, cond_false]
        have n11 : pp17x11 d = 1 := by rw [pp17x11e]; simp only [q10, q11, cond_true, cond_false]
        rw [n1, n2, n3, n10, n11] at H
        have s5 := hf.add hf.slots 5 rfl (by kernel_rfl) rfl q5 (v := (dv d 5)) rfl
        refine EffAt.mono (Eff.at_ s5 H (eff_store rfl Try.ty24 rfl rfl (us := [(dv d 5)]) e5.cellsL rfl e5.all (k := 3) rfl rfl (vs' := [cv, (dv d 5), bv, .int .i64 0, .bool false]) rfl (l' := [Hp.rec_ b16 [.bool x15.works, .bool x15.bound, .int .i64 (toI x15.to), .int .i64 x15.owes], Hp.own FB 1 (dv d 5) (((s.ps.take j).map (·.works)) ++ [x15.works]), Hp.own FB 1 (dv d 11) (((s.ps.take j).map (·.bound)) ++ [x15.bound]), Hp.rec_ b7 [cv, (dv d 5), bv, .int .i64 0, .bool false], Hp.rec_ b1 [.slice none 0 0, .slice none 0 0, .slice none 0 0, .int .i64 0, .bool false], Hp.own FZ 1 cv (codesQ n (qs0 n) cs), Hp.rec_ b5 [pv, .map (some mc), .map (some ma), .bool s.dn], Hp.own FP 4 pv s.ps, Hp.map Try.prog 45 pairL vN mc s.ca, Hp.map Try.prog 45 pairL vN ma s.an, 1, 1, pp17x12 d, pp17x13 d, pp17x14 d, pp17x15 d]) rfl)) ?_
        rintro v w2 ⟨_, rfl, H2⟩
        obtain ⟨d2, hd2⟩ : ∃ d2, d2 = upd d 13 v := ⟨_, rfl⟩
        have m13 : dn d2 13 = true := by rw [hd2]; rfl
        have m5 : dn d2 5 = true := by rw [hd2]; exact q5
        have m11 : dn d2 11 = true := by rw [hd2]; exact q11
        have m4 : dn d2 4 = true := by rw [hd2]; exact q4
        have m10 : dn d2 10 = true := by rw [hd2]; exact q10
        have m15 : dn d2 15 = false := by rw [hd2]; exact q15
        rw [← hd2]
        change Sat _ _ (sep [Hp.rec_ b16 [.bool x15.works, .bool x15.bound, .int .i64 (toI x15.to), .int .i64 x15.owes], pp17x1 d2, pp17x2 d2, pp17x3 d2, Hp.rec_ b1 [.slice none 0 0, .slice none 0 0, .slice none 0 0, .int .i64 0, .bool false], Hp.own FZ 1 cv (codesQ n (qs0 n) cs), Hp.rec_ b5 [pv, .map (some mc), .map (some ma), .bool s.dn], Hp.own FP 4 pv s.ps, Hp.map Try.prog 45 pairL vN mc s.ca, Hp.map Try.prog 45 pairL vN ma s.an, pp17x10 d2, pp17x11 d2, pp17x12 d2, pp17x13 d2, pp17x14 d2, pp17x15 d2])
        have u1 := congrFun pp17x1e d2
        simp only [m5, cond_true, cond_false] at u1
        have u2 := congrFun pp17x2e d2
        simp only [m11, cond_true, cond_false] at u2
        have u3 := congrFun pp17x3e d2
        simp only [m13, m15, cond_true, cond_false] at u3
        have u10 := congrFun pp17x10e d2
        simp only [m4, m5, cond_true, cond_false] at u10
        have u11 := congrFun pp17x11e d2
        simp only [m10, m11, cond_true, cond_false] at u11
        have u12 : pp17x12 d2 = pp17x12 d := by rw [hd2, pp17x12e]; rfl
        have u13 : pp17x13 d2 = pp17x13 d := by rw [hd2, pp17x13e]; rfl
        have u14 : pp17x14 d2 = pp17x14 d := by rw [hd2, pp17x14e]; rfl
        have u15 : pp17x15 d2 = pp17x15 d := by rw [hd2, pp17x15e]; rfl
        rw [u1, u2, u3, u10, u11, u12, u13, u14, u15]
        subst hd2
        exact H2
      · intro d hc hdi hpre a w hf H
        change Sat _ _ (sep [Hp.rec_ b16 [.bool x15.works, .bool x15.bound, .int .i64 (toI x15.to), .int .i64 x15.owes], pp17x1 d, pp17x2 d, pp17x3 d, Hp.rec_ b1 [.slice none 0 0, .slice none 0 0, .slice none 0 0, .int .i64 0, .bool false], Hp.own FZ 1 cv (codesQ n (qs0 n) cs), Hp.rec_ b5 [pv, .map (some mc), .map (some ma), .bool s.dn], Hp.own FP 4 pv s.ps, Hp.map Try.prog 45 pairL vN mc s.ca, Hp.map Try.prog 45 pairL vN ma s.an, pp17x10 d, pp17x11 d, pp17x12 d, pp17x13 d, pp17x14 d, pp17x15 d]) at H
        have q11 : dn d 11 = true := hpre 11 (by kernel_rfl)
        have q13 : dn d 13 = true := hpre 13 (by kernel_rfl)
        have q4 : dn d 4 = true := hpre 4 (by kernel_rfl)
        have q5 : dn d 5 = true := hpre 5 (by kernel_rfl)
        have q10 : dn d 10 = true := hpre 10 (by kernel_rfl)
        have q11 : dn d 11 = true := hpre 11 (by kernel_rfl)
        have q13 : dn d 13 = true := hpre 13 (by kernel_rfl)
        have q15 := hdi
        have e11 : IsS (dv d 11) := H.factAt (k := 15) rfl (by rw [pp17x15e]; simp only [q11, cond_true])
        have e4 : dv d 4 = .slice (some ⟨sB (dv d 4), 0, none⟩) 1 1 := H.factAt (k := 12) rfl (by rw [pp17x12e]; simp only [q4, cond_true])
        have e5 : IsS (dv d 5) := H.factAt (k := 13) rfl (by rw [pp17x13e]; simp only [q5, cond_true])
        have e10 : dv d 10 = .slice (some ⟨sB (dv d 10), 0, none⟩) 1 1 := H.factAt (k := 14) rfl (by rw [pp17x14e]; simp only [q10, cond_true])
        have n1 : pp17x1 d = Hp.own FB 1 (dv d 5) (((s.ps.take j).map (·.works)) ++ [x15.works]) := by rw [pp17x1e]; simp only [q5, cond_true, cond_false]
        have n2 : pp17x2 d = Hp.own FB 1 (dv d 11) (((s.ps.take j).map (·.bound)) ++ [x15.bound]) := by rw [pp17x2e]; simp only [q11, cond_true, cond_false]
        have n3 : pp17x3 d = Hp.rec_ b7 [cv, (dv d 5), bv, .int .i64 0, .bool false] := by rw [pp17x3e]; simp only [q13, q15, cond_true, cond_false]
        have n10 : pp17x10 d = 1 := by rw [pp17x10e]; simp only [q4, q5, cond_true, cond_false]
        have n11 : pp17x11 d = 1 := by rw [pp17x11e]; simp only [q10, q11, cond_true, cond_false]
        rw [n1, n2, n3, n10, n11] at H
        have s11 := hf.add hf.slots 11 rfl (by kernel_rfl) rfl q11 (v := (dv d 11)) rfl
        refine EffAt.mono (Eff.at_ s11 H (eff_store rfl Try.ty24 rfl rfl (us := [(dv d 11)]) e11.cellsL rfl e11.all (k := 3) rfl rfl (vs' := [cv, (dv d 5), (dv d 11), .int .i64 0, .bool false]) rfl (l' := [Hp.rec_ b16 [.bool x15.works, .bool x15.bound, .int .i64 (toI x15.to), .int .i64 x15.owes], Hp.own FB 1 (dv d 5) (((s.ps.take j).map (·.works)) ++ [x15.works]), Hp.own FB 1 (dv d 11) (((s.ps.take j).map (·.bound)) ++ [x15.bound]), Hp.rec_ b7 [cv, (dv d 5), (dv d 11), .int .i64 0, .bool false], Hp.rec_ b1 [.slice none 0 0, .slice none 0 0, .slice none 0 0, .int .i64 0, .bool false], Hp.own FZ 1 cv (codesQ n (qs0 n) cs), Hp.rec_ b5 [pv, .map (some mc), .map (some ma), .bool s.dn], Hp.own FP 4 pv s.ps, Hp.map Try.prog 45 pairL vN mc s.ca, Hp.map Try.prog 45 pairL vN ma s.an, 1, 1, pp17x12 d, pp17x13 d, pp17x14 d, pp17x15 d]) rfl)) ?_
        rintro v w2 ⟨_, rfl, H2⟩
        obtain ⟨d2, hd2⟩ : ∃ d2, d2 = upd d 15 v := ⟨_, rfl⟩
        have m15 : dn d2 15 = true := by rw [hd2]; rfl
        have m11 : dn d2 11 = true := by rw [hd2]; exact q11
        have m13 : dn d2 13 = true := by rw [hd2]; exact q13
        have m4 : dn d2 4 = true := by rw [hd2]; exact q4
        have m5 : dn d2 5 = true := by rw [hd2]; exact q5
        have m10 : dn d2 10 = true := by rw [hd2]; exact q10
        rw [← hd2]
        change Sat _ _ (sep [Hp.rec_ b16 [.bool x15.works, .bool x15.bound, .int .i64 (toI x15.to), .int .i64 x15.owes], pp17x1 d2, pp17x2 d2, pp17x3 d2, Hp.rec_ b1 [.slice none 0 0, .slice none 0 0, .slice none 0 0, .int .i64 0, .bool false], Hp.own FZ 1 cv (codesQ n (qs0 n) cs), Hp.rec_ b5 [pv, .map (some mc), .map (some ma), .bool s.dn], Hp.own FP 4 pv s.ps, Hp.map Try.prog 45 pairL vN mc s.ca, Hp.map Try.prog 45 pairL vN ma s.an, pp17x10 d2, pp17x11 d2, pp17x12 d2, pp17x13 d2, pp17x14 d2, pp17x15 d2])
        have u1 := congrFun pp17x1e d2
        simp only [m5, cond_true, cond_false] at u1
        have u2 := congrFun pp17x2e d2
        simp only [m11, cond_true, cond_false] at u2
        have u3 := congrFun pp17x3e d2
        simp only [m13, m15, cond_true, cond_false] at u3
        have u10 := congrFun pp17x10e d2
        simp only [m4, m5, cond_true, cond_false] at u10
        have u11 := congrFun pp17x11e d2
        simp only [m10, m11, cond_true, cond_false] at u11
        have u12 : pp17x12 d2 = pp17x12 d := by rw [hd2, pp17x12e]; rfl
        have u13 : pp17x13 d2 = pp17x13 d := by rw [hd2, pp17x13e]; rfl
        have u14 : pp17x14 d2 = pp17x14 d := by rw [hd2, pp17x14e]; rfl
        have u15 : pp17x15 d2 = pp17x15 d := by rw [hd2, pp17x15e]; rfl
        rw [u1, u2, u3, u10, u11, u12, u13, u14, u15]
        subst hd2
        exact H2
      · intro d hc hall a hf w H
        change Sat _ _ (sep [Hp.rec_ b16 [.bool x15.works, .bool x15.bound, .int .i64 (toI x15.to), .int .i64 x15.owes], pp17x1 d, pp17x2 d, pp17x3 d, Hp.rec_ b1 [.slice none 0 0, .slice none 0 0, .slice none 0 0, .int .i64 0, .bool false], Hp.own FZ 1 cv (codesQ n (qs0 n) cs), Hp.rec_ b5 [pv, .map (some mc), .map (some ma), .bool s.dn], Hp.own FP 4 pv s.ps, Hp.map Try.prog 45 pairL vN mc s.ca, Hp.map Try.prog 45 pairL vN ma s.an, pp17x10 d, pp17x11 d, pp17x12 d, pp17x13 d, pp17x14 d, pp17x15 d]) at H
        have q4 : dn d 4 = true := hall 4 rfl
        have q5 : dn d 5 = true := hall 5 rfl
        have q10 : dn d 10 = true := hall 10 rfl
        have q11 : dn d 11 = true := hall 11 rfl
        have q13 : dn d 13 = true := hall 13 rfl
        have q15 : dn d 15 = true := hall 15 rfl
        have e4 : dv d 4 = .slice (some ⟨sB (dv d 4), 0, none⟩) 1 1 := H.factAt (k := 12) rfl (by rw [pp17x12e]; simp only [q4, cond_true])
        have e5 : IsS (dv d 5) := H.factAt (k := 13) rfl (by rw [pp17x13e]; simp only [q5, cond_true])
        have e10 : dv d 10 = .slice (some ⟨sB (dv d 10), 0, none⟩) 1 1 := H.factAt (k := 14) rfl (by rw [pp17x14e]; simp only [q10, cond_true])
        have e11 : IsS (dv d 11) := H.factAt (k := 15) rfl (by rw [pp17x15e]; simp only [q11, cond_true])
        have n1 : pp17x1 d = Hp.own FB 1 (dv d 5) (((s.ps.take j).map (·.works)) ++ [x15.works]) := by rw [pp17x1e]; simp only [q5, cond_true, cond_false]
        have n2 : pp17x2 d = Hp.own FB 1 (dv d 11) (((s.ps.take j).map (·.bound)) ++ [x15.bound]) := by rw [pp17x2e]; simp only [q11, cond_true, cond_false]
        have n3 : pp17x3 d = Hp.rec_ b7 [cv, (dv d 5), (dv d 11), .int .i64 0, .bool false] := by rw [pp17x3e]; simp only [q13, q15, cond_true, cond_false]
        have n10 : pp17x10 d = 1 := by rw [pp17x10e]; simp only [q4, q5, cond_true, cond_false]
        have n11 : pp17x11 d = 1 := by rw [pp17x11e]; simp only [q10, q11, cond_true, cond_false]
        have n12 : pp17x12 d = Hp.pure (dv d 4 = .slice (some ⟨sB (dv d 4), 0, none⟩) 1 1) := by rw [pp17x12e]; simp only [q4, cond_true]
        have n13 : pp17x13 d = Hp.pure (IsS (dv d 5)) := by rw [pp17x13e]; simp only [q5, cond_true]
        have n14 : pp17x14 d = Hp.pure (dv d 10 = .slice (some ⟨sB (dv d 10), 0, none⟩) 1 1) := by rw [pp17x14e]; simp only [q10, cond_true]
        have n15 : pp17x15 d = Hp.pure (IsS (dv d 11)) := by rw [pp17x15e]; simp only [q11, cond_true]
        rw [n1, n2, n3, n10, n11, n12, n13, n14, n15] at H
        clear n1 n2 n3 n10 n11 n12 n13 n14 n15
        obtain ⟨z22, hz22⟩ : ∃ b, b = sB (dv d 4) := ⟨_, rfl⟩
        rw [← hz22] at e4 H
        have s4 := hf.add hf.slots 4 rfl rfl rfl q4 (v := .slice (some ⟨z22, 0, none⟩) 1 1) e4
        obtain ⟨z23, hz23⟩ : ∃ b, b = dv d 5 := ⟨_, rfl⟩
        rw [← hz23] at e5 H
        have s5 := hf.add s4 5 rfl rfl rfl q5 (v := z23) hz23.symm
        obtain ⟨z24, hz24⟩ : ∃ b, b = sB (dv d 10) := ⟨_, rfl⟩
        rw [← hz24] at e10 H
        have s10 := hf.add s5 10 rfl rfl rfl q10 (v := .slice (some ⟨z24, 0, none⟩) 1 1) e10
        obtain ⟨z25, hz25⟩ : ∃ b, b = dv d 11 := ⟨_, rfl⟩
        rw [← hz25] at e11 H
        have s11 := hf.add s10 11 rfl rfl rfl q11 (v := z25) hz25.symm
        refine Gx.use s11 H ?_
        refine Gx.drop 15 rfl ?_
        refine Gx.drop 14 rfl ?_
        refine Gx.drop 13 rfl ?_
        refine Gx.drop 12 rfl ?_
        refine Gx.drop 11 rfl ?_
        refine Gx.drop 10 rfl ?_
        refine Gx.norm (l' := [Hp.rec_ b16 [.bool x15.works, .bool x15.bound, .int .i64 (toI x15.to), .int .i64 x15.owes], Hp.own FB 1 z23 (((s.ps.take j).map (·.works)) ++ [x15.works]), Hp.own FB 1 z25 (((s.ps.take j).map (·.bound)) ++ [x15.bound]), Hp.rec_ b7 [cv, z23, z25, .int .i64 0, .bool false], Hp.rec_ b1 [.slice none 0 0, .slice none 0 0, .slice none 0 0, .int .i64 0, .bool false], Hp.own FZ 1 cv (codesQ n (qs0 n) cs), Hp.rec_ b5 [pv, .map (some mc), .map (some ma), .bool s.dn], Hp.own FP 4 pv s.ps, Hp.map Try.prog 45 pairL vN mc s.ca, Hp.map Try.prog 45 pairL vN ma s.an]) rfl ?_
        refine Gx.blkN ?_
        refine Gx.thenN ?_
        refine Gx.region ?_
        refine Gx.val rfl rfl rfl (val_add rfl rfl rfl (r := ((j + 1 : Nat) : Int)) (w64 (by omega) (by omega))) ?_
        refine Gx.val rfl rfl rfl (val_move rfl rfl) ?_
        refine Gx.done ?_
        refine Gx.thenN ?_
        refine Gx.drop 0 rfl ?_
        refine Gx.norm (l' := [Hp.own FB 1 z23 ((s.ps.take (j + 1)).map (·.works)), Hp.own FB 1 z25 ((s.ps.take (j + 1)).map (·.bound)), Hp.rec_ b7 [cv, z23, z25, .int .i64 0, .bool false], Hp.rec_ b1 [.slice none 0 0, .slice none 0 0, .slice none 0 0, .int .i64 0, .bool false], Hp.own FZ 1 cv (codesQ n (qs0 n) cs), Hp.rec_ b5 [pv, .map (some mc), .map (some ma), .bool s.dn], Hp.own FP 4 pv s.ps, Hp.map Try.prog 45 pairL vN mc s.ca, Hp.map Try.prog 45 pairL vN ma s.an]) (by rw [take_of hx15, List.map_append, List.map_append]; rfl) ?_
        exact Gx.round (j + 1, z23, z25) (by omega) (by omega) ((.cons rfl (.cons rfl (.cons rfl (.cons rfl (.cons rfl (.cons rfl .nil))))))) rfl
    · refine Gx.exit ?_
      refine Gx.thenE ?_
      refine Gx.thenE ?_
      refine Gx.blkE ?_
      refine Gx.thenN ?_
      refine Gx.seq ?_
      refine Gx.seq ?_
      have ej : j = s.ps.length := by omega
      subst ej
      refine Gx.norm (l' := [Hp.own FB 1 wv (s.ps.map (·.works)), Hp.own FB 1 bv (s.ps.map (·.bound)), Hp.rec_ b7 [cv, wv, bv, .int .i64 0, .bool false], Hp.rec_ b1 [.slice none 0 0, .slice none 0 0, .slice none 0 0, .int .i64 0, .bool false], Hp.own FZ 1 cv (codesQ n (qs0 n) cs), Hp.rec_ b5 [pv, .map (some mc), .map (some ma), .bool s.dn], Hp.own FP 4 pv s.ps, Hp.map Try.prog 45 pairL vN mc s.ca, Hp.map Try.prog 45 pairL vN ma s.an]) (by rw [List.take_length] <;> rfl) ?_
      refine Gx.regionQ Try.mixed (by kernel_rfl) ?_
      refine Gq.val rfl rfl rfl (val_move rfl rfl) ?_
      refine Gq.val rfl rfl rfl (val_nilCheck rfl rfl) ?_
      refine Gq.val rfl rfl rfl (Val.cast (val_fieldAddr rfl Try.underlying39 rfl Try.ty37 rfl rfl) (v' := ptr b5 1) rfl) ?_
      refine Gq.val rfl rfl rfl (val_load rfl Try.ty37 rfl rfl (cell_rec (k := 5) rfl rfl)) ?_
      refine Gq.val rfl rfl rfl (val_move rfl rfl) ?_
      refine Gq.val rfl rfl rfl (val_nilCheck rfl rfl) ?_
      refine Gq.val rfl rfl rfl (Val.cast (val_fieldAddr rfl Try.underlying39 rfl Try.ty37 rfl rfl) (v' := ptr b5 2) rfl) ?_
      refine Gq.val rfl rfl rfl (val_load rfl Try.ty37 rfl rfl (cell_rec (k := 5) rfl rfl)) ?_
      refine Gq.val rfl rfl rfl (val_build rfl (qs := [(0, .map (some mc)), (1, .map (some ma))]) rfl rfl (fun w => by go_simp) (v := .agg #[.map (some mc), .map (some ma)])) ?_
      refine Gq.val rfl rfl rfl (val_move rfl rfl) ?_
      refine Gq.done ?_
      refine Gx.thenN ?_
      refine Gx.block ?_
      refine Gx.front 8 rfl ?_
      refine Gx.front 8 rfl ?_
      refine Gx.front 8 rfl ?_
      refine Gx.front 8 rfl ?_
      refine Gx.front 8 rfl ?_
      refine Gx.front 6 rfl ?_
      refine Gx.front 6 rfl ?_
      refine Gx.front 8 rfl ?_
      refine Gx.front 8 rfl ?_
      refine Gx.loop (ι := Nat) (fun ξ => (ξ ≤ 2)) (fun ξ => [(4, ptr b1 0), (6, ptr b5 0), (7, ptr b7 0), (87, .agg #[.map (some mc), .map (some ma)]), (88, .int .i64 ((ξ : Nat) : Int))]) (fun ξ => [Hp.rec_ b7 [cv, wv, bv, .int .i64 ((awQ s ξ : Nat) : Int), .bool false], Hp.rec_ b1 [.slice none 0 0, .slice none 0 0, .slice none 0 0, .int .i64 0, .bool false], Hp.own FB 1 wv (s.ps.map (·.works)), Hp.own FB 1 bv (s.ps.map (·.bound)), Hp.own FZ 1 cv (codesQ n (qs0 n) cs), Hp.rec_ b5 [pv, .map (some mc), .map (some ma), .bool s.dn], Hp.own FP 4 pv s.ps, Hp.map Try.prog 45 pairL vN mc s.ca, Hp.map Try.prog 45 pairL vN ma s.an]) (fun ξ => 2 - ξ) 0 (by omega) ((.cons rfl (.cons rfl (.cons rfl (.cons rfl (.cons rfl .nil)))))) rfl ?_
      rintro q hq
      refine Gx.know (m' := [(4, ptr b1 0), (6, ptr b5 0), (7, ptr b7 0), (87, .agg #[.map (some mc), .map (some ma)]), (88, .int .i64 ((q : Nat) : Int))]) (.cons rfl (.cons rfl (.cons rfl (.cons rfl (.cons rfl .nil))))) (Gx.norm (l' := [Hp.rec_ b7 [cv, wv, bv, .int .i64 ((awQ s q : Nat) : Int), .bool false], Hp.rec_ b1 [.slice none 0 0, .slice none 0 0, .slice none 0 0, .int .i64 0, .bool false], Hp.own FB 1 wv (s.ps.map (·.works)), Hp.own FB 1 bv (s.ps.map (·.bound)), Hp.own FZ 1 cv (codesQ n (qs0 n) cs), Hp.rec_ b5 [pv, .map (some mc), .map (some ma), .bool s.dn], Hp.own FP 4 pv s.ps, Hp.map Try.prog 45 pairL vN mc s.ca, Hp.map Try.prog 45 pairL vN ma s.an]) rfl ?_)
      rcases (show q = 0 ∨ q = 1 ∨ q = 2 by omega) with rfl | rfl | rfl
      · refine Gx.know (m' := [(4, ptr b1 0), (6, ptr b5 0), (7, ptr b7 0), (87, .agg #[.map (some mc), .map (some ma)]), (88, .int .i64 0)]) (.cons rfl (.cons rfl (.cons rfl (.cons rfl (.cons rfl .nil))))) (Gx.norm (l' := [Hp.rec_ b7 [cv, wv, bv, .int .i64 ((awQ s 0 : Nat) : Int), .bool false], Hp.rec_ b1 [.slice none 0 0, .slice none 0 0, .slice none 0 0, .int .i64 0, .bool false], Hp.own FB 1 wv (s.ps.map (·.works)), Hp.own FB 1 bv (s.ps.map (·.bound)), Hp.own FZ 1 cv (codesQ n (qs0 n) cs), Hp.rec_ b5 [pv, .map (some mc), .map (some ma), .bool s.dn], Hp.own FP 4 pv s.ps, Hp.map Try.prog 45 pairL vN mc s.ca, Hp.map Try.prog 45 pairL vN ma s.an]) rfl ?_)
        refine Gx.seq ?_
        refine Gx.region ?_
        refine Gx.val rfl rfl rfl (Val.cast (val_lss rfl rfl rfl) (v' := .bool true) rfl) ?_
        refine Gx.done ?_
        refine Gx.thenN ?_
        refine Gx.seq ?_
        refine Gx.t rfl ?_
        refine Gx.skip ?_
        refine Gx.thenN ?_
        refine Gx.seq ?_
        refine Gx.block ?_
        refine Gx.seq ?_
        refine Gx.region ?_
        refine Gx.val rfl rfl rfl (val_index (i := 0) rfl Try.underlying43 Try.ty37 rfl rfl rfl rfl (by decide) rfl) ?_
        refine Gx.val rfl rfl rfl (val_assign rfl rfl) ?_
        refine Gx.done ?_
        refine Gx.thenN ?_
        refine Gx.seq ?_
        refine Gx.region ?_
        refine Gx.val rfl rfl rfl (val_move rfl rfl) ?_
        refine Gx.eff rfl rfl rfl (eff_range rfl Try.underlying37 rfl (k := 7) rfl) ?_
        rintro _ _ ⟨r26, rfl, rfl⟩
        refine Gx.norm (l' := [Hp.rec_ b7 [cv, wv, bv, .int .i64 ((awQ s 0 : Nat) : Int), .bool false], Hp.rec_ b1 [.slice none 0 0, .slice none 0 0, .slice none 0 0, .int .i64 0, .bool false], Hp.own FB 1 wv (s.ps.map (·.works)), Hp.own FB 1 bv (s.ps.map (·.bound)), Hp.own FZ 1 cv (codesQ n (qs0 n) cs), Hp.rec_ b5 [pv, .map (some mc), .map (some ma), .bool s.dn], Hp.own FP 4 pv s.ps, Hp.iter Try.prog 45 pairL vN mc r26 s.ca s.ca, Hp.map Try.prog 45 pairL vN ma s.an]) rfl ?_
        refine Gx.done ?_
        refine Gx.thenN ?_
        refine Gx.block ?_
        refine Gx.loop (ι := Cn × Nat) (fun ξ => (ξ.2 + sumM ξ.1 = awQ s 0 + sumM s.ca)) (fun ξ => [(4, ptr b1 0), (6, ptr b5 0), (7, ptr b7 0), (87, .agg #[.map (some mc), .map (some ma)]), (88, .int .i64 0), (92, ptr r26 0)]) (fun ξ => [Hp.rec_ b7 [cv, wv, bv, .int .i64 ((ξ.2 : Nat) : Int), .bool false], Hp.rec_ b1 [.slice none 0 0, .slice none 0 0, .slice none 0 0, .int .i64 0, .bool false], Hp.own FB 1 wv (s.ps.map (·.works)), Hp.own FB 1 bv (s.ps.map (·.bound)), Hp.own FZ 1 cv (codesQ n (qs0 n) cs), Hp.rec_ b5 [pv, .map (some mc), .map (some ma), .bool s.dn], Hp.own FP 4 pv s.ps, Hp.iter Try.prog 45 pairL vN mc r26 s.ca ξ.1, Hp.map Try.prog 45 pairL vN ma s.an]) (fun ξ => ξ.1.length) (s.ca, (awQ s 0)) (by first | rfl | omega | (simp only [awQ])) ((.cons rfl (.cons rfl (.cons rfl (.cons rfl (.cons rfl (.cons rfl .nil))))))) rfl ?_
        rintro ⟨left, acc⟩ hacc
        dsimp only at hacc
        refine Gx.know (m' := [(4, ptr b1 0), (6, ptr b5 0), (7, ptr b7 0), (87, .agg #[.map (some mc), .map (some ma)]), (88, .int .i64 0), (92, ptr r26 0)]) (.cons rfl (.cons rfl (.cons rfl (.cons rfl (.cons rfl (.cons rfl .nil)))))) (Gx.norm (l' := [Hp.rec_ b7 [cv, wv, bv, .int .i64 ((acc : Nat) : Int), .bool false], Hp.rec_ b1 [.slice none 0 0, .slice none 0 0, .slice none 0 0, .int .i64 0, .bool false], Hp.own FB 1 wv (s.ps.map (·.works)), Hp.own FB 1 bv (s.ps.map (·.bound)), Hp.own FZ 1 cv (codesQ n (qs0 n) cs), Hp.rec_ b5 [pv, .map (some mc), .map (some ma), .bool s.dn], Hp.own FP 4 pv s.ps, Hp.iter Try.prog 45 pairL vN mc r26 s.ca left, Hp.map Try.prog 45 pairL vN ma s.an]) rfl ?_)
        refine Gx.seq ?_
        refine Gx.region ?_
        refine Gx.eff rfl rfl rfl (eff_next (kf := pairV) rfl Try.kL (fun _ _ => trivial) rfl (k := 7) rfl) ?_
        rintro _ _ (⟨hl27, rfl, rfl⟩ | ⟨ka28, xv29, rs30, hp31, rfl, rfl⟩)
        · refine Gx.norm (l' := [Hp.rec_ b7 [cv, wv, bv, .int .i64 ((acc : Nat) : Int), .bool false], Hp.rec_ b1 [.slice none 0 0, .slice none 0 0, .slice none 0 0, .int .i64 0, .bool false], Hp.own FB 1 wv (s.ps.map (·.works)), Hp.own FB 1 bv (s.ps.map (·.bound)), Hp.own FZ 1 cv (codesQ n (qs0 n) cs), Hp.rec_ b5 [pv, .map (some mc), .map (some ma), .bool s.dn], Hp.own FP 4 pv s.ps, Hp.map Try.prog 45 pairL vN mc s.ca, Hp.map Try.prog 45 pairL vN ma s.an]) rfl ?_
          refine Gx.val rfl rfl rfl (val_extract rfl rfl rfl) ?_
          refine Gx.done ?_
          refine Gx.thenN ?_
          refine Gx.seq ?_
          refine Gx.f rfl ?_
          refine Gx.exit ?_
          refine Gx.thenE ?_
          refine Gx.thenE ?_
          refine Gx.blkE ?_
          refine Gx.blkN ?_
          refine Gx.thenN ?_
          have ea : acc = awQ s 1 := by rw [hl27] at hacc; simp only [sumM, awQ] at hacc ⊢; omega
          refine Gx.norm (l' := [Hp.rec_ b7 [cv, wv, bv, .int .i64 ((awQ s 1 : Nat) : Int), .bool false], Hp.rec_ b1 [.slice none 0 0, .slice none 0 0, .slice none 0 0, .int .i64 0, .bool false], Hp.own FB 1 wv (s.ps.map (·.works)), Hp.own FB 1 bv (s.ps.map (·.bound)), Hp.own FZ 1 cv (codesQ n (qs0 n) cs), Hp.rec_ b5 [pv, .map (some mc), .map (some ma), .bool s.dn], Hp.own FP 4 pv s.ps, Hp.map Try.prog 45 pairL vN mc s.ca, Hp.map Try.prog 45 pairL vN ma s.an]) (by rw [ea] <;> rfl) ?_
          refine Gx.region ?_
          refine Gx.val rfl rfl rfl (val_add rfl rfl rfl (r := 1) (w64 (by omega) (by omega))) ?_
          refine Gx.val rfl rfl rfl (val_move rfl rfl) ?_
          refine Gx.done ?_
          refine Gx.thenN ?_
          exact Gx.round 1 (by decide) (by decide) ((.cons rfl (.cons rfl (.cons rfl (.cons rfl (.cons rfl .nil)))))) rfl
        · refine Gx.norm (l' := [Hp.rec_ b7 [cv, wv, bv, .int .i64 ((acc : Nat) : Int), .bool false], Hp.rec_ b1 [.slice none 0 0, .slice none 0 0, .slice none 0 0, .int .i64 0, .bool false], Hp.own FB 1 wv (s.ps.map (·.works)), Hp.own FB 1 bv (s.ps.map (·.bound)), Hp.own FZ 1 cv (codesQ n (qs0 n) cs), Hp.rec_ b5 [pv, .map (some mc), .map (some ma), .bool s.dn], Hp.own FP 4 pv s.ps, Hp.iterE Try.prog 45 pairL vN pairV mc r26 s.ca rs30 ka28 xv29, Hp.map Try.prog 45 pairL vN ma s.an]) rfl ?_
          refine Gx.val rfl rfl rfl (val_extract rfl rfl rfl) ?_
          refine Gx.done ?_
          refine Gx.thenN ?_
          refine Gx.seq ?_
          refine Gx.t rfl ?_
          refine Gx.skip ?_
          refine Gx.thenN ?_
          refine Gx.block ?_
          refine Gx.seq ?_
          refine Gx.region ?_
          refine Gx.eff rfl rfl rfl (eff_entry rfl rfl (k := 7) rfl) ?_
          rintro _ _ ⟨rfl, rfl⟩
          refine Gx.norm (l' := [Hp.rec_ b7 [cv, wv, bv, .int .i64 ((acc : Nat) : Int), .bool false], Hp.rec_ b1 [.slice none 0 0, .slice none 0 0, .slice none 0 0, .int .i64 0, .bool false], Hp.own FB 1 wv (s.ps.map (·.works)), Hp.own FB 1 bv (s.ps.map (·.bound)), Hp.own FZ 1 cv (codesQ n (qs0 n) cs), Hp.rec_ b5 [pv, .map (some mc), .map (some ma), .bool s.dn], Hp.own FP 4 pv s.ps, Hp.iter Try.prog 45 pairL vN mc r26 s.ca rs30, Hp.map Try.prog 45 pairL vN ma s.an]) rfl ?_
          refine Gx.val rfl rfl rfl (val_extract rfl rfl rfl) ?_
          refine Gx.val rfl rfl rfl (val_assign rfl rfl) ?_
          refine Gx.done ?_
          refine Gx.thenN ?_
          refine Gx.region ?_
          refine Gx.val rfl rfl rfl (Val.cast (val_fieldAddr rfl Try.underlying26 rfl Try.ty3 rfl rfl) (v' := ptr b7 3) rfl) ?_
          refine Gx.val rfl rfl rfl (val_load rfl Try.ty3 rfl rfl (cell_rec (k := 0) rfl rfl)) ?_
          refine Gx.val rfl rfl rfl (val_move rfl rfl) ?_
          have e1 := sumM_perm hp31
          simp only [sumM, awQ] at e1 hacc
          refine Gx.val rfl rfl rfl (val_add rfl rfl rfl (r := ((acc + xv29 : Nat) : Int)) (w64 (by omega) (by omega))) ?_
          refine Gx.val rfl rfl rfl (Val.cast (val_fieldAddr rfl Try.underlying26 rfl Try.ty3 rfl rfl) (v' := ptr b7 3) rfl) ?_
          refine Gx.eff0 rfl rfl (eff_store rfl Try.ty3 rfl rfl (us := [.int .i64 ((acc + xv29 : Nat) : Int)]) rfl rfl rfl (k := 0) rfl rfl (vs' := [cv, wv, bv, .int .i64 ((acc + xv29 : Nat) : Int), .bool false]) rfl (l' := [Hp.rec_ b7 [cv, wv, bv, .int .i64 ((acc + xv29 : Nat) : Int), .bool false], Hp.rec_ b1 [.slice none 0 0, .slice none 0 0, .slice none 0 0, .int .i64 0, .bool false], Hp.own FB 1 wv (s.ps.map (·.works)), Hp.own FB 1 bv (s.ps.map (·.bound)), Hp.own FZ 1 cv (codesQ n (qs0 n) cs), Hp.rec_ b5 [pv, .map (some mc), .map (some ma), .bool s.dn], Hp.own FP 4 pv s.ps, Hp.iter Try.prog 45 pairL vN mc r26 s.ca rs30, Hp.map Try.prog 45 pairL vN ma s.an]) rfl) ?_
          rintro _ _ rfl
          refine Gx.done ?_
          refine Gx.blkN ?_
          refine Gx.thenN ?_
          exact Gx.round (rs30, acc + xv29) (by have e1 := sumM_perm hp31; simp only [sumM, awQ] at e1 hacc ⊢; omega) (by have e9 := nil_of_perm hp31; dsimp only at e9 ⊢; omega) ((.cons rfl (.cons rfl (.cons rfl (.cons rfl (.cons rfl (.cons rfl .nil))))))) rfl
      · refine Gx.know (m' := [(4, ptr b1 0), (6, ptr b5 0), (7, ptr b7 0), (87, .agg #[.map (some mc), .map (some ma)]), (88, .int .i64 1)]) (.cons rfl (.cons rfl (.cons rfl (.cons rfl (.cons rfl .nil))))) (Gx.norm (l' := [Hp.rec_ b7 [cv, wv, bv, .int .i64 ((awQ s 1 : Nat) : Int), .bool false], Hp.rec_ b1 [.slice none 0 0, .slice none 0 0, .slice none 0 0, .int .i64 0, .bool false], Hp.own FB 1 wv (s.ps.map (·.works)), Hp.own FB 1 bv (s.ps.map (·.bound)), Hp.own FZ 1 cv (codesQ n (qs0 n) cs), Hp.rec_ b5 [pv, .map (some mc), .map (some ma), .bool s.dn], Hp.own FP 4 pv s.ps, Hp.map Try.prog 45 pairL vN mc s.ca, Hp.map Try.prog 45 pairL vN ma s.an]) rfl ?_)
        refine Gx.seq ?_
        refine Gx.region ?_
        refine Gx.val rfl rfl rfl (Val.cast (val_lss rfl rfl rfl) (v' := .bool true) rfl) ?_
        refine Gx.done ?_
        refine Gx.thenN ?_
        refine Gx.seq ?_
        refine Gx.t rfl ?_
        refine Gx.skip ?_
        refine Gx.thenN ?_
        refine Gx.seq ?_
        refine Gx.block ?_
        refine Gx.seq ?_
        refine Gx.region ?_
        refine Gx.val rfl rfl rfl (val_index (i := 1) rfl Try.underlying43 Try.ty37 rfl rfl rfl rfl (by decide) rfl) ?_
        refine Gx.val rfl rfl rfl (val_assign rfl rfl) ?_
        refine Gx.done ?_
        refine Gx.thenN ?_
        refine Gx.seq ?_
        refine Gx.region ?_
        refine Gx.val rfl rfl rfl (val_move rfl rfl) ?_
        refine Gx.eff rfl rfl rfl (eff_range rfl Try.underlying37 rfl (k := 8) rfl) ?_
        rintro _ _ ⟨r32, rfl, rfl⟩
        refine Gx.norm (l' := [Hp.rec_ b7 [cv, wv, bv, .int .i64 ((awQ s 1 : Nat) : Int), .bool false], Hp.rec_ b1 [.slice none 0 0, .slice none 0 0, .slice none 0 0, .int .i64 0, .bool false], Hp.own FB 1 wv (s.ps.map (·.works)), Hp.own FB 1 bv (s.ps.map (·.bound)), Hp.own FZ 1 cv (codesQ n (qs0 n) cs), Hp.rec_ b5 [pv, .map (some mc), .map (some ma), .bool s.dn], Hp.own FP 4 pv s.ps, Hp.map Try.prog 45 pairL vN mc s.ca, Hp.iter Try.prog 45 pairL vN ma r32 s.an s.an]) rfl ?_
        refine Gx.done ?_
        refine Gx.thenN ?_
        refine Gx.block ?_
        refine Gx.loop (ι := Cn × Nat) (fun ξ => (ξ.2 + sumM ξ.1 = awQ s 1 + sumM s.an)) (fun ξ => [(4, ptr b1 0), (6, ptr b5 0), (7, ptr b7 0), (87, .agg #[.map (some mc), .map (some ma)]), (88, .int .i64 1), (92, ptr r32 0)]) (fun ξ => [Hp.rec_ b7 [cv, wv, bv, .int .i64 ((ξ.2 : Nat) : Int), .bool false], Hp.rec_ b1 [.slice none 0 0, .slice none 0 0, .slice none 0 0, .int .i64 0, .bool false], Hp.own FB 1 wv (s.ps.map (·.works)), Hp.own FB 1 bv (s.ps.map (·.bound)), Hp.own FZ 1 cv (codesQ n (qs0 n) cs), Hp.rec_ b5 [pv, .map (some mc), .map (some ma), .bool s.dn], Hp.own FP 4 pv s.ps, Hp.map Try.prog 45 pairL vN mc s.ca, Hp.iter Try.prog 45 pairL vN ma r32 s.an ξ.1]) (fun ξ => ξ.1.length) (s.an, (awQ s 1)) (by first | rfl | omega | (simp only [awQ])) ((.cons rfl (.cons rfl (.cons rfl (.cons rfl (.cons rfl (.cons rfl .nil))))))) rfl ?_
        rintro ⟨left, acc⟩ hacc
        dsimp only at hacc
        refine Gx.know (m' := [(4, ptr b1 0), (6, ptr b5 0), (7, ptr b7 0), (87, .agg #[.map (some mc), .map (some ma)]), (88, .int .i64 1), (92, ptr r32 0)]) (.cons rfl (.cons rfl (.cons rfl (.cons rfl (.cons rfl (.cons rfl .nil)))))) (Gx.norm (l' := [Hp.rec_ b7 [cv, wv, bv, .int .i64 ((acc : Nat) : Int), .bool false], Hp.rec_ b1 [.slice none 0 0, .slice none 0 0, .slice none 0 0, .int .i64 0, .bool false], Hp.own FB 1 wv (s.ps.map (·.works)), Hp.own FB 1 bv (s.ps.map (·.bound)), Hp.own FZ 1 cv (codesQ n (qs0 n) cs), Hp.rec_ b5 [pv, .map (some mc), .map (some ma), .bool s.dn], Hp.own FP 4 pv s.ps, Hp.map Try.prog 45 pairL vN mc s.ca, Hp.iter Try.prog 45 pairL vN ma r32 s.an left]) rfl ?_)
        refine Gx.seq ?_
        refine Gx.region ?_
        refine Gx.eff rfl rfl rfl (eff_next (kf := pairV) rfl Try.kL (fun _ _ => trivial) rfl (k := 8) rfl) ?_
        rintro _ _ (⟨hl33, rfl, rfl⟩ | ⟨ka34, xv35, rs36, hp37, rfl, rfl⟩)
        · refine Gx.norm (l' := [Hp.rec_ b7 [cv, wv, bv, .int .i64 ((acc : Nat) : Int), .bool false], Hp.rec_ b1 [.slice none 0 0, .slice none 0 0, .slice none 0 0, .int .i64 0, .bool false], Hp.own FB 1 wv (s.ps.map (·.works)), Hp.own FB 1 bv (s.ps.map (·.bound)), Hp.own FZ 1 cv (codesQ n (qs0 n) cs), Hp.rec_ b5 [pv, .map (some mc), .map (some ma), .bool s.dn], Hp.own FP 4 pv s.ps, Hp.map Try.prog 45 pairL vN mc s.ca, Hp.map Try.prog 45 pairL vN ma s.an]) rfl ?_
          refine Gx.val rfl rfl rfl (val_extract rfl rfl rfl) ?_
          refine Gx.done ?_
          refine Gx.thenN ?_
          refine Gx.seq ?_
          refine Gx.f rfl ?_
          refine Gx.exit ?_
          refine Gx.thenE ?_
          refine Gx.thenE ?_
          refine Gx.blkE ?_
          refine Gx.blkN ?_
          refine Gx.thenN ?_
          have ea : acc = awQ s 2 := by rw [hl33] at hacc; simp only [sumM, awQ] at hacc ⊢; omega
          refine Gx.norm (l' := [Hp.rec_ b7 [cv, wv, bv, .int .i64 ((awQ s 2 : Nat) : Int), .bool false], Hp.rec_ b1 [.slice none 0 0, .slice none 0 0, .slice none 0 0, .int .i64 0, .bool false], Hp.own FB 1 wv (s.ps.map (·.works)), Hp.own FB 1 bv (s.ps.map (·.bound)), Hp.own FZ 1 cv (codesQ n (qs0 n) cs), Hp.rec_ b5 [pv, .map (some mc), .map (some ma), .bool s.dn], Hp.own FP 4 pv s.ps, Hp.map Try.prog 45 pairL vN mc s.ca, Hp.map Try.prog 45 pairL vN ma s.an]) (by rw [ea] <;> rfl) ?_
          refine Gx.region ?_
          refine Gx.val rfl rfl rfl (val_add rfl rfl rfl (r := 2) (w64 (by omega) (by omega))) ?_
          refine Gx.val rfl rfl rfl (val_move rfl rfl) ?_
          refine Gx.done ?_
          refine Gx.thenN ?_
          exact Gx.round 2 (by decide) (by decide) ((.cons rfl (.cons rfl (.cons rfl (.cons rfl (.cons rfl .nil)))))) rfl
        · refine Gx.norm (l' := [Hp.rec_ b7 [cv, wv, bv, .int .i64 ((acc : Nat) : Int), .bool false], Hp.rec_ b1 [.slice none 0 0, .slice none 0 0, .slice none 0 0, .int .i64 0, .bool false], Hp.own FB 1 wv (s.ps.map (·.works)), Hp.own FB 1 bv (s.ps.map (·.bound)), Hp.own FZ 1 cv (codesQ n (qs0 n) cs), Hp.rec_ b5 [pv, .map (some mc), .map (some ma), .bool s.dn], Hp.own FP 4 pv s.ps, Hp.map Try.prog 45 pairL vN mc s.ca, Hp.iterE Try.prog 45 pairL vN pairV ma r32 s.an rs36 ka34 xv35]) rfl ?_
          refine Gx.val rfl rfl rfl (val_extract rfl rfl rfl) ?_
          refine Gx.done ?_
          refine Gx.thenN ?_
          refine Gx.seq ?_
          refine Gx.t rfl ?_
          refine Gx.skip ?_
          refine Gx.thenN ?_
          refine Gx.block ?_
          refine Gx.seq ?_
          refine Gx.region ?_
          refine Gx.eff rfl rfl rfl (eff_entry rfl rfl (k := 8) rfl) ?_
          rintro _ _ ⟨rfl, rfl⟩
          refine Gx.norm (l' := [Hp.rec_ b7 [cv, wv, bv, .int .i64 ((acc : Nat) : Int), .bool false], Hp.rec_ b1 [.slice none 0 0, .slice none 0 0, .slice none 0 0, .int .i64 0, .bool false], Hp.own FB 1 wv (s.ps.map (·.works)), Hp.own FB 1 bv (s.ps.map (·.bound)), Hp.own FZ 1 cv (codesQ n (qs0 n) cs), Hp.rec_ b5 [pv, .map (some mc), .map (some ma), .bool s.dn], Hp.own FP 4 pv s.ps, Hp.map Try.prog 45 pairL vN mc s.ca, Hp.iter Try.prog 45 pairL vN ma r32 s.an rs36]) rfl ?_
          refine Gx.val rfl rfl rfl (val_extract rfl rfl rfl) ?_
          refine Gx.val rfl rfl rfl (val_assign rfl rfl) ?_
          refine Gx.done ?_
          refine Gx.thenN ?_
          refine Gx.region ?_
          refine Gx.val rfl rfl rfl (Val.cast (val_fieldAddr rfl Try.underlying26 rfl Try.ty3 rfl rfl) (v' := ptr b7 3) rfl) ?_
          refine Gx.val rfl rfl rfl (val_load rfl Try.ty3 rfl rfl (cell_rec (k := 0) rfl rfl)) ?_
          refine Gx.val rfl rfl rfl (val_move rfl rfl) ?_
          have e1 := sumM_perm hp37
          simp only [sumM, awQ] at e1 hacc
          refine Gx.val rfl rfl rfl (val_add rfl rfl rfl (r := ((acc + xv35 : Nat) : Int)) (w64 (by omega) (by omega))) ?_
          refine Gx.val rfl rfl rfl (Val.cast (val_fieldAddr rfl Try.underlying26 rfl Try.ty3 rfl rfl) (v' := ptr b7 3) rfl) ?_
          refine Gx.eff0 rfl rfl (eff_store rfl Try.ty3 rfl rfl (us := [.int .i64 ((acc + xv35 : Nat) : Int)]) rfl rfl rfl (k := 0) rfl rfl (vs' := [cv, wv, bv, .int .i64 ((acc + xv35 : Nat) : Int), .bool false]) rfl (l' := [Hp.rec_ b7 [cv, wv, bv, .int .i64 ((acc + xv35 : Nat) : Int), .bool false], Hp.rec_ b1 [.slice none 0 0, .slice none 0 0, .slice none 0 0, .int .i64 0, .bool false], Hp.own FB 1 wv (s.ps.map (·.works)), Hp.own FB 1 bv (s.ps.map (·.bound)), Hp.own FZ 1 cv (codesQ n (qs0 n) cs), Hp.rec_ b5 [pv, .map (some mc), .map (some ma), .bool s.dn], Hp.own FP 4 pv s.ps, Hp.map Try.prog 45 pairL vN mc s.ca, Hp.iter Try.prog 45 pairL vN ma r32 s.an rs36]) rfl) ?_
          rintro _ _ rfl
          refine Gx.done ?_
          refine Gx.blkN ?_
          refine Gx.thenN ?_
          exact Gx.round (rs36, acc + xv35) (by have e1 := sumM_perm hp37; simp only [sumM, awQ] at e1 hacc ⊢; omega) (by have e9 := nil_of_perm hp37; dsimp only at e9 ⊢; omega) ((.cons rfl (.cons rfl (.cons rfl (.cons rfl (.cons rfl (.cons rfl .nil))))))) rfl
      · refine Gx.know (m' := [(4, ptr b1 0), (6, ptr b5 0), (7, ptr b7 0), (87, .agg #[.map (some mc), .map (some ma)]), (88, .int .i64 2)]) (.cons rfl (.cons rfl (.cons rfl (.cons rfl (.cons rfl .nil))))) (Gx.norm (l' := [Hp.rec_ b7 [cv, wv, bv, .int .i64 ((awQ s 2 : Nat) : Int), .bool false], Hp.rec_ b1 [.slice none 0 0, .slice none 0 0, .slice none 0 0, .int .i64 0, .bool false], Hp.own FB 1 wv (s.ps.map (·.works)), Hp.own FB 1 bv (s.ps.map (·.bound)), Hp.own FZ 1 cv (codesQ n (qs0 n) cs), Hp.rec_ b5 [pv, .map (some mc), .map (some ma), .bool s.dn], Hp.own FP 4 pv s.ps, Hp.map Try.prog 45 pairL vN mc s.ca, Hp.map Try.prog 45 pairL vN ma s.an]) rfl ?_)
        refine Gx.seq ?_
        refine Gx.region ?_
        refine Gx.val rfl rfl rfl (Val.cast (val_lss rfl rfl rfl) (v' := .bool false) rfl) ?_
        refine Gx.done ?_
        refine Gx.thenN ?_
        refine Gx.seq ?_
        refine Gx.f rfl ?_
        refine Gx.exit ?_
        refine Gx.thenE ?_
        refine Gx.thenE ?_
        refine Gx.blkE ?_
        refine Gx.thenN ?_
        refine Gx.seq ?_
        refine Gx.region ?_
        refine Gx.val rfl rfl rfl (val_move rfl rfl) ?_
        refine Gx.val rfl rfl rfl (val_nilCheck rfl rfl) ?_
        refine Gx.val rfl rfl rfl (Val.cast (val_fieldAddr rfl Try.underlying39 rfl Try.ty4 rfl rfl) (v' := ptr b5 3) rfl) ?_
        refine Gx.val rfl rfl rfl (val_load rfl Try.ty4 rfl rfl (cell_rec (k := 5) rfl rfl)) ?_
        refine Gx.val rfl rfl rfl (Val.cast (val_fieldAddr rfl Try.underlying26 rfl Try.ty4 rfl rfl) (v' := ptr b7 4) rfl) ?_
        refine Gx.eff0 rfl rfl (eff_store rfl Try.ty4 rfl rfl (us := [.bool s.dn]) rfl rfl rfl (k := 0) rfl rfl (vs' := [cv, wv, bv, .int .i64 ((awQ s 2 : Nat) : Int), .bool s.dn]) rfl (l' := [Hp.rec_ b7 [cv, wv, bv, .int .i64 ((awQ s 2 : Nat) : Int), .bool s.dn], Hp.rec_ b1 [.slice none 0 0, .slice none 0 0, .slice none 0 0, .int .i64 0, .bool false], Hp.own FB 1 wv (s.ps.map (·.works)), Hp.own FB 1 bv (s.ps.map (·.bound)), Hp.own FZ 1 cv (codesQ n (qs0 n) cs), Hp.rec_ b5 [pv, .map (some mc), .map (some ma), .bool s.dn], Hp.own FP 4 pv s.ps, Hp.map Try.prog 45 pairL vN mc s.ca, Hp.map Try.prog 45 pairL vN ma s.an]) rfl) ?_
        rintro _ _ rfl
        refine Gx.done ?_
        refine Gx.thenN ?_
        refine Gx.seq ?_
        refine Gx.fact (p := ∃ a c, wv = .slice a (List.length (s.ps.map (·.works))) c) (fun w H => own_form (H.at_ (k := 2) rfl)) (fun h => ?_)
        obtain ⟨a38, c39, h⟩ := h
        subst h
        refine Gx.fact (p := ∃ a c, bv = .slice a (List.length (s.ps.map (·.bound))) c) (fun w H => own_form (H.at_ (k := 3) rfl)) (fun h => ?_)
        obtain ⟨a40, c41, h⟩ := h
        subst h
        refine Gx.fact (p := ∃ a c, cv = .slice a (List.length (codesQ n (qs0 n) cs)) c) (fun w H => own_form (H.at_ (k := 4) rfl)) (fun h => ?_)
        obtain ⟨a42, c43, h⟩ := h
        subst h
        refine Gx.region ?_
        refine Gx.val rfl rfl rfl (Val.cast (val_loadA rfl Try.ty26 rfl rfl rfl (cells_rec (k := 0) rfl)) (v' := .agg #[(.slice a42 (List.length (codesQ n (qs0 n) cs)) c43), (.slice a38 (List.length (s.ps.map (·.works))) c39), (.slice a40 (List.length (s.ps.map (·.bound))) c41), .int .i64 ((awQ s 2 : Nat) : Int), .bool s.dn]) rfl) ?_
        refine Gx.eff0 rfl rfl (eff_store rfl Try.ty26 rfl rfl (us := [(.slice a42 (List.length (codesQ n (qs0 n) cs)) c43), (.slice a38 (List.length (s.ps.map (·.works))) c39), (.slice a40 (List.length (s.ps.map (·.bound))) c41), .int .i64 ((awQ s 2 : Nat) : Int), .bool s.dn]) rfl rfl rfl (k := 1) rfl rfl (vs' := [(.slice a42 (List.length (codesQ n (qs0 n) cs)) c43), (.slice a38 (List.length (s.ps.map (·.works))) c39), (.slice a40 (List.length (s.ps.map (·.bound))) c41), .int .i64 ((awQ s 2 : Nat) : Int), .bool s.dn]) rfl (l' := [Hp.rec_ b7 [(.slice a42 (List.length (codesQ n (qs0 n) cs)) c43), (.slice a38 (List.length (s.ps.map (·.works))) c39), (.slice a40 (List.length (s.ps.map (·.bound))) c41), .int .i64 ((awQ s 2 : Nat) : Int), .bool s.dn], Hp.rec_ b1 [(.slice a42 (List.length (codesQ n (qs0 n) cs)) c43), (.slice a38 (List.length (s.ps.map (·.works))) c39), (.slice a40 (List.length (s.ps.map (·.bound))) c41), .int .i64 ((awQ s 2 : Nat) : Int), .bool s.dn], Hp.own FB 1 (.slice a38 (List.length (s.ps.map (·.works))) c39) (s.ps.map (·.works)), Hp.own FB 1 (.slice a40 (List.length (s.ps.map (·.bound))) c41) (s.ps.map (·.bound)), Hp.own FZ 1 (.slice a42 (List.length (codesQ n (qs0 n) cs)) c43) (codesQ n (qs0 n) cs), Hp.rec_ b5 [pv, .map (some mc), .map (some ma), .bool s.dn], Hp.own FP 4 pv s.ps, Hp.map Try.prog 45 pairL vN mc s.ca, Hp.map Try.prog 45 pairL vN ma s.an]) rfl) ?_
        rintro _ _ rfl
        refine Gx.val rfl rfl rfl (val_assign rfl rfl) ?_
        refine Gx.done ?_
        refine Gx.thenN ?_
        refine Gx.ret ?_
        refine Gx.drop 8 rfl ?_
        refine Gx.drop 7 rfl ?_
        refine Gx.drop 6 rfl ?_
        refine Gx.drop 5 rfl ?_
        refine Gx.drop 0 rfl ?_
        refine Gx.front 0 rfl ?_
        refine Gx.front 2 rfl ?_
        refine Gx.front 2 rfl ?_
        refine Gx.front 3 rfl ?_
        refine Gx.retC2 Try.results7 Try.ty26 rfl rfl (us := [(.slice a42 (List.length (codesQ n (qs0 n) cs)) c43), (.slice a38 (List.length (s.ps.map (·.works))) c39), (.slice a40 (List.length (s.ps.map (·.bound))) c41), .int .i64 ((awQ s 2 : Nat) : Int), .bool s.dn]) rfl (k := 3) rfl rfl ?_
        subst hsd
        exact ⟨_, _, _, _, rfl, rfl⟩
  rintro v l w ⟨cv, wv, bv, R, rfl, rfl⟩ H
  have h3 := codesQ_len n cs (qs0 n)
  have h4 : (stQ n (qs0 n) cs).ps.length = n := by rw [stQ_len, qs0_len]
  exact ⟨cv, wv, bv, rfl, (H.at_ (k := 0) rfl).sls (by omega), (H.at_ (k := 1) rfl).sls (by rw [List.length_map]; omega), (H.at_ (k := 2) rfl).sls (by rw [List.length_map]; omega)⟩
end Go.Proofs.Ytgnpngiecnkfiaa
