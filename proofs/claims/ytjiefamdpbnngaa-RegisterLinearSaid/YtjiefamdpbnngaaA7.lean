/- A script played. The walk. No condition. -/
import Derived.Test.YtjiefamdpbnngaaA6
namespace Go.Proofs.Ytjiefamdpbnngaa
open Go.RowKit
set_option linter.unusedVariables false
set_option linter.unusedSimpArgs false
set_option maxRecDepth 100000

abbrev FC (c : Cl) : List Value := [.int .i64 c.kind, .int .i64 c.who, .int .i64 c.loc, .int .i64 c.src, .bool c.wr, .int .i64 c.val]
theorem FC_len (c : Cl) : (FC c).length = 6 := rfl
abbrev FO (o : Oq) : List Value := [.int .i64 ((o.who : Nat) : Int), .int .i64 0, .bool o.wr, .int .i64 o.val, .int .i64 ((o.frm : Nat) : Int), .int .i64 o.to]
theorem FO_len (o : Oq) : (FO o).length = 6 := rfl
theorem FO_one (p : Oq) (u : Value) (h : u ∈ FO p) : u.oneCell' = true := by simp [FO] at h; rcases h with rfl | rfl | rfl | rfl | rfl | rfl <;> rfl
abbrev FZ (x : Int) : List Value := [.int .i64 x]
theorem FZ_len (x : Int) : (FZ x).length = 1 := rfl
theorem FZ_one (p : Int) (u : Value) (h : u ∈ FZ p) : u.oneCell' = true := by simp [FZ] at h; subst h; rfl
theorem Try.eZ : Elem Try.prog 25 29 (.int .i64 0) 1 8 := ⟨Try.underlying25, by kernel_rfl, rfl, by decide⟩
theorem Try.eO : Elem Try.prog 26 33 (.agg #[.int .i64 0, .int .i64 0, .bool false, .int .i64 0, .int .i64 0, .int .i64 0]) 6 48 := ⟨Try.underlying26, by kernel_rfl, rfl, by decide⟩
theorem stR_snoc {l : List Cl} {i : Nat} {c : Cl} {s : RS} (h : l[i]? = some c) : stR s 0 (l.take (i + 1)) = (stepR (stR s 0 (l.take i)) c i).2 := by
  have hl := (List.getElem?_eq_some_iff.1 h).1
  rw [take_of h, stR_app, Nat.zero_add, List.length_take, Nat.min_eq_left (by omega)]; rfl
theorem codesR_snoc {l : List Cl} {i : Nat} {c : Cl} {s : RS} (h : l[i]? = some c) : codesR s 0 (l.take (i + 1)) = codesR s 0 (l.take i) ++ [(stepR (stR s 0 (l.take i)) c i).1] := by
  have hl := (List.getElem?_eq_some_iff.1 h).1
  rw [take_of h, codesR_app, Nat.zero_add, List.length_take, Nat.min_eq_left (by omega)]; rfl
theorem play_no {W : World} {k : Int} {sv : Value} {cs : List Cl} (hs : SlS FC 6 W sv cs) (hbad : k < 1 ∨ 5 < k ∨ 120 < (cs.length : Int)) :
    Calls Try.prog 8 #[.int .i64 k, sv] W fun e w' => e = .returned (.tuple #[.agg #[.slice none 0 0, .slice none 0 0], .int .i64 1]) ∧ Below W.heap.size W w' := by
  refine calls_pure (Gx.enter (l := []) Try.func8 rfl Try.ntmps8 rfl (Sat.start W) ?_)
  refine Gx.know (m' := [(0, .int .i64 k), (1, sv)]) (.cons rfl (.cons rfl .nil)) ?_
  refine Gx.seq ?_
  refine Gx.region ?_
  refine Gx.eff rfl rfl rfl (eff_alloc rfl Try.ty28 (vs := [.slice none 0 0, .slice none 0 0]) rfl) ?_
  rintro _ _ ⟨b1, rfl, rfl⟩
  refine Gx.val rfl rfl rfl (val_assign rfl rfl) ?_
  refine Gx.done ?_
  refine Gx.thenN ?_
  refine Gx.seq ?_
  refine Gx.seq ?_
  refine Gx.region ?_
  refine Gx.val rfl rfl rfl (val_move rfl rfl) ?_
  refine Gx.val rfl rfl rfl (val_lss rfl rfl rfl) ?_
  refine Gx.val rfl rfl rfl (val_move rfl rfl) ?_
  refine Gx.cases (t := 14) rfl (fun h2 => ?_) (fun h2 => ?_)
  · refine Gx.skipg rfl rfl rfl rfl rfl rfl ?_
    refine Gx.skipg rfl rfl rfl rfl rfl rfl ?_
    refine Gx.val rfl rfl rfl (val_pickT rfl rfl rfl) ?_
    refine Gx.val rfl rfl rfl (val_move rfl rfl) ?_
    refine Gx.skipg rfl rfl rfl rfl rfl rfl ?_
    refine Gx.skipg rfl rfl rfl rfl rfl rfl ?_
    refine Gx.skipg rfl rfl rfl rfl rfl rfl ?_
    refine Gx.val rfl rfl rfl (val_pickT rfl rfl rfl) ?_
    refine Gx.done ?_
    refine Gx.thenN ?_
    refine Gx.t rfl ?_
    refine Gx.seq ?_
    refine Gx.region ?_
    refine Gx.val rfl rfl rfl (val_build rfl (qs := []) rfl rfl (fun w => by go_simp) (v := .agg #[.slice none 0 0, .slice none 0 0])) ?_
    refine Gx.eff0 rfl rfl (eff_store rfl Try.ty28 rfl rfl (us := [.slice none 0 0, .slice none 0 0]) rfl rfl rfl (k := 0) rfl (rfl) (vs' := [.slice none 0 0, .slice none 0 0]) (rfl) (l' := [Hp.rec_ b1 [.slice none 0 0, .slice none 0 0]]) rfl) ?_
    rintro _ _ rfl
    refine Gx.val rfl rfl rfl (val_assign rfl rfl) ?_
    refine Gx.done ?_
    refine Gx.thenN ?_
    refine Gx.ret ?_
    refine Gx.thenR ?_
    refine Gx.retC2 Try.results8 Try.ty28 rfl rfl (us := [.slice none 0 0, .slice none 0 0]) rfl (k := 0) rfl rfl ?_
    rfl
  · refine Gx.valg rfl rfl rfl rfl rfl (val_move rfl rfl) ?_
    refine Gx.valg rfl rfl rfl rfl rfl (val_gtr rfl rfl rfl) ?_
    refine Gx.val rfl rfl rfl (val_pickF rfl rfl rfl) ?_
    refine Gx.val rfl rfl rfl (val_move rfl rfl) ?_
    refine Gx.cases (t := 18) rfl (fun h3 => ?_) (fun h3 => ?_)
    · refine Gx.skipg rfl rfl rfl rfl rfl rfl ?_
      refine Gx.skipg rfl rfl rfl rfl rfl rfl ?_
      refine Gx.skipg rfl rfl rfl rfl rfl rfl ?_
      refine Gx.val rfl rfl rfl (val_pickT rfl rfl rfl) ?_
      refine Gx.done ?_
      refine Gx.thenN ?_
      refine Gx.t rfl ?_
      refine Gx.seq ?_
      refine Gx.region ?_
      refine Gx.val rfl rfl rfl (val_build rfl (qs := []) rfl rfl (fun w => by go_simp) (v := .agg #[.slice none 0 0, .slice none 0 0])) ?_
      refine Gx.eff0 rfl rfl (eff_store rfl Try.ty28 rfl rfl (us := [.slice none 0 0, .slice none 0 0]) rfl rfl rfl (k := 0) rfl (rfl) (vs' := [.slice none 0 0, .slice none 0 0]) (rfl) (l' := [Hp.rec_ b1 [.slice none 0 0, .slice none 0 0]]) rfl) ?_
      rintro _ _ rfl
      refine Gx.val rfl rfl rfl (val_assign rfl rfl) ?_
      refine Gx.done ?_
      refine Gx.thenN ?_
      refine Gx.ret ?_
      refine Gx.thenR ?_
      refine Gx.retC2 Try.results8 Try.ty28 rfl rfl (us := [.slice none 0 0, .slice none 0 0]) rfl (k := 0) rfl rfl ?_
      rfl
    · refine Gx.valg rfl rfl rfl rfl rfl (val_move rfl rfl) ?_
      refine Gx.valg rfl rfl rfl rfl rfl (val_len rfl Try.underlying22 rfl (len_base hs)) ?_
      refine Gx.valg rfl rfl rfl rfl rfl (val_gtr rfl rfl rfl) ?_
      refine Gx.val rfl rfl rfl (val_pickF rfl rfl rfl) ?_
      refine Gx.done ?_
      refine Gx.thenN ?_
      refine Gx.dec rfl (fun h4 => ?_) (fun h4 => ?_)
      · refine Gx.seq ?_
        refine Gx.region ?_
        refine Gx.val rfl rfl rfl (val_build rfl (qs := []) rfl rfl (fun w => by go_simp) (v := .agg #[.slice none 0 0, .slice none 0 0])) ?_
        refine Gx.eff0 rfl rfl (eff_store rfl Try.ty28 rfl rfl (us := [.slice none 0 0, .slice none 0 0]) rfl rfl rfl (k := 0) rfl (rfl) (vs' := [.slice none 0 0, .slice none 0 0]) (rfl) (l' := [Hp.rec_ b1 [.slice none 0 0, .slice none 0 0]]) rfl) ?_
        rintro _ _ rfl
        refine Gx.val rfl rfl rfl (val_assign rfl rfl) ?_
        refine Gx.done ?_
        refine Gx.thenN ?_
        refine Gx.ret ?_
        refine Gx.thenR ?_
        refine Gx.retC2 Try.results8 Try.ty28 rfl rfl (us := [.slice none 0 0, .slice none 0 0]) rfl (k := 0) rfl rfl ?_
        rfl
      · exfalso; omega

theorem play_ok {W : World} {n : Nat} {sv : Value} {cs : List Cl} (h1n : 1 ≤ n) (h5n : n ≤ 5) (hs : SlS FC 6 W sv cs) (hcl : cs.length ≤ 120) :
    Calls Try.prog 8 #[.int .i64 ((n : Nat) : Int), sv] W fun e w' => ∃ v, e = .returned v ∧ (∃ cv pv, v = .tuple #[.agg #[cv, pv], .int .i64 0] ∧ SlS FZ 1 w' cv (codesR (rs0 n) 0 cs) ∧ SlS FO 6 w' pv (stR (rs0 n) 0 cs).ops) ∧ Below W.heap.size W w' := by
  refine calls_some (S := fun v l => ∃ cv pv P, v = .tuple #[.agg #[cv, pv], .int .i64 0] ∧ l = [Hp.own FO 6 pv (stR (rs0 n) 0 cs).ops, Hp.own FZ 1 cv (codesR (rs0 n) 0 cs), P]) (Gx.enter (l := []) Try.func8 rfl Try.ntmps8 rfl (Sat.start W) ?_) ?_
  refine Gx.know (m' := [(0, .int .i64 ((n : Nat) : Int)), (1, sv)]) (.cons rfl (.cons rfl .nil)) ?_
  refine Gx.seq ?_
  refine Gx.region ?_
  refine Gx.eff rfl rfl rfl (eff_alloc rfl Try.ty28 (vs := [.slice none 0 0, .slice none 0 0]) rfl) ?_
  rintro _ _ ⟨b1, rfl, rfl⟩
  refine Gx.val rfl rfl rfl (val_assign rfl rfl) ?_
  refine Gx.done ?_
  refine Gx.thenN ?_
  refine Gx.seq ?_
  refine Gx.seq ?_
  refine Gx.region ?_
  refine Gx.val rfl rfl rfl (val_move rfl rfl) ?_
  refine Gx.val rfl rfl rfl (val_lss rfl rfl rfl) ?_
  refine Gx.val rfl rfl rfl (val_move rfl rfl) ?_
  refine Gx.slot (t := 14) (v := .bool false) (look_decF rfl (by omega)) ?_
  refine Gx.valg rfl rfl rfl rfl rfl (val_move rfl rfl) ?_
  refine Gx.valg rfl rfl rfl rfl rfl (val_gtr rfl rfl rfl) ?_
  refine Gx.val rfl rfl rfl (val_pickF rfl rfl rfl) ?_
  refine Gx.val rfl rfl rfl (val_move rfl rfl) ?_
  refine Gx.slot (t := 18) (v := .bool false) (look_decF rfl (by omega)) ?_
  refine Gx.valg rfl rfl rfl rfl rfl (val_move rfl rfl) ?_
  refine Gx.valg rfl rfl rfl rfl rfl (val_len rfl Try.underlying22 rfl (len_base hs)) ?_
  refine Gx.valg rfl rfl rfl rfl rfl (val_gtr rfl rfl rfl) ?_
  refine Gx.val rfl rfl rfl (val_pickF rfl rfl rfl) ?_
  refine Gx.done ?_
  refine Gx.thenN ?_
  refine Gx.decF rfl (by omega) ?_
  refine Gx.skip ?_
  refine Gx.thenN ?_
  refine Gx.seq ?_
  refine Gx.region ?_
  refine Gx.val rfl rfl rfl (val_move rfl rfl) ?_
  refine Gx.eff rfl rfl rfl (eff_makeSlice (n := n) (f := Fsd) rfl Try.underlying42 Try.ty51 rfl rfl (rfl) (rfl) FS_len sd0 rfl (by omega) (by omega)) ?_
  rintro v2 _ ⟨hiv2, rfl⟩
  refine Gx.val rfl rfl rfl (val_build rfl (qs := [(0, v2)]) rfl rfl (fun w => by obtain ⟨_, _, _, rfl⟩ := hiv2; go_simp) (v := .agg #[v2, .slice none 0 0, .pointer none, .pointer none, .pointer none, .pointer none])) ?_
  refine Gx.eff rfl rfl rfl (eff_box rfl rfl (vs := [v2, .slice none 0 0, .pointer none, .pointer none, .pointer none, .pointer none]) rfl) ?_
  rintro _ _ ⟨b3, rfl, rfl⟩
  refine Gx.val rfl rfl rfl (val_assign rfl rfl) ?_
  refine Gx.done ?_
  refine Gx.thenN ?_
  refine Gx.seq ?_
  refine Gx.ownNil FP 1 ?_
  refine Gx.front 0 rfl ?_
  refine Gx.front 2 rfl ?_
  refine Gx.front 2 rfl ?_
  refine Gx.sat (l' := [regH b3 v2 (rs0 n), Hp.rec_ b1 [.slice none 0 0, .slice none 0 0]]) (fun w H => regH.shut (ov := .slice none 0 0) (mo := []) rfl (H.cast (by show _ * (_ * (_ * _)) = (_ * (_ * (_ * 1))) * _; rw [Hp.mul_one]; simp only [Hp.mul_assoc]; rfl))) ?_
  refine Gx.region ?_
  refine Gx.eff rfl rfl rfl (eff_alloc rfl Try.ty28 (vs := [.slice none 0 0, .slice none 0 0]) rfl) ?_
  rintro _ _ ⟨b4, rfl, rfl⟩
  refine Gx.done ?_
  refine Gx.thenN ?_
  refine Gx.seq ?_
  refine Gx.seq ?_
  refine Gx.ownNil FZ 1 ?_
  refine Gx.region ?_
  refine Gx.val rfl rfl rfl (val_move rfl rfl) ?_
  refine Gx.val rfl rfl rfl (val_len rfl Try.underlying22 rfl (len_base hs)) ?_
  refine Gx.val rfl rfl rfl (val_move rfl rfl) ?_
  refine Gx.done ?_
  refine Gx.thenN ?_
  refine Gx.block ?_
  refine Gx.front 2 rfl ?_
  refine Gx.front 3 rfl ?_
  refine Gx.front 3 rfl ?_
  refine Gx.front 3 rfl ?_
  refine Gx.loop (ι := Nat × Value) (fun ξ => (ξ.1 ≤ cs.length) ∧ (IsS ξ.2)) (fun ξ => [(4, ptr b1 0), (6, ptr b3 0), (7, ptr b4 0), (28, sv), (29, .int .i64 ((cs.length : Nat) : Int)), (30, .int .i64 ((ξ.1 : Nat) : Int))]) (fun ξ => [Hp.own FZ 1 ξ.2 (codesR (rs0 n) 0 (cs.take ξ.1)), Hp.rec_ b4 [ξ.2, .slice none 0 0], Hp.rec_ b1 [.slice none 0 0, .slice none 0 0], regH b3 v2 (stR (rs0 n) 0 (cs.take ξ.1))]) (fun ξ => cs.length - ξ.1) (0, (.slice none 0 0)) ⟨by first | omega | (dsimp only; omega), ⟨none, 0, 0, rfl⟩⟩ ((.cons rfl (.cons rfl (.cons rfl (.cons rfl (.cons rfl (.cons rfl .nil))))))) rfl ?_
  rintro ⟨i, cv⟩ ⟨hi, hicv⟩
  dsimp only at hi hicv
  refine Gx.know (m' := [(4, ptr b1 0), (6, ptr b3 0), (7, ptr b4 0), (28, sv), (29, .int .i64 ((cs.length : Nat) : Int)), (30, .int .i64 ((i : Nat) : Int))]) (.cons rfl (.cons rfl (.cons rfl (.cons rfl (.cons rfl (.cons rfl .nil)))))) (Gx.norm (l' := [Hp.own FZ 1 cv (codesR (rs0 n) 0 (cs.take i)), Hp.rec_ b4 [cv, .slice none 0 0], Hp.rec_ b1 [.slice none 0 0, .slice none 0 0], regH b3 v2 (stR (rs0 n) 0 (cs.take i))]) rfl ?_)
  have inv : InvR n i (stR (rs0 n) 0 (cs.take i)) := by
    have := (InvR.zero n).run h1n (cs.take i)
    rwa [List.length_take, Nat.min_eq_left hi, Nat.zero_add] at this
  have hci : (codesR (rs0 n) 0 (cs.take i)).length = i := by rw [codesR_len, List.length_take]; omega
  refine Gx.seq ?_
  refine Gx.region ?_
  refine Gx.val rfl rfl rfl (val_lss rfl rfl rfl) ?_
  refine Gx.done ?_
  refine Gx.thenN ?_
  refine Gx.seq ?_
  refine Gx.dec rfl (fun h5 => ?_) (fun h5 => ?_)
  · refine Gx.skip ?_
    refine Gx.thenN ?_
    refine Gx.seq ?_
    refine Gx.block ?_
    refine Gx.seq ?_
    refine Gx.region ?_
    refine Gx.val rfl rfl rfl (val_move rfl rfl) ?_
    obtain ⟨x6, hx6⟩ := get_of_lt (xs := cs) (k := i) (by first | omega | (simp; omega))
    refine Gx.val rfl rfl rfl (val_ixa rfl Try.underlying22 Try.ty24 rfl rfl (j := i) (rfl) (reach_base hs hx6)) ?_
    refine Gx.val rfl rfl rfl (Val.cast (val_loadA rfl Try.ty24 rfl rfl rfl (cells_base hs hx6)) (v' := .agg #[.int .i64 x6.kind, .int .i64 x6.who, .int .i64 x6.loc, .int .i64 x6.src, .bool x6.wr, .int .i64 x6.val]) rfl) ?_
    refine Gx.eff rfl rfl rfl (eff_alloc rfl Try.ty24 (vs := [.int .i64 0, .int .i64 0, .int .i64 0, .int .i64 0, .bool false, .int .i64 0]) rfl) ?_
    rintro _ _ ⟨b7, rfl, rfl⟩
    refine Gx.val rfl rfl rfl (val_assign rfl rfl) ?_
    refine Gx.eff0 rfl rfl (eff_store rfl Try.ty24 rfl rfl (us := [.int .i64 x6.kind, .int .i64 x6.who, .int .i64 x6.loc, .int .i64 x6.src, .bool x6.wr, .int .i64 x6.val]) rfl rfl rfl (k := 0) rfl (rfl) (vs' := [.int .i64 x6.kind, .int .i64 x6.who, .int .i64 x6.loc, .int .i64 x6.src, .bool x6.wr, .int .i64 x6.val]) (rfl) (l' := [Hp.rec_ b7 [.int .i64 x6.kind, .int .i64 x6.who, .int .i64 x6.loc, .int .i64 x6.src, .bool x6.wr, .int .i64 x6.val], Hp.own FZ 1 cv (codesR (rs0 n) 0 (cs.take i)), Hp.rec_ b4 [cv, .slice none 0 0], Hp.rec_ b1 [.slice none 0 0, .slice none 0 0], regH b3 v2 (stR (rs0 n) 0 (cs.take i))]) rfl) ?_
    rintro _ _ rfl
    refine Gx.done ?_
    refine Gx.thenN ?_
    refine Gx.regionO (fun j => j == 5 || j == 6 || j == 7) 9 [0, 1, 2, 3, 4, 5, 6, 7, 8] (fun us => match us with | [] => [Hp.rec_ b7 [.int .i64 x6.kind, .int .i64 x6.who, .int .i64 x6.loc, .int .i64 x6.src, .bool x6.wr, .int .i64 x6.val], Hp.own FZ 1 cv (codesR (rs0 n) 0 (cs.take i)), Hp.rec_ b4 [cv, .slice none 0 0], Hp.rec_ b1 [.slice none 0 0, .slice none 0 0], regH b3 v2 (stR (rs0 n) 0 (cs.take i))] | [u1] => [regH b3 v2 ((stepR (stR (rs0 n) 0 (cs.take i)) x6 i).2), Hp.rec_ b7 [.int .i64 x6.kind, .int .i64 x6.who, .int .i64 x6.loc, .int .i64 x6.src, .bool x6.wr, .int .i64 x6.val], Hp.own FZ 1 cv (codesR (rs0 n) 0 (cs.take i)), Hp.rec_ b4 [cv, .slice none 0 0], Hp.rec_ b1 [.slice none 0 0, .slice none 0 0]] | [u1, u2] => [Hp.rec_ (sB u2) [.int .i64 ((stepR (stR (rs0 n) 0 (cs.take i)) x6 i).1)], regH b3 v2 ((stepR (stR (rs0 n) 0 (cs.take i)) x6 i).2), Hp.rec_ b7 [.int .i64 x6.kind, .int .i64 x6.who, .int .i64 x6.loc, .int .i64 x6.src, .bool x6.wr, .int .i64 x6.val], Hp.own FZ 1 cv (codesR (rs0 n) 0 (cs.take i)), Hp.rec_ b4 [cv, .slice none 0 0], Hp.rec_ b1 [.slice none 0 0, .slice none 0 0]] | u1 :: u2 :: u3 :: _ => [regH b3 v2 ((stepR (stR (rs0 n) 0 (cs.take i)) x6 i).2), Hp.rec_ b7 [.int .i64 x6.kind, .int .i64 x6.who, .int .i64 x6.loc, .int .i64 x6.src, .bool x6.wr, .int .i64 x6.val], Hp.own FZ 1 u3 ((codesR (rs0 n) 0 (cs.take i)) ++ [(stepR (stR (rs0 n) 0 (cs.take i)) x6 i).1]), Hp.rec_ b4 [cv, .slice none 0 0], Hp.rec_ b1 [.slice none 0 0, .slice none 0 0]]) Try.mixed (by kernel_rfl) rfl ?_
    refine Gw.val rfl rfl rfl rfl rfl (fun us => Val.cast (val_fieldAddr rfl Try.underlying28 rfl Try.ty25 rfl rfl) (v' := ptr b4 0) rfl) ?_
    refine Gw.val rfl rfl rfl rfl rfl (fun us => match us with | [] => val_load rfl Try.ty25 rfl rfl (cell_rec (k := 2) rfl rfl) | [u1] => val_load rfl Try.ty25 rfl rfl (cell_rec (k := 3) rfl rfl) | [u1, u2] => val_load rfl Try.ty25 rfl rfl (cell_rec (k := 4) rfl rfl) | u1 :: u2 :: u3 :: _ => val_load rfl Try.ty25 rfl rfl (cell_rec (k := 3) rfl rfl)) ?_
    refine Gw.val rfl rfl rfl rfl rfl (fun us => val_move rfl rfl) ?_
    refine Gw.val rfl rfl rfl rfl rfl (fun us => match us with | [] => Val.cast (val_loadA rfl Try.ty24 rfl rfl rfl (cells_rec (k := 0) rfl)) (v' := .agg #[.int .i64 x6.kind, .int .i64 x6.who, .int .i64 x6.loc, .int .i64 x6.src, .bool x6.wr, .int .i64 x6.val]) rfl | [u1] => Val.cast (val_loadA rfl Try.ty24 rfl rfl rfl (cells_rec (k := 1) rfl)) (v' := .agg #[.int .i64 x6.kind, .int .i64 x6.who, .int .i64 x6.loc, .int .i64 x6.src, .bool x6.wr, .int .i64 x6.val]) rfl | [u1, u2] => Val.cast (val_loadA rfl Try.ty24 rfl rfl rfl (cells_rec (k := 2) rfl)) (v' := .agg #[.int .i64 x6.kind, .int .i64 x6.who, .int .i64 x6.loc, .int .i64 x6.src, .bool x6.wr, .int .i64 x6.val]) rfl | u1 :: u2 :: u3 :: _ => Val.cast (val_loadA rfl Try.ty24 rfl rfl rfl (cells_rec (k := 1) rfl)) (v' := .agg #[.int .i64 x6.kind, .int .i64 x6.who, .int .i64 x6.loc, .int .i64 x6.src, .bool x6.wr, .int .i64 x6.val]) rfl) ?_
    refine Gw.val rfl rfl rfl rfl rfl (fun us => val_move rfl rfl) ?_
    refine Gw.chg rfl rfl rfl rfl rfl (fun v => v = .int .i64 ((stepR (stR (rs0 n) 0 (cs.take i)) x6 i).1)) (eff_call (vs := [ptr b3 0, .agg #[.int .i64 x6.kind, .int .i64 x6.who, .int .i64 x6.loc, .int .i64 x6.src, .bool x6.wr, .int .i64 x6.val], .int .i64 ((i : Nat) : Int)]) rfl Try.fn11 rfl (fun w H => step_H x6 inv h1n h5n (by omega) (H.at_ (k := 4) rfl))) ?_
    rintro _ rfl
    refine Gw.chg rfl rfl rfl rfl rfl (fun v => ∃ b9, v = .slice (some ⟨b9, 0, none⟩) 1 1) (Eff.mono (eff_buildSlice rfl (qs := [(0, .int .i64 ((stepR (stR (rs0 n) 0 (cs.take i)) x6 i).1))]) rfl rfl (cs := #[.int .i64 ((stepR (stR (rs0 n) 0 (cs.take i)) x6 i).1)]) (vs := [.int .i64 ((stepR (stR (rs0 n) 0 (cs.take i)) x6 i).1)]) (E := 29) rfl (fun w => by first | (go_simp; done) | (go_simp; rfl))) (by rintro _ _ ⟨b9, rfl, rfl⟩; exact ⟨⟨b9, rfl⟩, rfl⟩)) ?_
    rintro _ ⟨b9, rfl⟩
    refine Gw.chg rfl rfl rfl rfl rfl IsS (Eff.mono (eff_push (r := (stepR (stR (rs0 n) 0 (cs.take i)) x6 i).1) rfl Try.eZ FZ_len FZ_one rfl rfl (k := 0) rfl rfl (k' := 2) rfl (by rw [hci]; omega) (by rw [hci]; omega)) (fun _ _ h => ⟨h.1, congrArg sep h.2⟩)) ?_
    intro v10 hiv10
    refine Gw.val rfl rfl rfl rfl rfl (fun us => Val.cast (val_fieldAddr rfl Try.underlying28 rfl Try.ty25 rfl rfl) (v' := ptr b4 0) rfl) ?_
    refine Gw.done ?_
    refine Gx.norm (l' := [regH b3 v2 ((stepR (stR (rs0 n) 0 (cs.take i)) x6 i).2), Hp.rec_ b7 [.int .i64 x6.kind, .int .i64 x6.who, .int .i64 x6.loc, .int .i64 x6.src, .bool x6.wr, .int .i64 x6.val], Hp.own FZ 1 v10 ((codesR (rs0 n) 0 (cs.take i)) ++ [(stepR (stR (rs0 n) 0 (cs.take i)) x6 i).1]), Hp.rec_ b4 [cv, .slice none 0 0], Hp.rec_ b1 [.slice none 0 0, .slice none 0 0]]) rfl ?_
    refine Gx.eff0 rfl rfl (eff_store rfl Try.ty25 rfl rfl (us := [v10]) hiv10.cellsL rfl hiv10.all (k := 3) rfl (rfl) (vs' := [v10, .slice none 0 0]) (rfl) (l' := [regH b3 v2 ((stepR (stR (rs0 n) 0 (cs.take i)) x6 i).2), Hp.rec_ b7 [.int .i64 x6.kind, .int .i64 x6.who, .int .i64 x6.loc, .int .i64 x6.src, .bool x6.wr, .int .i64 x6.val], Hp.own FZ 1 v10 ((codesR (rs0 n) 0 (cs.take i)) ++ [(stepR (stR (rs0 n) 0 (cs.take i)) x6 i).1]), Hp.rec_ b4 [v10, .slice none 0 0], Hp.rec_ b1 [.slice none 0 0, .slice none 0 0]]) rfl) ?_
    rintro _ _ rfl
    refine Gx.done ?_
    refine Gx.blkN ?_
    refine Gx.thenN ?_
    refine Gx.region ?_
    refine Gx.val rfl rfl rfl (val_add rfl rfl rfl (r := ((i + 1 : Nat) : Int)) (w64 (by omega) (by omega))) ?_
    refine Gx.val rfl rfl rfl (val_move rfl rfl) ?_
    refine Gx.done ?_
    refine Gx.thenN ?_
    refine Gx.drop 1 rfl ?_
    refine Gx.front 0 rfl ?_
    refine Gx.front 3 rfl ?_
    refine Gx.front 3 rfl ?_
    refine Gx.front 3 rfl ?_
    refine Gx.norm (l' := [Hp.own FZ 1 v10 (codesR (rs0 n) 0 (cs.take (i + 1))), Hp.rec_ b4 [v10, .slice none 0 0], Hp.rec_ b1 [.slice none 0 0, .slice none 0 0], regH b3 v2 (stR (rs0 n) 0 (cs.take (i + 1)))]) (by rw [stR_snoc hx6, codesR_snoc hx6] <;> rfl) ?_
    exact Gx.round (i + 1, v10) ⟨by first | omega | (dsimp only; omega), hiv10⟩ (by first | omega | (dsimp only; omega)) ((.cons rfl (.cons rfl (.cons rfl (.cons rfl (.cons rfl (.cons rfl .nil))))))) rfl
  · refine Gx.exit ?_
    refine Gx.thenE ?_
    refine Gx.thenE ?_
    refine Gx.blkE ?_
    refine Gx.thenN ?_
    refine Gx.seq ?_
    refine Gx.seq ?_
    refine Gx.front 3 rfl ?_
    have ei : i = cs.length := by omega
    subst ei
    rw [List.take_length] at inv hci
    refine Gx.norm (l' := [regH b3 v2 (stR (rs0 n) 0 cs), Hp.own FZ 1 cv (codesR (rs0 n) 0 cs), Hp.rec_ b4 [cv, .slice none 0 0], Hp.rec_ b1 [.slice none 0 0, .slice none 0 0]]) (by rw [List.take_length] <;> rfl) ?_
    obtain ⟨s, hsd⟩ : ∃ s, s = stR (rs0 n) 0 cs := ⟨_, rfl⟩
    rw [← hsd] at inv
    refine Gx.norm (l' := [regH b3 v2 s, Hp.own FZ 1 cv (codesR (rs0 n) 0 cs), Hp.rec_ b4 [cv, .slice none 0 0], Hp.rec_ b1 [.slice none 0 0, .slice none 0 0]]) (by rw [hsd] <;> rfl) ?_
    obtain ⟨a0, a1, a2, a3, hnw⟩ : ∃ a0 a1 a2 a3, s.now = [a0, a1, a2, a3] := by
      have h4 := inv.nlen
      match s.now, h4 with
      | [a0, a1, a2, a3], _ => exact ⟨a0, a1, a2, a3, rfl⟩
    refine Gx.exists_ (α := {q : Value × List Om // q.2.map Om.o = s.ops}) (l' := fun q => [regP b3 s.now v2 q.1.1 s.cs q.1.2, Hp.own FZ 1 cv (codesR (rs0 n) 0 cs), Hp.rec_ b4 [cv, .slice none 0 0], Hp.rec_ b1 [.slice none 0 0, .slice none 0 0]]) (fun w H => by obtain ⟨ov, mo, hmo, H⟩ := regH.open_ H; exact ⟨⟨(ov, mo), hmo⟩, H⟩) ?_
    rintro ⟨⟨ov, mo⟩, hmo⟩
    dsimp only at hmo
    have hml : mo.length ≤ 120 := by have := inv.cnt; rw [← List.length_map (f := Om.o), hmo]; omega
    have hbl : (mo.map Om.b).length = mo.length := List.length_map ..
    refine Gx.sat (l' := [Hp.rec_ b3 [v2, ov, nowV (mo.map Om.b) a0, nowV (mo.map Om.b) a1, nowV (mo.map Om.b) a2, nowV (mo.map Om.b) a3], Hp.own Fsd 3 v2 s.cs, Hp.own FP 1 ov (mo.map Om.b), Hp.big opH mo, Hp.own FZ 1 cv (codesR (rs0 n) 0 cs), Hp.rec_ b4 [cv, .slice none 0 0], Hp.rec_ b1 [.slice none 0 0, .slice none 0 0]]) (fun w H => by rw [hnw] at H; exact (regP_open (R := sep [Hp.own FZ 1 cv (codesR (rs0 n) 0 cs), Hp.rec_ b4 [cv, .slice none 0 0], Hp.rec_ b1 [.slice none 0 0, .slice none 0 0]]) H).cast (sep4 ..)) ?_
    refine Gx.ownNil FO 6 ?_
    refine Gx.region ?_
    refine Gx.val rfl rfl rfl (val_move rfl rfl) ?_
    refine Gx.val rfl rfl rfl (val_nilCheck rfl rfl) ?_
    refine Gx.val rfl rfl rfl (Val.cast (val_fieldAddr rfl Try.underlying47 rfl Try.ty43 rfl rfl) (v' := ptr b3 1) rfl) ?_
    refine Gx.val rfl rfl rfl (val_load rfl Try.ty43 rfl rfl (cell_rec (k := 1) rfl rfl)) ?_
    refine Gx.val rfl rfl rfl (val_len rfl Try.underlying43 rfl (len_own (k := 3) rfl)) ?_
    refine Gx.val rfl rfl rfl (val_move rfl rfl) ?_
    refine Gx.done ?_
    refine Gx.thenN ?_
    refine Gx.block ?_
    refine Gx.drop 2 rfl ?_
    refine Gx.drop 1 rfl ?_
    refine Gx.front 2 rfl ?_
    refine Gx.front 2 rfl ?_
    refine Gx.front 3 rfl ?_
    refine Gx.front 5 rfl ?_
    refine Gx.front 5 rfl ?_
    refine Gx.front 5 rfl ?_
    refine Gx.loop (ι := Nat × Value) (fun ξ => (ξ.1 ≤ mo.length) ∧ (IsS ξ.2)) (fun ξ => [(4, ptr b1 0), (6, ptr b3 0), (7, ptr b4 0), (48, ov), (49, .int .i64 (((mo.map Om.b).length : Nat) : Int)), (50, .int .i64 ((ξ.1 : Nat) : Int))]) (fun ξ => [Hp.own FO 6 ξ.2 ((mo.take ξ.1).map Om.o), Hp.rec_ b4 [cv, ξ.2], Hp.rec_ b1 [.slice none 0 0, .slice none 0 0], Hp.own FZ 1 cv (codesR (rs0 n) 0 cs), Hp.own FP 1 ov (mo.map Om.b), Hp.big opH mo]) (fun ξ => mo.length - ξ.1) (0, (.slice none 0 0)) ⟨by first | omega | (dsimp only; omega), ⟨none, 0, 0, rfl⟩⟩ ((.cons rfl (.cons rfl (.cons rfl (.cons rfl (.cons rfl (.cons rfl .nil))))))) rfl ?_
    rintro ⟨j, pv⟩ ⟨hj, hipv⟩
    dsimp only at hj hipv
    refine Gx.know (m' := [(4, ptr b1 0), (6, ptr b3 0), (7, ptr b4 0), (48, ov), (49, .int .i64 (((mo.map Om.b).length : Nat) : Int)), (50, .int .i64 ((j : Nat) : Int))]) (.cons rfl (.cons rfl (.cons rfl (.cons rfl (.cons rfl (.cons rfl .nil)))))) (Gx.norm (l' := [Hp.own FO 6 pv ((mo.take j).map Om.o), Hp.rec_ b4 [cv, pv], Hp.rec_ b1 [.slice none 0 0, .slice none 0 0], Hp.own FZ 1 cv (codesR (rs0 n) 0 cs), Hp.own FP 1 ov (mo.map Om.b), Hp.big opH mo]) rfl ?_)
    refine Gx.seq ?_
    refine Gx.region ?_
    refine Gx.val rfl rfl rfl (val_lss rfl rfl rfl) ?_
    refine Gx.done ?_
    refine Gx.thenN ?_
    refine Gx.seq ?_
    refine Gx.dec rfl (fun h11 => ?_) (fun h11 => ?_)
    · refine Gx.skip ?_
      refine Gx.thenN ?_
      refine Gx.seq ?_
      refine Gx.block ?_
      refine Gx.seq ?_
      obtain ⟨x, hx⟩ := get_of_lt (xs := mo) (k := j) (by omega)
      have hxb : (mo.map Om.b)[j]? = some x.b := by rw [List.getElem?_map, hx]; rfl
      obtain ⟨R0, hb1, hb2⟩ := Hp.big_focus opH mo j x hx
      refine Gx.region ?_
      refine Gx.val rfl rfl rfl (val_ixa rfl Try.underlying43 Try.ty44 rfl rfl (j := j) (rfl) (reach_own (k := 4) rfl hxb)) ?_
      refine Gx.val rfl rfl rfl (val_load rfl Try.ty44 rfl rfl (cell_own (i := 0) (k := 4) rfl hxb rfl)) ?_
      refine Gx.val rfl rfl rfl (val_assign rfl rfl) ?_
      refine Gx.done ?_
      refine Gx.thenN ?_
      refine Gx.front 5 rfl ?_
      refine Gx.sepEq (l' := [Hp.rec_ x.b [ptr x.b2 0, .int .i64 ((x.o.best.n : Nat) : Int), .int .i64 ((x.o.best.who : Nat) : Int), .int .i64 x.o.best.val, .bool x.o.sec, .int .u32 (((mk x.o.seen) : Nat) : Int), .int .i64 ((x.o.many : Nat) : Int)], Hp.rec_ x.b2 [.int .i64 ((x.o.who : Nat) : Int), .int .i64 0, .bool x.o.wr, .int .i64 x.o.val, .int .i64 ((x.o.frm : Nat) : Int), .int .i64 x.o.to], R0, Hp.own FO 6 pv ((mo.take j).map Om.o), Hp.rec_ b4 [cv, pv], Hp.rec_ b1 [.slice none 0 0, .slice none 0 0], Hp.own FZ 1 cv (codesR (rs0 n) 0 cs), Hp.own FP 1 ov (mo.map Om.b)]) (by show Hp.big opH mo * _ = _ * (_ * (_ * _)); rw [hb1]; simp only [Hp.mul_assoc]; rfl) ?_
      refine Gx.regionO (fun j => j == 8 || j == 9) 11 [0, 1, 2, 3, 4, 5, 6, 7, 8, 9, 10] (fun us => match us with | [] => [Hp.rec_ x.b [ptr x.b2 0, .int .i64 ((x.o.best.n : Nat) : Int), .int .i64 ((x.o.best.who : Nat) : Int), .int .i64 x.o.best.val, .bool x.o.sec, .int .u32 (((mk x.o.seen) : Nat) : Int), .int .i64 ((x.o.many : Nat) : Int)], Hp.rec_ x.b2 [.int .i64 ((x.o.who : Nat) : Int), .int .i64 0, .bool x.o.wr, .int .i64 x.o.val, .int .i64 ((x.o.frm : Nat) : Int), .int .i64 x.o.to], R0, Hp.own FO 6 pv ((mo.take j).map Om.o), Hp.rec_ b4 [cv, pv], Hp.rec_ b1 [.slice none 0 0, .slice none 0 0], Hp.own FZ 1 cv (codesR (rs0 n) 0 cs), Hp.own FP 1 ov (mo.map Om.b)] | [u1] => [Hp.rec_ (sB u1) [.int .i64 ((x.o.who : Nat) : Int), .int .i64 0, .bool x.o.wr, .int .i64 x.o.val, .int .i64 ((x.o.frm : Nat) : Int), .int .i64 x.o.to], Hp.rec_ x.b [ptr x.b2 0, .int .i64 ((x.o.best.n : Nat) : Int), .int .i64 ((x.o.best.who : Nat) : Int), .int .i64 x.o.best.val, .bool x.o.sec, .int .u32 (((mk x.o.seen) : Nat) : Int), .int .i64 ((x.o.many : Nat) : Int)], Hp.rec_ x.b2 [.int .i64 ((x.o.who : Nat) : Int), .int .i64 0, .bool x.o.wr, .int .i64 x.o.val, .int .i64 ((x.o.frm : Nat) : Int), .int .i64 x.o.to], R0, Hp.own FO 6 pv ((mo.take j).map Om.o), Hp.rec_ b4 [cv, pv], Hp.rec_ b1 [.slice none 0 0, .slice none 0 0], Hp.own FZ 1 cv (codesR (rs0 n) 0 cs), Hp.own FP 1 ov (mo.map Om.b)] | u1 :: u2 :: _ => [Hp.rec_ x.b [ptr x.b2 0, .int .i64 ((x.o.best.n : Nat) : Int), .int .i64 ((x.o.best.who : Nat) : Int), .int .i64 x.o.best.val, .bool x.o.sec, .int .u32 (((mk x.o.seen) : Nat) : Int), .int .i64 ((x.o.many : Nat) : Int)], Hp.rec_ x.b2 [.int .i64 ((x.o.who : Nat) : Int), .int .i64 0, .bool x.o.wr, .int .i64 x.o.val, .int .i64 ((x.o.frm : Nat) : Int), .int .i64 x.o.to], R0, Hp.own FO 6 u2 (((mo.take j).map Om.o) ++ [x.o]), Hp.rec_ b4 [cv, pv], Hp.rec_ b1 [.slice none 0 0, .slice none 0 0], Hp.own FZ 1 cv (codesR (rs0 n) 0 cs), Hp.own FP 1 ov (mo.map Om.b)]) Try.mixed (by kernel_rfl) rfl ?_
      refine Gw.val rfl rfl rfl rfl rfl (fun us => Val.cast (val_fieldAddr rfl Try.underlying28 rfl Try.ty26 rfl rfl) (v' := ptr b4 1) rfl) ?_
      refine Gw.val rfl rfl rfl rfl rfl (fun us => match us with | [] => val_load rfl Try.ty26 rfl rfl (cell_rec (k := 4) rfl rfl) | [u1] => val_load rfl Try.ty26 rfl rfl (cell_rec (k := 5) rfl rfl) | u1 :: u2 :: _ => val_load rfl Try.ty26 rfl rfl (cell_rec (k := 4) rfl rfl)) ?_
      refine Gw.val rfl rfl rfl rfl rfl (fun us => val_move rfl rfl) ?_
      refine Gw.val rfl rfl rfl rfl rfl (fun us => val_nilCheck rfl rfl) ?_
      refine Gw.val rfl rfl rfl rfl rfl (fun us => Val.cast (val_fieldAddr rfl Try.underlying54 rfl Try.ty49 rfl rfl) (v' := ptr x.b 0) rfl) ?_
      refine Gw.val rfl rfl rfl rfl rfl (fun us => match us with | [] => val_load rfl Try.ty49 rfl rfl (cell_rec (k := 0) rfl rfl) | [u1] => val_load rfl Try.ty49 rfl rfl (cell_rec (k := 1) rfl rfl) | u1 :: u2 :: _ => val_load rfl Try.ty49 rfl rfl (cell_rec (k := 0) rfl rfl)) ?_
      refine Gw.val rfl rfl rfl rfl rfl (fun us => val_nilCheck rfl rfl) ?_
      refine Gw.val rfl rfl rfl rfl rfl (fun us => match us with | [] => Val.cast (val_loadA rfl Try.ty33 rfl rfl rfl (cells_rec (k := 1) rfl)) (v' := .agg #[.int .i64 ((x.o.who : Nat) : Int), .int .i64 0, .bool x.o.wr, .int .i64 x.o.val, .int .i64 ((x.o.frm : Nat) : Int), .int .i64 x.o.to]) rfl | [u1] => Val.cast (val_loadA rfl Try.ty33 rfl rfl rfl (cells_rec (k := 2) rfl)) (v' := .agg #[.int .i64 ((x.o.who : Nat) : Int), .int .i64 0, .bool x.o.wr, .int .i64 x.o.val, .int .i64 ((x.o.frm : Nat) : Int), .int .i64 x.o.to]) rfl | u1 :: u2 :: _ => Val.cast (val_loadA rfl Try.ty33 rfl rfl rfl (cells_rec (k := 1) rfl)) (v' := .agg #[.int .i64 ((x.o.who : Nat) : Int), .int .i64 0, .bool x.o.wr, .int .i64 x.o.val, .int .i64 ((x.o.frm : Nat) : Int), .int .i64 x.o.to]) rfl) ?_
      refine Gw.chg rfl rfl rfl rfl rfl (fun v => ∃ b12, v = .slice (some ⟨b12, 0, none⟩) 1 1) (Eff.mono (eff_buildSlice rfl (qs := [(0, .agg #[.int .i64 ((x.o.who : Nat) : Int), .int .i64 0, .bool x.o.wr, .int .i64 x.o.val, .int .i64 ((x.o.frm : Nat) : Int), .int .i64 x.o.to])]) rfl rfl (cs := #[.int .i64 ((x.o.who : Nat) : Int), .int .i64 0, .bool x.o.wr, .int .i64 x.o.val, .int .i64 ((x.o.frm : Nat) : Int), .int .i64 x.o.to]) (vs := [.int .i64 ((x.o.who : Nat) : Int), .int .i64 0, .bool x.o.wr, .int .i64 x.o.val, .int .i64 ((x.o.frm : Nat) : Int), .int .i64 x.o.to]) (E := 33) rfl (fun w => by first | (go_simp; done) | (go_simp; rfl))) (by rintro _ _ ⟨b12, rfl, rfl⟩; exact ⟨⟨b12, rfl⟩, rfl⟩)) ?_
      rintro _ ⟨b12, rfl⟩
      refine Gw.chg rfl rfl rfl rfl rfl IsS (Eff.mono (eff_push (r := x.o) rfl Try.eO FO_len FO_one rfl rfl (k := 0) rfl rfl (k' := 3) rfl (by rw [List.length_map, List.length_take]; omega) (by rw [List.length_map, List.length_take]; omega)) (fun _ _ h => ⟨h.1, congrArg sep h.2⟩)) ?_
      intro v13 hiv13
      refine Gw.val rfl rfl rfl rfl rfl (fun us => Val.cast (val_fieldAddr rfl Try.underlying28 rfl Try.ty26 rfl rfl) (v' := ptr b4 1) rfl) ?_
      refine Gw.done ?_
      refine Gx.norm (l' := [Hp.rec_ x.b [ptr x.b2 0, .int .i64 ((x.o.best.n : Nat) : Int), .int .i64 ((x.o.best.who : Nat) : Int), .int .i64 x.o.best.val, .bool x.o.sec, .int .u32 (((mk x.o.seen) : Nat) : Int), .int .i64 ((x.o.many : Nat) : Int)], Hp.rec_ x.b2 [.int .i64 ((x.o.who : Nat) : Int), .int .i64 0, .bool x.o.wr, .int .i64 x.o.val, .int .i64 ((x.o.frm : Nat) : Int), .int .i64 x.o.to], R0, Hp.own FO 6 v13 (((mo.take j).map Om.o) ++ [x.o]), Hp.rec_ b4 [cv, pv], Hp.rec_ b1 [.slice none 0 0, .slice none 0 0], Hp.own FZ 1 cv (codesR (rs0 n) 0 cs), Hp.own FP 1 ov (mo.map Om.b)]) rfl ?_
      refine Gx.eff0 rfl rfl (eff_store rfl Try.ty26 rfl rfl (us := [v13]) hiv13.cellsL rfl hiv13.all (k := 4) rfl (rfl) (vs' := [cv, v13]) (rfl) (l' := [Hp.rec_ x.b [ptr x.b2 0, .int .i64 ((x.o.best.n : Nat) : Int), .int .i64 ((x.o.best.who : Nat) : Int), .int .i64 x.o.best.val, .bool x.o.sec, .int .u32 (((mk x.o.seen) : Nat) : Int), .int .i64 ((x.o.many : Nat) : Int)], Hp.rec_ x.b2 [.int .i64 ((x.o.who : Nat) : Int), .int .i64 0, .bool x.o.wr, .int .i64 x.o.val, .int .i64 ((x.o.frm : Nat) : Int), .int .i64 x.o.to], R0, Hp.own FO 6 v13 (((mo.take j).map Om.o) ++ [x.o]), Hp.rec_ b4 [cv, v13], Hp.rec_ b1 [.slice none 0 0, .slice none 0 0], Hp.own FZ 1 cv (codesR (rs0 n) 0 cs), Hp.own FP 1 ov (mo.map Om.b)]) rfl) ?_
      rintro _ _ rfl
      refine Gx.done ?_
      refine Gx.blkN ?_
      refine Gx.thenN ?_
      refine Gx.front 2 rfl ?_
      refine Gx.front 2 rfl ?_
      refine Gx.front 2 rfl ?_
      refine Gx.sepEq (l' := [Hp.big opH mo, Hp.own FO 6 v13 (((mo.take j).map Om.o) ++ [x.o]), Hp.rec_ b4 [cv, v13], Hp.rec_ b1 [.slice none 0 0, .slice none 0 0], Hp.own FZ 1 cv (codesR (rs0 n) 0 cs), Hp.own FP 1 ov (mo.map Om.b)]) (by show _ * (_ * (_ * _)) = Hp.big opH mo * _; rw [hb1]; simp only [Hp.mul_assoc]; rfl) ?_
      refine Gx.region ?_
      refine Gx.val rfl rfl rfl (val_add rfl rfl rfl (r := ((j + 1 : Nat) : Int)) (w64 (by omega) (by omega))) ?_
      refine Gx.val rfl rfl rfl (val_move rfl rfl) ?_
      refine Gx.done ?_
      refine Gx.thenN ?_
      refine Gx.front 0 rfl ?_
      refine Gx.front 5 rfl ?_
      refine Gx.front 5 rfl ?_
      refine Gx.front 5 rfl ?_
      refine Gx.front 5 rfl ?_
      refine Gx.front 5 rfl ?_
      refine Gx.norm (l' := [Hp.own FO 6 v13 ((mo.take (j + 1)).map Om.o), Hp.rec_ b4 [cv, v13], Hp.rec_ b1 [.slice none 0 0, .slice none 0 0], Hp.own FZ 1 cv (codesR (rs0 n) 0 cs), Hp.own FP 1 ov (mo.map Om.b), Hp.big opH mo]) (by rw [take_of hx, List.map_append] <;> rfl) ?_
      exact Gx.round (j + 1, v13) ⟨by first | omega | (dsimp only; omega), hiv13⟩ (by first | omega | (dsimp only; omega)) ((.cons rfl (.cons rfl (.cons rfl (.cons rfl (.cons rfl (.cons rfl .nil))))))) rfl
    · refine Gx.exit ?_
      refine Gx.thenE ?_
      refine Gx.thenE ?_
      refine Gx.blkE ?_
      refine Gx.thenN ?_
      refine Gx.seq ?_
      obtain ⟨a14, n15, c16, rfl⟩ := hipv
      obtain ⟨a17, n18, c19, rfl⟩ := hicv
      refine Gx.region ?_
      refine Gx.val rfl rfl rfl (Val.cast (val_loadA rfl Try.ty28 rfl rfl rfl (cells_rec (k := 1) rfl)) (v' := .agg #[(.slice a17 n18 c19), (.slice a14 n15 c16)]) rfl) ?_
      refine Gx.eff0 rfl rfl (eff_store rfl Try.ty28 rfl rfl (us := [(.slice a17 n18 c19), (.slice a14 n15 c16)]) rfl rfl rfl (k := 2) rfl (rfl) (vs' := [(.slice a17 n18 c19), (.slice a14 n15 c16)]) (rfl) (l' := [Hp.own FO 6 (.slice a14 n15 c16) ((mo.take j).map Om.o), Hp.rec_ b4 [(.slice a17 n18 c19), (.slice a14 n15 c16)], Hp.rec_ b1 [(.slice a17 n18 c19), (.slice a14 n15 c16)], Hp.own FZ 1 (.slice a17 n18 c19) (codesR (rs0 n) 0 cs), Hp.own FP 1 ov (mo.map Om.b), Hp.big opH mo]) rfl) ?_
      rintro _ _ rfl
      refine Gx.val rfl rfl rfl (val_assign rfl rfl) ?_
      refine Gx.done ?_
      refine Gx.thenN ?_
      refine Gx.ret ?_
      have ej : j = mo.length := by omega
      subst ej
      refine Gx.drop 5 rfl ?_
      refine Gx.drop 4 rfl ?_
      refine Gx.drop 1 rfl ?_
      refine Gx.front 1 rfl ?_
      refine Gx.front 2 rfl ?_
      refine Gx.front 2 rfl ?_
      refine Gx.norm (l' := [Hp.own FO 6 (.slice a14 n15 c16) (mo.map Om.o), Hp.own FZ 1 (.slice a17 n18 c19) (codesR (rs0 n) 0 cs), Hp.rec_ b1 [(.slice a17 n18 c19), (.slice a14 n15 c16)]]) (by rw [List.take_length] <;> rfl) ?_
      refine Gx.retC2 Try.results8 Try.ty28 rfl rfl (us := [(.slice a17 n18 c19), (.slice a14 n15 c16)]) rfl (k := 2) rfl rfl ?_
      exact ⟨(.slice a17 n18 c19), (.slice a14 n15 c16), Hp.rec_ b1 [(.slice a17 n18 c19), (.slice a14 n15 c16)], rfl, by rw [hmo, hsd]⟩
  rintro v l w ⟨cv, pv, P, rfl, rfl⟩ H
  have inv := (InvR.zero n).run h1n cs
  have hcnt := inv.cnt
  exact ⟨cv, pv, rfl, (H.at_ (k := 1) rfl).sls (by rw [codesR_len]; omega), (H.at_ (k := 0) rfl).sls (by omega)⟩
end Go.Proofs.Ytjiefamdpbnngaa
