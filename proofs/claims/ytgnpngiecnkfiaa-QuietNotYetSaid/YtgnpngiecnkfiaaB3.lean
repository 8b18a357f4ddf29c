/- As long as a call is on its way, it was not told that all rests. No condition. -/
import Derived.Test.YtgnpngiecnkfiaaB2
namespace Go.Proofs.Ytgnpngiecnkfiaa
open Go.RowKit
set_option linter.unusedVariables false
set_option linter.unusedSimpArgs false
set_option maxRecDepth 100000

theorem nC_snoc {l : List Cm} {ks : List Int} {i : Nat} {c : Cm} {x : Int} (hc : l[i]? = some c) (hx : ks[i]? = some x) : nC (l.take (i + 1)) (ks.take (i + 1)) = nC (l.take i) (ks.take i) + dC c.kind x := by
  have h1 := (List.getElem?_eq_some_iff.1 hc).1
  have h2 := (List.getElem?_eq_some_iff.1 hx).1
  rw [take_of hc, take_of hx, nC_app (by rw [List.length_take, List.length_take]; omega)]
  congr 1
  simp [nC]
theorem dC_bd (k x : Int) : -1 ≤ dC k x ∧ dC k x ≤ 1 := by unfold dC; split <;> split <;> omega
theorem nC_bd : ∀ (l : List Cm) (ks : List Int), -(l.length : Int) ≤ nC l ks ∧ nC l ks ≤ l.length
  | [], ks => by cases ks <;> simp [nC]
  | c :: l, [] => by simp [nC]; omega
  | c :: l, k :: ks => by
    have h1 := nC_bd l ks
    have h2 := dC_bd c.kind k
    simp only [nC, List.length_cons]; omega
theorem notyet {n : Nat} {cs : List Cm} {ks : List Int} {ws bs : List Bool} {aw : Nat} {dn : Bool} (F : PlayF n cs ks ws bs aw dn) : 0 ≤ nC cs ks ∧ (dn = true → nC cs ks = 0 ∧ ∀ (i : Nat) (x : Bool), ws[i]? = some x → x = false) := by
  have h := run_ca F.h6 cs (s := qs0 n) (qs0_len n)
  rw [← F.k] at h
  have h0 : (sumM (qs0 n).ca : Int) = 0 := rfl
  rw [h0] at h
  refine ⟨by omega, fun hd => ?_⟩
  have hr := (quiet_rest F.tr F.nd (F.d ▸ hd)).2
  refine ⟨by omega, fun i x hx => ?_⟩
  have hi := (List.getElem?_eq_some_iff.1 hx).1
  obtain ⟨y, hy⟩ := get_of_lt (xs := bs) (k := i) (by rw [F.bl]; rw [F.wl] at hi; exact hi)
  exact ((F.each hx hy).2 hd).1
theorem notyet_out {W : World} {sv : Value} {cs : List Cm} {n : Int} (hs : SlS FC 3 W sv cs) (hbad : n < 1 ∨ 6 < n ∨ 120 < (cs.length : Int)) :
    Calls Try.prog 6 #[.int .i64 n, sv] W fun e w' => e = .returned (.bool true) ∧ Below W.heap.size W w' := by
  refine calls_pure (Gx.enter (l := []) Try.func6 rfl Try.ntmps6 rfl (Sat.start W) ?_)
  refine Gx.know (m' := [(0, .int .i64 n), (1, sv)]) (.cons rfl (.cons rfl .nil)) ?_
  refine Gx.seq ?_
  refine Gx.region ?_
  refine Gx.val rfl rfl rfl (val_assign rfl rfl) ?_
  refine Gx.done ?_
  refine Gx.thenN ?_
  refine Gx.seq ?_
  refine Gx.region ?_
  refine Gx.val rfl rfl rfl (val_move rfl rfl) ?_
  refine Gx.val rfl rfl rfl (val_move rfl rfl) ?_
  refine Gx.val rfl rfl rfl (val_call (vs := [.int .i64 n, sv]) rfl Try.fn7 rfl (fun w H => play_no (hs.below H.below) hbad)) ?_
  refine Gx.val rfl rfl rfl (val_move rfl rfl) ?_
  refine Gx.val rfl rfl rfl (val_extract rfl rfl rfl) ?_
  refine Gx.val rfl rfl rfl (val_extract rfl rfl rfl) ?_
  refine Gx.eff rfl rfl rfl (eff_alloc rfl Try.ty26 (vs := [.slice none 0 0, .slice none 0 0, .slice none 0 0, .int .i64 0, .bool false]) rfl) ?_
  rintro _ _ ⟨b1, rfl, rfl⟩
  refine Gx.eff0 rfl rfl (eff_store rfl Try.ty26 rfl rfl (us := [.slice none 0 0, .slice none 0 0, .slice none 0 0, .int .i64 0, .bool false]) rfl rfl rfl (k := 0) rfl rfl (vs' := [.slice none 0 0, .slice none 0 0, .slice none 0 0, .int .i64 0, .bool false]) rfl (l' := [Hp.rec_ b1 [.slice none 0 0, .slice none 0 0, .slice none 0 0, .int .i64 0, .bool false]]) rfl) ?_
  rintro _ _ rfl
  refine Gx.val rfl rfl rfl (val_assign rfl rfl) ?_
  refine Gx.done ?_
  refine Gx.thenN ?_
  refine Gx.seq ?_
  refine Gx.seq ?_
  refine Gx.region ?_
  refine Gx.val rfl rfl rfl (val_move rfl rfl) ?_
  refine Gx.val rfl rfl rfl (Val.cast (val_neq rfl rfl rfl) (v' := .bool true) rfl) ?_
  refine Gx.done ?_
  refine Gx.thenN ?_
  refine Gx.t rfl ?_
  refine Gx.seq ?_
  refine Gx.region ?_
  refine Gx.val rfl rfl rfl (Val.cast (val_fieldAddr rfl Try.underlying26 rfl Try.ty23 rfl rfl) (v' := ptr b1 0) rfl) ?_
  refine Gx.val rfl rfl rfl (val_load rfl Try.ty23 rfl rfl (cell_rec (k := 0) rfl rfl)) ?_
  refine Gx.val rfl rfl rfl (val_len rfl Try.underlying23 rfl len_lit) ?_
  refine Gx.val rfl rfl rfl (Val.cast (val_eql rfl rfl rfl) (v' := .bool true) rfl) ?_
  refine Gx.val rfl rfl rfl (val_assign rfl rfl) ?_
  refine Gx.done ?_
  refine Gx.thenN ?_
  refine Gx.ret ?_
  refine Gx.thenR ?_
  refine Gx.ret1 Try.results6 rfl ?_
  rfl

theorem notyet_in {W : World} {sv : Value} {cs : List Cm} {n : Nat} (hs : SlS FC 3 W sv cs) (h1 : 1 ≤ n) (h6 : n ≤ 6) (hl : cs.length ≤ 120) :
    Calls Try.prog 6 #[.int .i64 ((n : Nat) : Int), sv] W fun e w' => e = .returned (.bool true) ∧ Below W.heap.size W w' := by
  refine calls_pure (Gx.enter (l := []) Try.func6 rfl Try.ntmps6 rfl (Sat.start W) ?_)
  refine Gx.know (m' := [(0, .int .i64 ((n : Nat) : Int)), (1, sv)]) (.cons rfl (.cons rfl .nil)) ?_
  refine Gx.seq ?_
  refine Gx.region ?_
  refine Gx.val rfl rfl rfl (val_assign rfl rfl) ?_
  refine Gx.done ?_
  refine Gx.thenN ?_
  refine Gx.seq ?_
  refine Gx.region ?_
  refine Gx.val rfl rfl rfl (val_move rfl rfl) ?_
  refine Gx.val rfl rfl rfl (val_move rfl rfl) ?_
  refine Gx.callB rfl rfl rfl (vs := [.int .i64 ((n : Nat) : Int), sv]) rfl Try.fn7 rfl (R := PlayV n cs) (fun w H => (play_v (hs.below H.below) (by omega) (by omega) (by omega))) ?_
  rintro _ W2 ⟨a11, c11, a21, c21, a31, c31, ks1, ws1, bs1, aw1, dn1, rfl, hk1, hw1, hb1, hF1⟩ H3
  have hW4 := H3.below
  have hs5 := hs.below H3.below
  have hkl1 := hF1.kl
  have hwl1 := hF1.wl
  have hbl1 := hF1.bl
  refine Gx.val rfl rfl rfl (val_move rfl rfl) ?_
  refine Gx.val rfl rfl rfl (val_extract rfl rfl rfl) ?_
  refine Gx.val rfl rfl rfl (val_extract rfl rfl rfl) ?_
  refine Gx.eff rfl rfl rfl (eff_alloc rfl Try.ty26 (vs := [.slice none 0 0, .slice none 0 0, .slice none 0 0, .int .i64 0, .bool false]) rfl) ?_
  rintro _ _ ⟨b6, rfl, rfl⟩
  refine Gx.eff0 rfl rfl (eff_store rfl Try.ty26 rfl rfl (us := [.slice a11 cs.length c11, .slice a21 n c21, .slice a31 n c31, .int .i64 ((aw1 : Nat) : Int), .bool dn1]) rfl rfl rfl (k := 0) rfl rfl (vs' := [.slice a11 cs.length c11, .slice a21 n c21, .slice a31 n c31, .int .i64 ((aw1 : Nat) : Int), .bool dn1]) rfl (l' := [Hp.rec_ b6 [.slice a11 cs.length c11, .slice a21 n c21, .slice a31 n c31, .int .i64 ((aw1 : Nat) : Int), .bool dn1]]) rfl) ?_
  rintro _ _ rfl
  refine Gx.val rfl rfl rfl (val_assign rfl rfl) ?_
  refine Gx.done ?_
  refine Gx.thenN ?_
  refine Gx.seq ?_
  refine Gx.seq ?_
  refine Gx.region ?_
  refine Gx.val rfl rfl rfl (val_move rfl rfl) ?_
  refine Gx.val rfl rfl rfl (Val.cast (val_neq rfl rfl rfl) (v' := .bool false) rfl) ?_
  refine Gx.done ?_
  refine Gx.thenN ?_
  refine Gx.f rfl ?_
  refine Gx.skip ?_
  refine Gx.thenN ?_
  refine Gx.seq ?_
  refine Gx.seq ?_
  refine Gx.region ?_
  refine Gx.val rfl rfl rfl (Val.cast (val_fieldAddr rfl Try.underlying26 rfl Try.ty24 rfl rfl) (v' := ptr b6 1) rfl) ?_
  refine Gx.val rfl rfl rfl (val_load rfl Try.ty24 rfl rfl (cell_rec (k := 0) rfl rfl)) ?_
  refine Gx.val rfl rfl rfl (val_len rfl Try.underlying24 rfl (len_base hw1)) ?_
  refine Gx.val rfl rfl rfl (val_move rfl rfl) ?_
  refine Gx.val rfl rfl rfl (val_neq rfl rfl rfl) ?_
  refine Gx.val rfl rfl rfl (val_move rfl rfl) ?_
  refine Gx.slot (t := 27) (v := .bool false) (look_decF rfl (by omega)) ?_
  refine Gx.valg rfl rfl rfl rfl rfl (Val.cast (val_fieldAddr rfl Try.underlying26 rfl Try.ty23 rfl rfl) (v' := ptr b6 0) rfl) ?_
  refine Gx.valg rfl rfl rfl rfl rfl (val_load rfl Try.ty23 rfl rfl (cell_rec (k := 0) rfl rfl)) ?_
  refine Gx.valg rfl rfl rfl rfl rfl (val_len rfl Try.underlying23 rfl (len_base hk1)) ?_
  refine Gx.valg rfl rfl rfl rfl rfl (val_move rfl rfl) ?_
  refine Gx.valg rfl rfl rfl rfl rfl (val_len rfl Try.underlying22 rfl (len_base hs5)) ?_
  refine Gx.valg rfl rfl rfl rfl rfl (val_neq rfl rfl rfl) ?_
  refine Gx.val rfl rfl rfl (val_pickF rfl rfl rfl) ?_
  refine Gx.done ?_
  refine Gx.thenN ?_
  refine Gx.decF rfl (by omega) ?_
  refine Gx.skip ?_
  refine Gx.thenN ?_
  refine Gx.seq ?_
  refine Gx.region ?_
  refine Gx.val rfl rfl rfl (val_assign rfl rfl) ?_
  refine Gx.done ?_
  refine Gx.thenN ?_
  refine Gx.seq ?_
  refine Gx.seq ?_
  refine Gx.region ?_
  refine Gx.val rfl rfl rfl (val_move rfl rfl) ?_
  refine Gx.val rfl rfl rfl (val_len rfl Try.underlying22 rfl (len_base hs5)) ?_
  refine Gx.val rfl rfl rfl (val_move rfl rfl) ?_
  refine Gx.done ?_
  refine Gx.thenN ?_
  refine Gx.block ?_
  refine Gx.loop (ι := Nat × Int) (fun ξ => (ξ.1 ≤ cs.length) ∧ (ξ.2 = nC (cs.take ξ.1) (ks1.take ξ.1)) ∧ (-(ξ.1 : Int) ≤ ξ.2 ∧ ξ.2 ≤ ξ.1)) (fun ξ => [(0, .int .i64 ((n : Nat) : Int)), (1, sv), (5, ptr b6 0), (35, sv), (36, .int .i64 ((cs.length : Nat) : Int)), (7, .int .i64 ξ.2), (37, .int .i64 ((ξ.1 : Nat) : Int))]) (fun ξ => [Hp.rec_ b6 [.slice a11 cs.length c11, .slice a21 n c21, .slice a31 n c31, .int .i64 ((aw1 : Nat) : Int), .bool dn1]]) (fun ξ => cs.length - ξ.1) (0, 0) ⟨by omega, rfl, by omega⟩ ((.cons rfl (.cons rfl (.cons rfl (.cons rfl (.cons rfl (.cons rfl (.cons rfl .nil)))))))) rfl ?_
  rintro ⟨i, c⟩ ⟨hi, hc, hcb⟩
  dsimp only at hi hc hcb
  refine Gx.know (m' := [(0, .int .i64 ((n : Nat) : Int)), (1, sv), (5, ptr b6 0), (35, sv), (36, .int .i64 ((cs.length : Nat) : Int)), (7, .int .i64 c), (37, .int .i64 ((i : Nat) : Int))]) (.cons rfl (.cons rfl (.cons rfl (.cons rfl (.cons rfl (.cons rfl (.cons rfl .nil))))))) (Gx.norm (l' := [Hp.rec_ b6 [.slice a11 cs.length c11, .slice a21 n c21, .slice a31 n c31, .int .i64 ((aw1 : Nat) : Int), .bool dn1]]) rfl ?_)
  refine Gx.seq ?_
  refine Gx.region ?_
  refine Gx.val rfl rfl rfl (val_lss rfl rfl rfl) ?_
  refine Gx.done ?_
  refine Gx.thenN ?_
  refine Gx.seq ?_
  refine Gx.dec rfl (fun h7 => ?_) (fun h7 => ?_)
  · refine Gx.skip ?_
    refine Gx.thenN ?_
    refine Gx.seq ?_
    refine Gx.block ?_
    refine Gx.seq ?_
    refine Gx.region ?_
    refine Gx.val rfl rfl rfl (val_move rfl rfl) ?_
    obtain ⟨x8, hx8⟩ := get_of_lt (xs := cs) (k := i) (by omega)
    refine Gx.val rfl rfl rfl (val_ixa rfl Try.underlying22 Try.ty32 rfl rfl (j := i) (rfl) (reach_base hs5 hx8)) ?_
    refine Gx.val rfl rfl rfl (Val.cast (val_loadA rfl Try.ty32 rfl rfl rfl (cells_base hs5 hx8)) (v' := .agg #[.int .i64 x8.kind, .int .i64 x8.who, .int .i64 x8.other]) rfl) ?_
    refine Gx.eff rfl rfl rfl (eff_alloc rfl Try.ty32 (vs := [.int .i64 0, .int .i64 0, .int .i64 0]) rfl) ?_
    rintro _ _ ⟨b9, rfl, rfl⟩
    refine Gx.val rfl rfl rfl (val_assign rfl rfl) ?_
    refine Gx.eff0 rfl rfl (eff_store rfl Try.ty32 rfl rfl (us := [.int .i64 x8.kind, .int .i64 x8.who, .int .i64 x8.other]) rfl rfl rfl (k := 0) rfl rfl (vs' := [.int .i64 x8.kind, .int .i64 x8.who, .int .i64 x8.other]) rfl (l' := [Hp.rec_ b9 [.int .i64 x8.kind, .int .i64 x8.who, .int .i64 x8.other], Hp.rec_ b6 [.slice a11 cs.length c11, .slice a21 n c21, .slice a31 n c31, .int .i64 ((aw1 : Nat) : Int), .bool dn1]]) rfl) ?_
    rintro _ _ rfl
    refine Gx.done ?_
    refine Gx.thenN ?_
    refine Gx.seq ?_
    refine Gx.seq ?_
    refine Gx.region ?_
    refine Gx.val rfl rfl rfl (Val.cast (val_fieldAddr rfl Try.underlying26 rfl Try.ty23 rfl rfl) (v' := ptr b6 0) rfl) ?_
    refine Gx.val rfl rfl rfl (val_load rfl Try.ty23 rfl rfl (cell_rec (k := 1) rfl rfl)) ?_
    refine Gx.val rfl rfl rfl (val_move rfl rfl) ?_
    obtain ⟨x10, hx10⟩ := get_of_lt (xs := ks1) (k := i) (by omega)
    refine Gx.val rfl rfl rfl (val_ixa rfl Try.underlying23 Try.ty27 rfl rfl (j := i) (rfl) (reach_base hk1 hx10)) ?_
    refine Gx.val rfl rfl rfl (val_load rfl Try.ty27 rfl rfl (cell_base (i := 0) hk1 hx10 rfl)) ?_
    refine Gx.val rfl rfl rfl (val_eql rfl rfl rfl) ?_
    refine Gx.val rfl rfl rfl (val_move rfl rfl) ?_
    refine Gx.cases (t := 48) rfl (fun h11 => ?_) (fun h11 => ?_)
    · refine Gx.valg rfl rfl rfl rfl rfl (Val.cast (val_fieldAddr rfl Try.underlying32 rfl Try.ty3 rfl rfl) (v' := ptr b9 0) rfl) ?_
      refine Gx.valg rfl rfl rfl rfl rfl (val_load rfl Try.ty3 rfl rfl (cell_rec (k := 0) rfl rfl)) ?_
      refine Gx.valg rfl rfl rfl rfl rfl (val_eql rfl rfl rfl) ?_
      refine Gx.val rfl rfl rfl (val_pickT rfl rfl rfl) ?_
      refine Gx.done ?_
      refine Gx.thenN ?_
      refine Gx.dec rfl (fun h12 => ?_) (fun h12 => ?_)
      · refine Gx.region ?_
        refine Gx.val rfl rfl rfl (val_move rfl rfl) ?_
        refine Gx.val rfl rfl rfl (val_add rfl rfl rfl (r := (c + 1)) (w64 rfl (by omega))) ?_
        refine Gx.val rfl rfl rfl (val_assign rfl rfl) ?_
        refine Gx.done ?_
        refine Gx.thenN ?_
        refine Gx.seq ?_
        refine Gx.region ?_
        refine Gx.val rfl rfl rfl (Val.cast (val_fieldAddr rfl Try.underlying26 rfl Try.ty23 rfl rfl) (v' := ptr b6 0) rfl) ?_
        refine Gx.val rfl rfl rfl (val_load rfl Try.ty23 rfl rfl (cell_rec (k := 1) rfl rfl)) ?_
        refine Gx.val rfl rfl rfl (val_move rfl rfl) ?_
        refine Gx.val rfl rfl rfl (val_ixa rfl Try.underlying23 Try.ty27 rfl rfl (j := i) (rfl) (reach_base hk1 hx10)) ?_
        refine Gx.val rfl rfl rfl (val_load rfl Try.ty27 rfl rfl (cell_base (i := 0) hk1 hx10 rfl)) ?_
        refine Gx.val rfl rfl rfl (val_eql rfl rfl rfl) ?_
        refine Gx.val rfl rfl rfl (val_move rfl rfl) ?_
        refine Gx.slot (t := 61) (v := .bool true) (look_decT rfl (h11)) ?_
        refine Gx.valg rfl rfl rfl rfl rfl (Val.cast (val_fieldAddr rfl Try.underlying32 rfl Try.ty3 rfl rfl) (v' := ptr b9 0) rfl) ?_
        refine Gx.valg rfl rfl rfl rfl rfl (val_load rfl Try.ty3 rfl rfl (cell_rec (k := 0) rfl rfl)) ?_
        refine Gx.valg rfl rfl rfl rfl rfl (val_eql rfl rfl rfl) ?_
        refine Gx.val rfl rfl rfl (val_pickT rfl rfl rfl) ?_
        refine Gx.done ?_
        refine Gx.thenN ?_
        refine Gx.dec rfl (fun h13 => ?_) (fun h13 => ?_)
        · refine Gx.region ?_
          refine Gx.val rfl rfl rfl (val_move rfl rfl) ?_
          refine Gx.val rfl rfl rfl (val_sub rfl rfl rfl (r := ((c + 1) - 1)) (w64 rfl (by omega))) ?_
          refine Gx.val rfl rfl rfl (val_assign rfl rfl) ?_
          refine Gx.done ?_
          refine Gx.blkN ?_
          refine Gx.thenN ?_
          refine Gx.region ?_
          refine Gx.val rfl rfl rfl (val_add rfl rfl rfl (r := ((i + 1 : Nat) : Int)) (w64 (by omega) (by omega))) ?_
          refine Gx.val rfl rfl rfl (val_move rfl rfl) ?_
          refine Gx.done ?_
          refine Gx.thenN ?_
          refine Gx.drop 0 rfl ?_
          exact Gx.round (i + 1, ((c + 1) - 1)) ⟨by omega, by rw [nC_snoc hx8 hx10, ← hc]; unfold dC; (repeat' split) <;> omega, by omega⟩ (by omega) ((.cons rfl (.cons rfl (.cons rfl (.cons rfl (.cons rfl (.cons rfl (.cons rfl .nil)))))))) rfl
        · refine Gx.skip ?_
          refine Gx.blkN ?_
          refine Gx.thenN ?_
          refine Gx.region ?_
          refine Gx.val rfl rfl rfl (val_add rfl rfl rfl (r := ((i + 1 : Nat) : Int)) (w64 (by omega) (by omega))) ?_
          refine Gx.val rfl rfl rfl (val_move rfl rfl) ?_
          refine Gx.done ?_
          refine Gx.thenN ?_
          refine Gx.drop 0 rfl ?_
          exact Gx.round (i + 1, (c + 1)) ⟨by omega, by rw [nC_snoc hx8 hx10, ← hc]; unfold dC; (repeat' split) <;> omega, by omega⟩ (by omega) ((.cons rfl (.cons rfl (.cons rfl (.cons rfl (.cons rfl (.cons rfl (.cons rfl .nil)))))))) rfl
      · refine Gx.skip ?_
        refine Gx.thenN ?_
        refine Gx.seq ?_
        refine Gx.region ?_
        refine Gx.val rfl rfl rfl (Val.cast (val_fieldAddr rfl Try.underlying26 rfl Try.ty23 rfl rfl) (v' := ptr b6 0) rfl) ?_
        refine Gx.val rfl rfl rfl (val_load rfl Try.ty23 rfl rfl (cell_rec (k := 1) rfl rfl)) ?_
        refine Gx.val rfl rfl rfl (val_move rfl rfl) ?_
        refine Gx.val rfl rfl rfl (val_ixa rfl Try.underlying23 Try.ty27 rfl rfl (j := i) (rfl) (reach_base hk1 hx10)) ?_
        refine Gx.val rfl rfl rfl (val_load rfl Try.ty27 rfl rfl (cell_base (i := 0) hk1 hx10 rfl)) ?_
        refine Gx.val rfl rfl rfl (val_eql rfl rfl rfl) ?_
        refine Gx.val rfl rfl rfl (val_move rfl rfl) ?_
        refine Gx.slot (t := 61) (v := .bool true) (look_decT rfl (h11)) ?_
        refine Gx.valg rfl rfl rfl rfl rfl (Val.cast (val_fieldAddr rfl Try.underlying32 rfl Try.ty3 rfl rfl) (v' := ptr b9 0) rfl) ?_
        refine Gx.valg rfl rfl rfl rfl rfl (val_load rfl Try.ty3 rfl rfl (cell_rec (k := 0) rfl rfl)) ?_
        refine Gx.valg rfl rfl rfl rfl rfl (val_eql rfl rfl rfl) ?_
        refine Gx.val rfl rfl rfl (val_pickT rfl rfl rfl) ?_
        refine Gx.done ?_
        refine Gx.thenN ?_
        refine Gx.dec rfl (fun h14 => ?_) (fun h14 => ?_)
        · refine Gx.region ?_
          refine Gx.val rfl rfl rfl (val_move rfl rfl) ?_
          refine Gx.val rfl rfl rfl (val_sub rfl rfl rfl (r := (c - 1)) (w64 rfl (by omega))) ?_
          refine Gx.val rfl rfl rfl (val_assign rfl rfl) ?_
          refine Gx.done ?_
          refine Gx.blkN ?_
          refine Gx.thenN ?_
          refine Gx.region ?_
          refine Gx.val rfl rfl rfl (val_add rfl rfl rfl (r := ((i + 1 : Nat) : Int)) (w64 (by omega) (by omega))) ?_
          refine Gx.val rfl rfl rfl (val_move rfl rfl) ?_
          refine Gx.done ?_
          refine Gx.thenN ?_
          refine Gx.drop 0 rfl ?_
          exact Gx.round (i + 1, (c - 1)) ⟨by omega, by rw [nC_snoc hx8 hx10, ← hc]; unfold dC; (repeat' split) <;> omega, by omega⟩ (by omega) ((.cons rfl (.cons rfl (.cons rfl (.cons rfl (.cons rfl (.cons rfl (.cons rfl .nil)))))))) rfl
        · refine Gx.skip ?_
          refine Gx.blkN ?_
          refine Gx.thenN ?_
          refine Gx.region ?_
          refine Gx.val rfl rfl rfl (val_add rfl rfl rfl (r := ((i + 1 : Nat) : Int)) (w64 (by omega) (by omega))) ?_
          refine Gx.val rfl rfl rfl (val_move rfl rfl) ?_
          refine Gx.done ?_
          refine Gx.thenN ?_
          refine Gx.drop 0 rfl ?_
          exact Gx.round (i + 1, c) ⟨by omega, by rw [nC_snoc hx8 hx10, ← hc]; unfold dC; (repeat' split) <;> omega, by omega⟩ (by omega) ((.cons rfl (.cons rfl (.cons rfl (.cons rfl (.cons rfl (.cons rfl (.cons rfl .nil)))))))) rfl
    · refine Gx.skipg rfl rfl rfl rfl rfl rfl ?_
      refine Gx.skipg rfl rfl rfl rfl rfl rfl ?_
      refine Gx.skipg rfl rfl rfl rfl rfl rfl ?_
      refine Gx.val rfl rfl rfl (val_pickF rfl rfl rfl) ?_
      refine Gx.done ?_
      refine Gx.thenN ?_
      refine Gx.f rfl ?_
      refine Gx.skip ?_
      refine Gx.thenN ?_
      refine Gx.seq ?_
      refine Gx.region ?_
      refine Gx.val rfl rfl rfl (Val.cast (val_fieldAddr rfl Try.underlying26 rfl Try.ty23 rfl rfl) (v' := ptr b6 0) rfl) ?_
      refine Gx.val rfl rfl rfl (val_load rfl Try.ty23 rfl rfl (cell_rec (k := 1) rfl rfl)) ?_
      refine Gx.val rfl rfl rfl (val_move rfl rfl) ?_
      refine Gx.val rfl rfl rfl (val_ixa rfl Try.underlying23 Try.ty27 rfl rfl (j := i) (rfl) (reach_base hk1 hx10)) ?_
      refine Gx.val rfl rfl rfl (val_load rfl Try.ty27 rfl rfl (cell_base (i := 0) hk1 hx10 rfl)) ?_
      refine Gx.val rfl rfl rfl (val_eql rfl rfl rfl) ?_
      refine Gx.val rfl rfl rfl (val_move rfl rfl) ?_
      refine Gx.slot (t := 61) (v := .bool false) (look_decF rfl (h11)) ?_
      refine Gx.skipg rfl rfl rfl rfl rfl rfl ?_
      refine Gx.skipg rfl rfl rfl rfl rfl rfl ?_
      refine Gx.skipg rfl rfl rfl rfl rfl rfl ?_
      refine Gx.val rfl rfl rfl (val_pickF rfl rfl rfl) ?_
      refine Gx.done ?_
      refine Gx.thenN ?_
      refine Gx.f rfl ?_
      refine Gx.skip ?_
      refine Gx.blkN ?_
      refine Gx.thenN ?_
      refine Gx.region ?_
      refine Gx.val rfl rfl rfl (val_add rfl rfl rfl (r := ((i + 1 : Nat) : Int)) (w64 (by omega) (by omega))) ?_
      refine Gx.val rfl rfl rfl (val_move rfl rfl) ?_
      refine Gx.done ?_
      refine Gx.thenN ?_
      refine Gx.drop 0 rfl ?_
      exact Gx.round (i + 1, c) ⟨by omega, by rw [nC_snoc hx8 hx10, ← hc]; unfold dC; (repeat' split) <;> omega, by omega⟩ (by omega) ((.cons rfl (.cons rfl (.cons rfl (.cons rfl (.cons rfl (.cons rfl (.cons rfl .nil)))))))) rfl
  · refine Gx.exit ?_
    refine Gx.thenE ?_
    refine Gx.thenE ?_
    refine Gx.blkE ?_
    refine Gx.thenN ?_
    refine Gx.seq ?_
    refine Gx.region ?_
    refine Gx.val rfl rfl rfl (val_move rfl rfl) ?_
    refine Gx.val rfl rfl rfl (val_geq rfl rfl rfl) ?_
    refine Gx.val rfl rfl rfl (val_move rfl rfl) ?_
    refine Gx.cases (t := 71) rfl (fun h15 => ?_) (fun h15 => ?_)
    · refine Gx.valg rfl rfl rfl rfl rfl (Val.cast (val_fieldAddr rfl Try.underlying26 rfl Try.ty24 rfl rfl) (v' := ptr b6 1) rfl) ?_
      refine Gx.valg rfl rfl rfl rfl rfl (val_load rfl Try.ty24 rfl rfl (cell_rec (k := 0) rfl rfl)) ?_
      obtain ⟨x16, hx16⟩ := get_of_lt (xs := ws1) (k := 0) (by omega)
      refine Gx.valg rfl rfl rfl rfl rfl (val_ixa rfl Try.underlying24 Try.ty4 rfl rfl (j := 0) (rfl) (reach_base hw1 hx16)) ?_
      refine Gx.valg rfl rfl rfl rfl rfl (val_load rfl Try.ty4 rfl rfl (cell_base (i := 0) (sz := 1) (j := 0) hw1 hx16 rfl)) ?_
      refine Gx.valg rfl rfl rfl rfl rfl (val_not rfl rfl) ?_
      refine Gx.valg rfl rfl rfl rfl rfl (val_move rfl rfl) ?_
      refine Gx.casesB (t := 77) rfl (fun h17 => ?_) (fun h17 => ?_)
      · refine Gx.valg rfl rfl rfl rfl rfl (val_move rfl rfl) ?_
        refine Gx.valg rfl rfl rfl rfl rfl (val_eql rfl rfl rfl) ?_
        refine Gx.valg rfl rfl rfl rfl rfl (val_pickT rfl rfl rfl) ?_
        refine Gx.valg rfl rfl rfl rfl rfl (val_move rfl rfl) ?_
        refine Gx.cases (t := 81) rfl (fun h18 => ?_) (fun h18 => ?_)
        · refine Gx.skipg rfl rfl rfl rfl rfl rfl ?_
          refine Gx.skipg rfl rfl rfl rfl rfl rfl ?_
          refine Gx.skipg rfl rfl rfl rfl rfl rfl ?_
          refine Gx.valg rfl rfl rfl rfl rfl (val_pickT rfl rfl rfl) ?_
          refine Gx.val rfl rfl rfl (val_pickT rfl rfl rfl) ?_
          refine Gx.val rfl rfl rfl (val_assign rfl rfl) ?_
          refine Gx.done ?_
          refine Gx.thenN ?_
          refine Gx.ret ?_
          have ei : i = cs.length := by omega
          subst ei
          rw [List.take_length, List.take_of_length_le (by omega)] at hc
          have hN := notyet hF1
          refine Gx.ret1B hW4 Try.results6 rfl ?_
          rfl
        · refine Gx.valg rfl rfl rfl rfl rfl (Val.cast (val_fieldAddr rfl Try.underlying26 rfl Try.ty4 rfl rfl) (v' := ptr b6 4) rfl) ?_
          refine Gx.valg rfl rfl rfl rfl rfl (val_load rfl Try.ty4 rfl rfl (cell_rec (k := 0) rfl rfl)) ?_
          refine Gx.valg rfl rfl rfl rfl rfl (val_not rfl rfl) ?_
          refine Gx.valg rfl rfl rfl rfl rfl (val_pickF rfl rfl rfl) ?_
          refine Gx.val rfl rfl rfl (val_pickT rfl rfl rfl) ?_
          refine Gx.val rfl rfl rfl (val_assign rfl rfl) ?_
          refine Gx.done ?_
          refine Gx.thenN ?_
          refine Gx.ret ?_
          have ei : i = cs.length := by omega
          subst ei
          rw [List.take_length, List.take_of_length_le (by omega)] at hc
          have hN := notyet hF1
          refine Gx.ret1B hW4 Try.results6 rfl ?_
          cases hd : dn1
          · rfl
          · exfalso; have q1 := (hN.2 hd).1; have q2 := (hN.2 hd).2 _ _ hx16; first | omega | simp_all
      · refine Gx.skipg rfl rfl rfl rfl rfl rfl ?_
        refine Gx.skipg rfl rfl rfl rfl rfl rfl ?_
        refine Gx.valg rfl rfl rfl rfl rfl (val_pickF rfl rfl rfl) ?_
        refine Gx.valg rfl rfl rfl rfl rfl (val_move rfl rfl) ?_
        refine Gx.valg rfl rfl rfl rfl rfl (Val.cast (val_fieldAddr rfl Try.underlying26 rfl Try.ty4 rfl rfl) (v' := ptr b6 4) rfl) ?_
        refine Gx.valg rfl rfl rfl rfl rfl (val_load rfl Try.ty4 rfl rfl (cell_rec (k := 0) rfl rfl)) ?_
        refine Gx.valg rfl rfl rfl rfl rfl (val_not rfl rfl) ?_
        refine Gx.valg rfl rfl rfl rfl rfl (val_pickF rfl rfl rfl) ?_
        refine Gx.val rfl rfl rfl (val_pickT rfl rfl rfl) ?_
        refine Gx.val rfl rfl rfl (val_assign rfl rfl) ?_
        refine Gx.done ?_
        refine Gx.thenN ?_
        refine Gx.ret ?_
        have ei : i = cs.length := by omega
        subst ei
        rw [List.take_length, List.take_of_length_le (by omega)] at hc
        have hN := notyet hF1
        refine Gx.ret1B hW4 Try.results6 rfl ?_
        cases hd : dn1
        · rfl
        · exfalso; have q1 := (hN.2 hd).1; have q2 := (hN.2 hd).2 _ _ hx16; first | omega | simp_all
    · refine Gx.skipg rfl rfl rfl rfl rfl rfl ?_
      refine Gx.skipg rfl rfl rfl rfl rfl rfl ?_
      refine Gx.skipg rfl rfl rfl rfl rfl rfl ?_
      refine Gx.skipg rfl rfl rfl rfl rfl rfl ?_
      refine Gx.skipg rfl rfl rfl rfl rfl rfl ?_
      refine Gx.skipg rfl rfl rfl rfl rfl rfl ?_
      refine Gx.skipu rfl rfl rfl rfl rfl ?_
      refine Gx.skipu rfl rfl rfl rfl rfl ?_
      refine Gx.skipg rfl rfl rfl rfl rfl rfl ?_
      refine Gx.skipg rfl rfl rfl rfl rfl rfl ?_
      refine Gx.skipu rfl rfl rfl rfl rfl ?_
      refine Gx.skipu rfl rfl rfl rfl rfl ?_
      refine Gx.skipu rfl rfl rfl rfl rfl ?_
      refine Gx.skipg rfl rfl rfl rfl rfl rfl ?_
      refine Gx.val rfl rfl rfl (val_pickF rfl rfl rfl) ?_
      refine Gx.val rfl rfl rfl (val_assign rfl rfl) ?_
      refine Gx.done ?_
      refine Gx.thenN ?_
      refine Gx.ret ?_
      have ei : i = cs.length := by omega
      subst ei
      rw [List.take_length, List.take_of_length_le (by omega)] at hc
      have hN := notyet hF1
      refine Gx.ret1B hW4 Try.results6 rfl ?_
      exfalso; have := hN.1; omega

theorem notyet_any (n : Int) (sv : Value) (cs : List Cm) (W : World) (hs : SlS FC 3 W sv cs) : Calls Try.prog 6 #[.int .i64 n, sv] W fun e w' => e = .returned (.bool true) ∧ Below W.heap.size W w' := by
  by_cases h : 1 ≤ n ∧ n ≤ 6 ∧ cs.length ≤ 120
  · obtain ⟨m, rfl⟩ := Int.eq_ofNat_of_zero_le (show 0 ≤ n by omega)
    exact notyet_in hs (by omega) (by omega) (by omega)
  · exact notyet_out hs (by omega)

end Go.Proofs.Ytgnpngiecnkfiaa
