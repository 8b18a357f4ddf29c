/- When it was told that all rests, nobody works, nobody is bound, nothing is on its way. No condition. -/
import Derived.Test.YtgnpngiecnkfiaaA5
import Derived.Test.YtgnpngiecnkfiaaM2
namespace Go.Proofs.Ytgnpngiecnkfiaa
open Go.RowKit
set_option linter.unusedVariables false
set_option linter.unusedSimpArgs false
set_option maxRecDepth 100000

structure PlayF (n : Nat) (cs : List Cm) (ks : List Int) (ws bs : List Bool) (aw : Nat) (dn : Bool) : Prop where
  k : ks = codesQ n (qs0 n) cs
  w : ws = (stQ n (qs0 n) cs).ps.map (·.works)
  b : bs = (stQ n (qs0 n) cs).ps.map (·.bound)
  a : aw = awQ (stQ n (qs0 n) cs) 2
  d : dn = (stQ n (qs0 n) cs).dn
  h1 : 1 ≤ n
  h6 : n ≤ 6
section
variable {n : Nat} {cs : List Cm} {ks : List Int} {ws bs : List Bool} {aw : Nat} {dn : Bool}
theorem PlayF.kl (F : PlayF n cs ks ws bs aw dn) : ks.length = cs.length := by rw [F.k, codesQ_len]
theorem PlayF.wl (F : PlayF n cs ks ws bs aw dn) : ws.length = n := by rw [F.w, List.length_map, stQ_len, qs0_len]
theorem PlayF.bl (F : PlayF n cs ks ws bs aw dn) : bs.length = n := by rw [F.b, List.length_map, stQ_len, qs0_len]
theorem PlayF.tr (F : PlayF n cs ks ws bs aw dn) : Tr (stQ n (qs0 n) cs) := (Tr.zero F.h1).run cs
theorem PlayF.sl (F : PlayF n cs ks ws bs aw dn) : Stl (stQ n (qs0 n) cs) := (Stl.zero F.h1).run cs
theorem PlayF.nd (F : PlayF n cs ks ws bs aw dn) : NdQ (stQ n (qs0 n) cs) := (NdQ.zero n).run cs
theorem PlayF.wi (F : PlayF n cs ks ws bs aw dn) {i : Nat} {x : Bool} (h : ws[i]? = some x) : x = (prc (stQ n (qs0 n) cs) (smN i).val).works := by
  have hi := (List.getElem?_eq_some_iff.1 h).1
  rw [F.wl] at hi
  have h6 := F.h6
  rw [show (smN i).val = i from Nat.mod_eq_of_lt (by omega)]
  rw [F.w, List.getElem?_map] at h
  cases e : (stQ n (qs0 n) cs).ps[i]? with
  | none => rw [e] at h; cases h
  | some y => rw [e] at h; cases h; rw [prc_of e]
theorem PlayF.bi (F : PlayF n cs ks ws bs aw dn) {i : Nat} {x : Bool} (h : bs[i]? = some x) : x = (prc (stQ n (qs0 n) cs) (smN i).val).bound := by
  have hi := (List.getElem?_eq_some_iff.1 h).1
  rw [F.bl] at hi
  have h6 := F.h6
  rw [show (smN i).val = i from Nat.mod_eq_of_lt (by omega)]
  rw [F.b, List.getElem?_map] at h
  cases e : (stQ n (qs0 n) cs).ps[i]? with
  | none => rw [e] at h; cases h
  | some y => rw [e] at h; cases h; rw [prc_of e]
theorem PlayF.each (F : PlayF n cs ks ws bs aw dn) {i : Nat} {x y : Bool} (hx : ws[i]? = some x) (hy : bs[i]? = some y) : (x = true → y = true) ∧ (dn = true → x = false ∧ y = false) := by
  rw [F.wi hx, F.bi hy, F.d]
  exact ⟨F.tr.wb _, fun h => ⟨((F.tr.rest h).1 _).2, ((F.tr.rest h).1 _).1⟩⟩
theorem PlayF.away (F : PlayF n cs ks ws bs aw dn) (h : dn = true) : aw = 0 := by rw [F.a]; exact (quiet_rest F.tr F.nd (F.d ▸ h)).1
end
def PlayV (n : Nat) (cs : List Cm) (v : Value) (w : World) : Prop := ∃ a1 c1 a2 c2 a3 c3 ks ws bs aw dn, v = .tuple #[.agg #[.slice a1 cs.length c1, .slice a2 n c2, .slice a3 n c3, .int .i64 ((aw : Nat) : Int), .bool dn], .int .i64 0] ∧
  SlS FZ 1 w (.slice a1 cs.length c1) ks ∧ SlS FB 1 w (.slice a2 n c2) ws ∧ SlS FB 1 w (.slice a3 n c3) bs ∧ PlayF n cs ks ws bs aw dn
theorem play_v {W : World} {n : Nat} {sv : Value} {cs : List Cm} (hs : SlS FC 3 W sv cs) (h1 : 1 ≤ n) (h6 : n ≤ 6) (hm : cs.length ≤ 120) :
    Calls Try.prog 7 #[.int .i64 n, sv] W fun e w' => ∃ v, e = .returned v ∧ PlayV n cs v w' ∧ Below W.heap.size W w' := by
  refine (play_ok hs h1 h6 hm).mono ?_
  rintro e w' ⟨v, he, ⟨cv, wv, bv, rfl, k1, k2, k3⟩, hb⟩
  have F : PlayF n cs _ _ _ _ _ := ⟨rfl, rfl, rfl, rfl, rfl, h1, h6⟩
  obtain ⟨a1, c1, rfl, _⟩ := k1.form
  obtain ⟨a2, c2, rfl, _⟩ := k2.form
  obtain ⟨a3, c3, rfl, _⟩ := k3.form
  refine ⟨_, he, ⟨a1, c1, a2, c2, a3, c3, _, _, _, _, _, ?_, ?_, ?_, ?_, F⟩, hb⟩
  · rw [F.kl, F.wl, F.bl]
  · rw [F.kl] at k1; exact k1
  · rw [F.wl] at k2; exact k2
  · rw [F.bl] at k3; exact k3
theorem true_out {W : World} {sv : Value} {cs : List Cm} {n : Int} (hs : SlS FC 3 W sv cs) (hbad : n < 1 ∨ 6 < n ∨ 120 < (cs.length : Int)) :
    Calls Try.prog 3 #[.int .i64 n, sv] W fun e w' => e = .returned (.bool true) ∧ Below W.heap.size W w' := by
  refine calls_pure (Gx.enter (l := []) Try.func3 rfl Try.ntmps3 rfl (Sat.start W) ?_)
  refine Gx.know (m' := [(0, .int .i64 n), (1, sv)]) (.cons rfl (.cons rfl .nil)) ?_
  refine Gx.seq ?_
  refine Gx.region ?_
  refine Gx.val rfl rfl rfl (val_assign rfl rfl) ?_
  refine Gx.done ?_
  refine Gx.thenN ?_
  refine Gx.seq ?_
  refine Gx.region ?_
  refine Gx.val rfl rfl rfl (val_move rfl rfl) ?_
  refine Gx.val rfl rfl rfl (val_move rfl rfl) ?_
  refine Gx.val rfl rfl rfl (val_call (vs := [.int .i64 n, sv]) rfl Try.fn7 rfl (fun w H => play_no (hs.below H.below) hbad)) ?_
  refine Gx.val rfl rfl rfl (val_move rfl rfl) ?_
  refine Gx.val rfl rfl rfl (val_extract rfl rfl rfl) ?_
  refine Gx.val rfl rfl rfl (val_extract rfl rfl rfl) ?_
  refine Gx.eff rfl rfl rfl (eff_alloc rfl Try.ty26 (vs := [.slice none 0 0, .slice none 0 0, .slice none 0 0, .int .i64 0, .bool false]) rfl) ?_
  rintro _ _ ⟨b1, rfl, rfl⟩
  refine Gx.eff0 rfl rfl (eff_store rfl Try.ty26 rfl rfl (us := [.slice none 0 0, .slice none 0 0, .slice none 0 0, .int .i64 0, .bool false]) rfl rfl rfl (k := 0) rfl rfl (vs' := [.slice none 0 0, .slice none 0 0, .slice none 0 0, .int .i64 0, .bool false]) rfl (l' := [Hp.rec_ b1 [.slice none 0 0, .slice none 0 0, .slice none 0 0, .int .i64 0, .bool false]]) rfl) ?_
  rintro _ _ rfl
  refine Gx.val rfl rfl rfl (val_assign rfl rfl) ?_
  refine Gx.done ?_
  refine Gx.thenN ?_
  refine Gx.seq ?_
  refine Gx.seq ?_
  refine Gx.region ?_
  refine Gx.val rfl rfl rfl (val_move rfl rfl) ?_
  refine Gx.val rfl rfl rfl (Val.cast (val_neq rfl rfl rfl) (v' := .bool true) rfl) ?_
  refine Gx.done ?_
  refine Gx.thenN ?_
  refine Gx.t rfl ?_
  refine Gx.seq ?_
  refine Gx.region ?_
  refine Gx.val rfl rfl rfl (Val.cast (val_fieldAddr rfl Try.underlying26 rfl Try.ty23 rfl rfl) (v' := ptr b1 0) rfl) ?_
  refine Gx.val rfl rfl rfl (val_load rfl Try.ty23 rfl rfl (cell_rec (k := 0) rfl rfl)) ?_
  refine Gx.val rfl rfl rfl (val_len rfl Try.underlying23 rfl len_lit) ?_
  refine Gx.val rfl rfl rfl (Val.cast (val_eql rfl rfl rfl) (v' := .bool true) rfl) ?_
  refine Gx.val rfl rfl rfl (val_assign rfl rfl) ?_
  refine Gx.done ?_
  refine Gx.thenN ?_
  refine Gx.ret ?_
  refine Gx.thenR ?_
  refine Gx.ret1 Try.results3 rfl ?_
  rfl

theorem true_in {W : World} {sv : Value} {cs : List Cm} {n : Nat} (hs : SlS FC 3 W sv cs) (h1 : 1 ≤ n) (h6 : n ≤ 6) (hl : cs.length ≤ 120) :
    Calls Try.prog 3 #[.int .i64 ((n : Nat) : Int), sv] W fun e w' => e = .returned (.bool true) ∧ Below W.heap.size W w' := by
  refine calls_pure (Gx.enter (l := []) Try.func3 rfl Try.ntmps3 rfl (Sat.start W) ?_)
  refine Gx.know (m' := [(0, .int .i64 ((n : Nat) : Int)), (1, sv)]) (.cons rfl (.cons rfl .nil)) ?_
  refine Gx.seq ?_
  refine Gx.region ?_
  refine Gx.val rfl rfl rfl (val_assign rfl rfl) ?_
  refine Gx.done ?_
  refine Gx.thenN ?_
  refine Gx.seq ?_
  refine Gx.region ?_
  refine Gx.val rfl rfl rfl (val_move rfl rfl) ?_
  refine Gx.val rfl rfl rfl (val_move rfl rfl) ?_
  refine Gx.callB rfl rfl rfl (vs := [.int .i64 ((n : Nat) : Int), sv]) rfl Try.fn7 rfl (R := PlayV n cs) (fun w H => (play_v (hs.below H.below) (by omega) (by omega) (by omega))) ?_
  rintro _ W2 ⟨a11, c11, a21, c21, a31, c31, ks1, ws1, bs1, aw1, dn1, rfl, hk1, hw1, hb1, hF1⟩ H3
  have hW4 := H3.below
  have hs5 := hs.below H3.below
  have hkl1 := hF1.kl
  have hwl1 := hF1.wl
  have hbl1 := hF1.bl
  refine Gx.val rfl rfl rfl (val_move rfl rfl) ?_
  refine Gx.val rfl rfl rfl (val_extract rfl rfl rfl) ?_
  refine Gx.val rfl rfl rfl (val_extract rfl rfl rfl) ?_
  refine Gx.eff rfl rfl rfl (eff_alloc rfl Try.ty26 (vs := [.slice none 0 0, .slice none 0 0, .slice none 0 0, .int .i64 0, .bool false]) rfl) ?_
  rintro _ _ ⟨b6, rfl, rfl⟩
  refine Gx.eff0 rfl rfl (eff_store rfl Try.ty26 rfl rfl (us := [.slice a11 cs.length c11, .slice a21 n c21, .slice a31 n c31, .int .i64 ((aw1 : Nat) : Int), .bool dn1]) rfl rfl rfl (k := 0) rfl rfl (vs' := [.slice a11 cs.length c11, .slice a21 n c21, .slice a31 n c31, .int .i64 ((aw1 : Nat) : Int), .bool dn1]) rfl (l' := [Hp.rec_ b6 [.slice a11 cs.length c11, .slice a21 n c21, .slice a31 n c31, .int .i64 ((aw1 : Nat) : Int), .bool dn1]]) rfl) ?_
  rintro _ _ rfl
  refine Gx.val rfl rfl rfl (val_assign rfl rfl) ?_
  refine Gx.done ?_
  refine Gx.thenN ?_
  refine Gx.seq ?_
  refine Gx.seq ?_
  refine Gx.region ?_
  refine Gx.val rfl rfl rfl (val_move rfl rfl) ?_
  refine Gx.val rfl rfl rfl (Val.cast (val_neq rfl rfl rfl) (v' := .bool false) rfl) ?_
  refine Gx.done ?_
  refine Gx.thenN ?_
  refine Gx.f rfl ?_
  refine Gx.skip ?_
  refine Gx.thenN ?_
  refine Gx.seq ?_
  refine Gx.seq ?_
  refine Gx.region ?_
  refine Gx.val rfl rfl rfl (Val.cast (val_fieldAddr rfl Try.underlying26 rfl Try.ty24 rfl rfl) (v' := ptr b6 1) rfl) ?_
  refine Gx.val rfl rfl rfl (val_load rfl Try.ty24 rfl rfl (cell_rec (k := 0) rfl rfl)) ?_
  refine Gx.val rfl rfl rfl (val_len rfl Try.underlying24 rfl (len_base hw1)) ?_
  refine Gx.val rfl rfl rfl (val_move rfl rfl) ?_
  refine Gx.val rfl rfl rfl (val_neq rfl rfl rfl) ?_
  refine Gx.val rfl rfl rfl (val_move rfl rfl) ?_
  refine Gx.slot (t := 25) (v := .bool false) (look_decF rfl (by omega)) ?_
  refine Gx.valg rfl rfl rfl rfl rfl (Val.cast (val_fieldAddr rfl Try.underlying26 rfl Try.ty24 rfl rfl) (v' := ptr b6 2) rfl) ?_
  refine Gx.valg rfl rfl rfl rfl rfl (val_load rfl Try.ty24 rfl rfl (cell_rec (k := 0) rfl rfl)) ?_
  refine Gx.valg rfl rfl rfl rfl rfl (val_len rfl Try.underlying24 rfl (len_base hb1)) ?_
  refine Gx.valg rfl rfl rfl rfl rfl (val_move rfl rfl) ?_
  refine Gx.valg rfl rfl rfl rfl rfl (val_neq rfl rfl rfl) ?_
  refine Gx.val rfl rfl rfl (val_pickF rfl rfl rfl) ?_
  refine Gx.val rfl rfl rfl (val_move rfl rfl) ?_
  refine Gx.slot (t := 32) (v := .bool false) (look_decF rfl (by omega)) ?_
  refine Gx.valg rfl rfl rfl rfl rfl (Val.cast (val_fieldAddr rfl Try.underlying26 rfl Try.ty23 rfl rfl) (v' := ptr b6 0) rfl) ?_
  refine Gx.valg rfl rfl rfl rfl rfl (val_load rfl Try.ty23 rfl rfl (cell_rec (k := 0) rfl rfl)) ?_
  refine Gx.valg rfl rfl rfl rfl rfl (val_len rfl Try.underlying23 rfl (len_base hk1)) ?_
  refine Gx.valg rfl rfl rfl rfl rfl (val_move rfl rfl) ?_
  refine Gx.valg rfl rfl rfl rfl rfl (val_len rfl Try.underlying22 rfl (len_base hs5)) ?_
  refine Gx.valg rfl rfl rfl rfl rfl (val_neq rfl rfl rfl) ?_
  refine Gx.val rfl rfl rfl (val_pickF rfl rfl rfl) ?_
  refine Gx.done ?_
  refine Gx.thenN ?_
  refine Gx.decF rfl (by omega) ?_
  refine Gx.skip ?_
  refine Gx.thenN ?_
  refine Gx.seq ?_
  refine Gx.seq ?_
  refine Gx.region ?_
  refine Gx.val rfl rfl rfl (val_assign rfl rfl) ?_
  refine Gx.done ?_
  refine Gx.thenN ?_
  refine Gx.block ?_
  refine Gx.loop (ι := Nat) (fun ξ => (ξ ≤ n)) (fun ξ => [(0, .int .i64 ((n : Nat) : Int)), (5, ptr b6 0), (7, .int .i64 ((ξ : Nat) : Int))]) (fun ξ => [Hp.rec_ b6 [.slice a11 cs.length c11, .slice a21 n c21, .slice a31 n c31, .int .i64 ((aw1 : Nat) : Int), .bool dn1]]) (fun ξ => n - ξ) 0 (by omega) ((.cons rfl (.cons rfl (.cons rfl .nil)))) rfl ?_
  rintro i hi
  refine Gx.know (m' := [(0, .int .i64 ((n : Nat) : Int)), (5, ptr b6 0), (7, .int .i64 ((i : Nat) : Int))]) (.cons rfl (.cons rfl (.cons rfl .nil))) (Gx.norm (l' := [Hp.rec_ b6 [.slice a11 cs.length c11, .slice a21 n c21, .slice a31 n c31, .int .i64 ((aw1 : Nat) : Int), .bool dn1]]) rfl ?_)
  refine Gx.seq ?_
  refine Gx.seq ?_
  refine Gx.region ?_
  refine Gx.val rfl rfl rfl (val_move rfl rfl) ?_
  refine Gx.val rfl rfl rfl (val_move rfl rfl) ?_
  refine Gx.val rfl rfl rfl (val_lss rfl rfl rfl) ?_
  refine Gx.done ?_
  refine Gx.thenN ?_
  refine Gx.dec rfl (fun h7 => ?_) (fun h7 => ?_)
  · refine Gx.skip ?_
    refine Gx.thenN ?_
    refine Gx.seq ?_
    refine Gx.block ?_
    refine Gx.seq ?_
    refine Gx.region ?_
    refine Gx.val rfl rfl rfl (Val.cast (val_fieldAddr rfl Try.underlying26 rfl Try.ty24 rfl rfl) (v' := ptr b6 1) rfl) ?_
    refine Gx.val rfl rfl rfl (val_load rfl Try.ty24 rfl rfl (cell_rec (k := 0) rfl rfl)) ?_
    refine Gx.val rfl rfl rfl (val_move rfl rfl) ?_
    obtain ⟨x8, hx8⟩ := get_of_lt (xs := ws1) (k := i) (by omega)
    refine Gx.val rfl rfl rfl (val_ixa rfl Try.underlying24 Try.ty4 rfl rfl (j := i) (rfl) (reach_base hw1 hx8)) ?_
    refine Gx.val rfl rfl rfl (val_load rfl Try.ty4 rfl rfl (cell_base (i := 0) hw1 hx8 rfl)) ?_
    refine Gx.val rfl rfl rfl (val_move rfl rfl) ?_
    refine Gx.casesB (t := 50) rfl (fun h9 => ?_) (fun h9 => ?_)
    · refine Gx.valg rfl rfl rfl rfl rfl (Val.cast (val_fieldAddr rfl Try.underlying26 rfl Try.ty24 rfl rfl) (v' := ptr b6 2) rfl) ?_
      refine Gx.valg rfl rfl rfl rfl rfl (val_load rfl Try.ty24 rfl rfl (cell_rec (k := 0) rfl rfl)) ?_
      refine Gx.valg rfl rfl rfl rfl rfl (val_move rfl rfl) ?_
      obtain ⟨x10, hx10⟩ := get_of_lt (xs := bs1) (k := i) (by omega)
      refine Gx.valg rfl rfl rfl rfl rfl (val_ixa rfl Try.underlying24 Try.ty4 rfl rfl (j := i) (rfl) (reach_base hb1 hx10)) ?_
      refine Gx.valg rfl rfl rfl rfl rfl (val_load rfl Try.ty4 rfl rfl (cell_base (i := 0) hb1 hx10 rfl)) ?_
      refine Gx.valg rfl rfl rfl rfl rfl (val_not rfl rfl) ?_
      refine Gx.val rfl rfl rfl (val_pickT rfl rfl rfl) ?_
      refine Gx.val rfl rfl rfl (val_move rfl rfl) ?_
      refine Gx.casesB (t := 58) rfl (fun h11 => ?_) (fun h11 => ?_)
      · refine Gx.skipg rfl rfl rfl rfl rfl rfl ?_
        refine Gx.skipg rfl rfl rfl rfl rfl rfl ?_
        refine Gx.skipg rfl rfl rfl rfl rfl rfl ?_
        refine Gx.skipu rfl rfl rfl rfl rfl ?_
        refine Gx.skipu rfl rfl rfl rfl rfl ?_
        refine Gx.skipu rfl rfl rfl rfl rfl ?_
        refine Gx.skipu rfl rfl rfl rfl rfl ?_
        refine Gx.skipu rfl rfl rfl rfl rfl ?_
        refine Gx.skipu rfl rfl rfl rfl rfl ?_
        refine Gx.skipu rfl rfl rfl rfl rfl ?_
        refine Gx.skipu rfl rfl rfl rfl rfl ?_
        refine Gx.skipu rfl rfl rfl rfl rfl ?_
        refine Gx.skipu rfl rfl rfl rfl rfl ?_
        refine Gx.skipu rfl rfl rfl rfl rfl ?_
        refine Gx.skipu rfl rfl rfl rfl rfl ?_
        refine Gx.skipg rfl rfl rfl rfl rfl rfl ?_
        refine Gx.val rfl rfl rfl (val_pickT rfl rfl rfl) ?_
        refine Gx.done ?_
        refine Gx.thenN ?_
        refine Gx.t rfl ?_
        refine Gx.seq ?_
        refine Gx.region ?_
        refine Gx.val rfl rfl rfl (val_assign rfl rfl) ?_
        refine Gx.done ?_
        refine Gx.thenN ?_
        refine Gx.ret ?_
        refine Gx.blkR ?_
        refine Gx.thenR ?_
        refine Gx.thenR ?_
        refine Gx.blkR ?_
        refine Gx.thenR ?_
        refine Gx.ret1B hW4 Try.results3 rfl ?_
        exfalso; have q := hF1.each hx8 hx10; simp_all
      · refine Gx.valg rfl rfl rfl rfl rfl (Val.cast (val_fieldAddr rfl Try.underlying26 rfl Try.ty4 rfl rfl) (v' := ptr b6 4) rfl) ?_
        refine Gx.valg rfl rfl rfl rfl rfl (val_load rfl Try.ty4 rfl rfl (cell_rec (k := 0) rfl rfl)) ?_
        refine Gx.valg rfl rfl rfl rfl rfl (val_move rfl rfl) ?_
        refine Gx.casesB (t := 61) rfl (fun h12 => ?_) (fun h12 => ?_)
        · refine Gx.valg rfl rfl rfl rfl rfl (Val.cast (val_fieldAddr rfl Try.underlying26 rfl Try.ty24 rfl rfl) (v' := ptr b6 1) rfl) ?_
          refine Gx.valg rfl rfl rfl rfl rfl (val_load rfl Try.ty24 rfl rfl (cell_rec (k := 0) rfl rfl)) ?_
          refine Gx.valg rfl rfl rfl rfl rfl (val_move rfl rfl) ?_
          refine Gx.valg rfl rfl rfl rfl rfl (val_ixa rfl Try.underlying24 Try.ty4 rfl rfl (j := i) (rfl) (reach_base hw1 hx8)) ?_
          refine Gx.valg rfl rfl rfl rfl rfl (val_load rfl Try.ty4 rfl rfl (cell_base (i := 0) hw1 hx8 rfl)) ?_
          refine Gx.valg rfl rfl rfl rfl rfl (val_move rfl rfl) ?_
          refine Gx.slot (t := 67) (v := .bool true) (look_boolT rfl (h9)) ?_
          refine Gx.skipg rfl rfl rfl rfl rfl rfl ?_
          refine Gx.skipg rfl rfl rfl rfl rfl rfl ?_
          refine Gx.skipg rfl rfl rfl rfl rfl rfl ?_
          refine Gx.skipg rfl rfl rfl rfl rfl rfl ?_
          refine Gx.skipg rfl rfl rfl rfl rfl rfl ?_
          refine Gx.valg rfl rfl rfl rfl rfl (val_pickT rfl rfl rfl) ?_
          refine Gx.valg rfl rfl rfl rfl rfl (val_pickT rfl rfl rfl) ?_
          refine Gx.val rfl rfl rfl (val_pickF rfl rfl rfl) ?_
          refine Gx.done ?_
          refine Gx.thenN ?_
          refine Gx.t rfl ?_
          refine Gx.seq ?_
          refine Gx.region ?_
          refine Gx.val rfl rfl rfl (val_assign rfl rfl) ?_
          refine Gx.done ?_
          refine Gx.thenN ?_
          refine Gx.ret ?_
          refine Gx.blkR ?_
          refine Gx.thenR ?_
          refine Gx.thenR ?_
          refine Gx.blkR ?_
          refine Gx.thenR ?_
          refine Gx.ret1B hW4 Try.results3 rfl ?_
          exfalso; have q := hF1.each hx8 hx10; simp_all
        · refine Gx.skipg rfl rfl rfl rfl rfl rfl ?_
          refine Gx.skipg rfl rfl rfl rfl rfl rfl ?_
          refine Gx.skipg rfl rfl rfl rfl rfl rfl ?_
          refine Gx.skipg rfl rfl rfl rfl rfl rfl ?_
          refine Gx.skipg rfl rfl rfl rfl rfl rfl ?_
          refine Gx.skipg rfl rfl rfl rfl rfl rfl ?_
          refine Gx.skipu rfl rfl rfl rfl rfl ?_
          refine Gx.skipu rfl rfl rfl rfl rfl ?_
          refine Gx.skipu rfl rfl rfl rfl rfl ?_
          refine Gx.skipu rfl rfl rfl rfl rfl ?_
          refine Gx.skipu rfl rfl rfl rfl rfl ?_
          refine Gx.skipg rfl rfl rfl rfl rfl rfl ?_
          refine Gx.valg rfl rfl rfl rfl rfl (val_pickF rfl rfl rfl) ?_
          refine Gx.val rfl rfl rfl (val_pickF rfl rfl rfl) ?_
          refine Gx.done ?_
          refine Gx.thenN ?_
          refine Gx.f rfl ?_
          refine Gx.skip ?_
          refine Gx.blkN ?_
          refine Gx.thenN ?_
          refine Gx.region ?_
          refine Gx.val rfl rfl rfl (val_move rfl rfl) ?_
          refine Gx.val rfl rfl rfl (val_add rfl rfl rfl (r := ((i + 1 : Nat) : Int)) (w64 (by omega) (by omega))) ?_
          refine Gx.val rfl rfl rfl (val_assign rfl rfl) ?_
          refine Gx.done ?_
          refine Gx.thenN ?_
          exact Gx.round (i + 1) (by omega) (by omega) ((.cons rfl (.cons rfl (.cons rfl .nil)))) rfl
    · refine Gx.skipg rfl rfl rfl rfl rfl rfl ?_
      refine Gx.skipg rfl rfl rfl rfl rfl rfl ?_
      refine Gx.skipg rfl rfl rfl rfl rfl rfl ?_
      refine Gx.skipg rfl rfl rfl rfl rfl rfl ?_
      refine Gx.skipg rfl rfl rfl rfl rfl rfl ?_
      refine Gx.skipg rfl rfl rfl rfl rfl rfl ?_
      refine Gx.val rfl rfl rfl (val_pickF rfl rfl rfl) ?_
      refine Gx.val rfl rfl rfl (val_move rfl rfl) ?_
      refine Gx.valg rfl rfl rfl rfl rfl (Val.cast (val_fieldAddr rfl Try.underlying26 rfl Try.ty4 rfl rfl) (v' := ptr b6 4) rfl) ?_
      refine Gx.valg rfl rfl rfl rfl rfl (val_load rfl Try.ty4 rfl rfl (cell_rec (k := 0) rfl rfl)) ?_
      refine Gx.valg rfl rfl rfl rfl rfl (val_move rfl rfl) ?_
      refine Gx.casesB (t := 61) rfl (fun h13 => ?_) (fun h13 => ?_)
      · refine Gx.valg rfl rfl rfl rfl rfl (Val.cast (val_fieldAddr rfl Try.underlying26 rfl Try.ty24 rfl rfl) (v' := ptr b6 1) rfl) ?_
        refine Gx.valg rfl rfl rfl rfl rfl (val_load rfl Try.ty24 rfl rfl (cell_rec (k := 0) rfl rfl)) ?_
        refine Gx.valg rfl rfl rfl rfl rfl (val_move rfl rfl) ?_
        refine Gx.valg rfl rfl rfl rfl rfl (val_ixa rfl Try.underlying24 Try.ty4 rfl rfl (j := i) (rfl) (reach_base hw1 hx8)) ?_
        refine Gx.valg rfl rfl rfl rfl rfl (val_load rfl Try.ty4 rfl rfl (cell_base (i := 0) hw1 hx8 rfl)) ?_
        refine Gx.valg rfl rfl rfl rfl rfl (val_move rfl rfl) ?_
        refine Gx.slot (t := 67) (v := .bool false) (look_boolF rfl (h9)) ?_
        refine Gx.valg rfl rfl rfl rfl rfl (Val.cast (val_fieldAddr rfl Try.underlying26 rfl Try.ty24 rfl rfl) (v' := ptr b6 2) rfl) ?_
        refine Gx.valg rfl rfl rfl rfl rfl (val_load rfl Try.ty24 rfl rfl (cell_rec (k := 0) rfl rfl)) ?_
        refine Gx.valg rfl rfl rfl rfl rfl (val_move rfl rfl) ?_
        obtain ⟨x14, hx14⟩ := get_of_lt (xs := bs1) (k := i) (by omega)
        refine Gx.valg rfl rfl rfl rfl rfl (val_ixa rfl Try.underlying24 Try.ty4 rfl rfl (j := i) (rfl) (reach_base hb1 hx14)) ?_
        refine Gx.valg rfl rfl rfl rfl rfl (val_load rfl Try.ty4 rfl rfl (cell_base (i := 0) hb1 hx14 rfl)) ?_
        refine Gx.valg rfl rfl rfl rfl rfl (val_pickF rfl rfl rfl) ?_
        refine Gx.valg rfl rfl rfl rfl rfl (val_pickT rfl rfl rfl) ?_
        refine Gx.val rfl rfl rfl (val_pickF rfl rfl rfl) ?_
        refine Gx.done ?_
        refine Gx.thenN ?_
        refine Gx.bool rfl (fun h15 => ?_) (fun h15 => ?_)
        · refine Gx.seq ?_
          refine Gx.region ?_
          refine Gx.val rfl rfl rfl (val_assign rfl rfl) ?_
          refine Gx.done ?_
          refine Gx.thenN ?_
          refine Gx.ret ?_
          refine Gx.blkR ?_
          refine Gx.thenR ?_
          refine Gx.thenR ?_
          refine Gx.blkR ?_
          refine Gx.thenR ?_
          refine Gx.ret1B hW4 Try.results3 rfl ?_
          exfalso; have q := hF1.each hx8 hx14; simp_all
        · refine Gx.skip ?_
          refine Gx.blkN ?_
          refine Gx.thenN ?_
          refine Gx.region ?_
          refine Gx.val rfl rfl rfl (val_move rfl rfl) ?_
          refine Gx.val rfl rfl rfl (val_add rfl rfl rfl (r := ((i + 1 : Nat) : Int)) (w64 (by omega) (by omega))) ?_
          refine Gx.val rfl rfl rfl (val_assign rfl rfl) ?_
          refine Gx.done ?_
          refine Gx.thenN ?_
          exact Gx.round (i + 1) (by omega) (by omega) ((.cons rfl (.cons rfl (.cons rfl .nil)))) rfl
      · refine Gx.skipg rfl rfl rfl rfl rfl rfl ?_
        refine Gx.skipg rfl rfl rfl rfl rfl rfl ?_
        refine Gx.skipg rfl rfl rfl rfl rfl rfl ?_
        refine Gx.skipg rfl rfl rfl rfl rfl rfl ?_
        refine Gx.skipg rfl rfl rfl rfl rfl rfl ?_
        refine Gx.skipg rfl rfl rfl rfl rfl rfl ?_
        refine Gx.skipu rfl rfl rfl rfl rfl ?_
        refine Gx.skipu rfl rfl rfl rfl rfl ?_
        refine Gx.skipu rfl rfl rfl rfl rfl ?_
        refine Gx.skipu rfl rfl rfl rfl rfl ?_
        refine Gx.skipu rfl rfl rfl rfl rfl ?_
        refine Gx.skipg rfl rfl rfl rfl rfl rfl ?_
        refine Gx.valg rfl rfl rfl rfl rfl (val_pickF rfl rfl rfl) ?_
        refine Gx.val rfl rfl rfl (val_pickF rfl rfl rfl) ?_
        refine Gx.done ?_
        refine Gx.thenN ?_
        refine Gx.f rfl ?_
        refine Gx.skip ?_
        refine Gx.blkN ?_
        refine Gx.thenN ?_
        refine Gx.region ?_
        refine Gx.val rfl rfl rfl (val_move rfl rfl) ?_
        refine Gx.val rfl rfl rfl (val_add rfl rfl rfl (r := ((i + 1 : Nat) : Int)) (w64 (by omega) (by omega))) ?_
        refine Gx.val rfl rfl rfl (val_assign rfl rfl) ?_
        refine Gx.done ?_
        refine Gx.thenN ?_
        exact Gx.round (i + 1) (by omega) (by omega) ((.cons rfl (.cons rfl (.cons rfl .nil)))) rfl
  · refine Gx.exit ?_
    refine Gx.thenE ?_
    refine Gx.thenE ?_
    refine Gx.blkE ?_
    refine Gx.thenN ?_
    refine Gx.seq ?_
    refine Gx.region ?_
    refine Gx.val rfl rfl rfl (Val.cast (val_fieldAddr rfl Try.underlying26 rfl Try.ty4 rfl rfl) (v' := ptr b6 4) rfl) ?_
    refine Gx.val rfl rfl rfl (val_load rfl Try.ty4 rfl rfl (cell_rec (k := 0) rfl rfl)) ?_
    refine Gx.val rfl rfl rfl (val_not rfl rfl) ?_
    refine Gx.val rfl rfl rfl (val_move rfl rfl) ?_
    refine Gx.casesB (t := 79) rfl (fun h16 => ?_) (fun h16 => ?_)
    · refine Gx.skipg rfl rfl rfl rfl rfl rfl ?_
      refine Gx.skipg rfl rfl rfl rfl rfl rfl ?_
      refine Gx.skipg rfl rfl rfl rfl rfl rfl ?_
      refine Gx.val rfl rfl rfl (val_pickT rfl rfl rfl) ?_
      refine Gx.val rfl rfl rfl (val_assign rfl rfl) ?_
      refine Gx.done ?_
      refine Gx.thenN ?_
      refine Gx.ret ?_
      refine Gx.ret1B hW4 Try.results3 rfl ?_
      rfl
    · refine Gx.valg rfl rfl rfl rfl rfl (Val.cast (val_fieldAddr rfl Try.underlying26 rfl Try.ty3 rfl rfl) (v' := ptr b6 3) rfl) ?_
      refine Gx.valg rfl rfl rfl rfl rfl (val_load rfl Try.ty3 rfl rfl (cell_rec (k := 0) rfl rfl)) ?_
      refine Gx.valg rfl rfl rfl rfl rfl (val_eql rfl rfl rfl) ?_
      refine Gx.val rfl rfl rfl (val_pickF rfl rfl rfl) ?_
      refine Gx.val rfl rfl rfl (val_assign rfl rfl) ?_
      refine Gx.done ?_
      refine Gx.thenN ?_
      refine Gx.ret ?_
      refine Gx.ret1B hW4 Try.results3 rfl ?_
      exact congrArg Value.bool (decide_eq_true (by have := hF1.away (by simp_all); omega))

theorem true_any (n : Int) (sv : Value) (cs : List Cm) (W : World) (hs : SlS FC 3 W sv cs) : Calls Try.prog 3 #[.int .i64 n, sv] W fun e w' => e = .returned (.bool true) ∧ Below W.heap.size W w' := by
  by_cases h : 1 ≤ n ∧ n ≤ 6 ∧ cs.length ≤ 120
  · obtain ⟨m, rfl⟩ := Int.eq_ofNat_of_zero_le (show 0 ≤ n by omega)
    exact true_in hs (by omega) (by omega) (by omega)
  · exact true_out hs (by omega)

end Go.Proofs.Ytgnpngiecnkfiaa
