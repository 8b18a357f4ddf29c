/- All the money is there. The walk. No condition. -/
import Derived.Test.YtanipkddfngnnaaM2
namespace Go.Proofs.Ytanipkddfngnnaa
open Go.RowKit
set_option linter.unusedVariables false
set_option linter.unusedSimpArgs false
set_option maxRecDepth 100000

theorem keeps_no1 {W : World} {mv sv : Value} {money : List Int} {cs : List Mv} (hm : SlS FI 1 W mv money) (hs : SlS FM 4 W sv cs) (hbad : money.length = 0 ∨ 6 < money.length ∨ 120 < cs.length) :
    Calls Try.prog 3 #[mv, sv] W fun e w' => e = .returned (.bool true) ∧ Below W.heap.size W w' := by
  refine calls_pure (Gx.enter (l := []) Try.func3 rfl Try.ntmps3 rfl (Sat.start W) ?_)
  refine Gx.know (m' := [(0, mv), (1, sv)]) (.cons rfl (.cons rfl .nil)) ?_
  refine Gx.seq ?_
  refine Gx.region ?_
  refine Gx.val rfl rfl rfl (val_assign rfl rfl) ?_
  refine Gx.done ?_
  refine Gx.thenN ?_
  refine Gx.seq ?_
  refine Gx.region ?_
  refine Gx.val rfl rfl rfl (val_move rfl rfl) ?_
  refine Gx.val rfl rfl rfl (val_move rfl rfl) ?_
  refine Gx.val rfl rfl rfl (val_call (vs := [mv, sv]) rfl Try.fn7 rfl (fun w H => play_no1 (hm.below H.below) (hs.below H.below) hbad)) ?_
  refine Gx.val rfl rfl rfl (val_move rfl rfl) ?_
  refine Gx.val rfl rfl rfl (val_extract rfl rfl rfl) ?_
  refine Gx.val rfl rfl rfl (val_extract rfl rfl rfl) ?_
  refine Gx.eff rfl rfl rfl (eff_alloc rfl Try.ty27 (vs := [.slice none 0 0, .slice none 0 0, .slice none 0 0, .slice none 0 0, .bool false]) rfl) ?_
  rintro _ _ ⟨b1, rfl, rfl⟩
  refine Gx.eff0 rfl rfl (eff_store rfl Try.ty27 rfl rfl (us := [.slice none 0 0, .slice none 0 0, .slice none 0 0, .slice none 0 0, .bool false]) rfl rfl rfl (k := 0) rfl (rfl) (vs' := [.slice none 0 0, .slice none 0 0, .slice none 0 0, .slice none 0 0, .bool false]) (rfl) (l' := [Hp.rec_ b1 [.slice none 0 0, .slice none 0 0, .slice none 0 0, .slice none 0 0, .bool false]]) rfl) ?_
  rintro _ _ rfl
  refine Gx.val rfl rfl rfl (val_assign rfl rfl) ?_
  refine Gx.done ?_
  refine Gx.thenN ?_
  refine Gx.seq ?_
  refine Gx.seq ?_
  refine Gx.region ?_
  refine Gx.val rfl rfl rfl (val_move rfl rfl) ?_
  refine Gx.val rfl rfl rfl (Val.cast (val_neq rfl rfl rfl) (v' := .bool true) rfl) ?_
  refine Gx.done ?_
  refine Gx.thenN ?_
  refine Gx.t rfl ?_
  refine Gx.seq ?_
  refine Gx.region ?_
  refine Gx.val rfl rfl rfl (Val.cast (val_fieldAddr rfl Try.underlying27 rfl Try.ty22 rfl rfl) (v' := ptr b1 1) rfl) ?_
  refine Gx.val rfl rfl rfl (val_load rfl Try.ty22 rfl rfl (cell_rec (k := 0) rfl rfl)) ?_
  refine Gx.val rfl rfl rfl (val_len rfl Try.underlying22 rfl len_lit) ?_
  refine Gx.val rfl rfl rfl (Val.cast (val_eql rfl rfl rfl) (v' := .bool true) rfl) ?_
  refine Gx.val rfl rfl rfl (val_assign rfl rfl) ?_
  refine Gx.done ?_
  refine Gx.thenN ?_
  refine Gx.ret ?_
  refine Gx.thenR ?_
  refine Gx.ret1 Try.results3 rfl ?_
  rfl

theorem keeps_no2 {W : World} {mv sv : Value} {money : List Int} {cs : List Mv} (hm : SlS FI 1 W mv money) (hs : SlS FM 4 W sv cs) (hok : ¬ (money.length = 0 ∨ 6 < money.length ∨ 120 < cs.length)) (hbad : 0 ≤ firstB money) :
    Calls Try.prog 3 #[mv, sv] W fun e w' => e = .returned (.bool true) ∧ Below W.heap.size W w' := by
  refine calls_pure (Gx.enter (l := []) Try.func3 rfl Try.ntmps3 rfl (Sat.start W) ?_)
  refine Gx.know (m' := [(0, mv), (1, sv)]) (.cons rfl (.cons rfl .nil)) ?_
  refine Gx.seq ?_
  refine Gx.region ?_
  refine Gx.val rfl rfl rfl (val_assign rfl rfl) ?_
  refine Gx.done ?_
  refine Gx.thenN ?_
  refine Gx.seq ?_
  refine Gx.region ?_
  refine Gx.val rfl rfl rfl (val_move rfl rfl) ?_
  refine Gx.val rfl rfl rfl (val_move rfl rfl) ?_
  refine Gx.val rfl rfl rfl (val_call (vs := [mv, sv]) rfl Try.fn7 rfl (fun w H => play_no2 (hm.below H.below) (hs.below H.below) hok hbad)) ?_
  refine Gx.val rfl rfl rfl (val_move rfl rfl) ?_
  refine Gx.val rfl rfl rfl (val_extract rfl rfl rfl) ?_
  refine Gx.val rfl rfl rfl (val_extract rfl rfl rfl) ?_
  refine Gx.eff rfl rfl rfl (eff_alloc rfl Try.ty27 (vs := [.slice none 0 0, .slice none 0 0, .slice none 0 0, .slice none 0 0, .bool false]) rfl) ?_
  rintro _ _ ⟨b1, rfl, rfl⟩
  refine Gx.eff0 rfl rfl (eff_store rfl Try.ty27 rfl rfl (us := [.slice none 0 0, .slice none 0 0, .slice none 0 0, .slice none 0 0, .bool false]) rfl rfl rfl (k := 0) rfl (rfl) (vs' := [.slice none 0 0, .slice none 0 0, .slice none 0 0, .slice none 0 0, .bool false]) (rfl) (l' := [Hp.rec_ b1 [.slice none 0 0, .slice none 0 0, .slice none 0 0, .slice none 0 0, .bool false]]) rfl) ?_
  rintro _ _ rfl
  refine Gx.val rfl rfl rfl (val_assign rfl rfl) ?_
  refine Gx.done ?_
  refine Gx.thenN ?_
  refine Gx.seq ?_
  refine Gx.seq ?_
  refine Gx.region ?_
  refine Gx.val rfl rfl rfl (val_move rfl rfl) ?_
  refine Gx.val rfl rfl rfl (Val.cast (val_neq rfl rfl rfl) (v' := .bool true) rfl) ?_
  refine Gx.done ?_
  refine Gx.thenN ?_
  refine Gx.t rfl ?_
  refine Gx.seq ?_
  refine Gx.region ?_
  refine Gx.val rfl rfl rfl (Val.cast (val_fieldAddr rfl Try.underlying27 rfl Try.ty22 rfl rfl) (v' := ptr b1 1) rfl) ?_
  refine Gx.val rfl rfl rfl (val_load rfl Try.ty22 rfl rfl (cell_rec (k := 0) rfl rfl)) ?_
  refine Gx.val rfl rfl rfl (val_len rfl Try.underlying22 rfl len_lit) ?_
  refine Gx.val rfl rfl rfl (Val.cast (val_eql rfl rfl rfl) (v' := .bool true) rfl) ?_
  refine Gx.val rfl rfl rfl (val_assign rfl rfl) ?_
  refine Gx.done ?_
  refine Gx.thenN ?_
  refine Gx.ret ?_
  refine Gx.thenR ?_
  refine Gx.ret1 Try.results3 rfl ?_
  rfl

theorem keeps_yes {W : World} {mv sv : Value} {money : List Int} {cs : List Mv} (hm : SlS FI 1 W mv money) (hs : SlS FM 4 W sv cs) (h1 : 1 ≤ money.length) (h6 : money.length ≤ 6) (hcl : cs.length ≤ 120) (hbad : ¬ 0 ≤ firstB money) :
    Calls Try.prog 3 #[mv, sv] W fun e w' => e = .returned (.bool true) ∧ Below W.heap.size W w' := by
  have hm0 : ∀ x ∈ money, 0 ≤ x := fun x hx => (firstB_ok hbad x hx).1
  have hmb : ∀ x ∈ money, -1 ≤ x ∧ x ≤ 6000 := fun x hx => by have := firstB_ok hbad x hx; omega
  have hms := lsum_le (firstB_ok hbad)
  have hM6 : lsum money ≤ 6000 := by omega
  have hM0 : 0 ≤ lsum money := by have h := lsum_nn (f := Pr.mo) (l := (ss0 money).ps) (BdS.zero hm0).mo; rw [show (ss0 money).ps.map Pr.mo = money from by show (money.map _).map Pr.mo = money; rw [List.map_map]; exact List.map_id _] at h; exact h
  have hnn : money.length * money.length ≤ 36 := Nat.mul_le_mul h6 h6
  have bd : BdS 240 (lsum money) money.length (stS (ss0 money) cs) := ((BdS.zero hm0).run h6 cs).mono (by omega)
  have hN : BdN (lsum money) money.length (stS (ss0 money) cs) := (BdN.zero hM0).run h6 cs (BdS.zero hm0)
  have inv : InvS (lsum money) money.length (stS (ss0 money) cs) := InvS.zero.run h6 cs (BdS.zero hm0)
  have hhas := has_le bd
  have hmo : ∀ x ∈ ((stS (ss0 money) cs).ps.map Pr.mo), 0 ≤ x := fun x hx => by obtain ⟨p, hp, rfl⟩ := List.mem_map.1 hx; exact bd.mo p hp
  have hxb : ∀ x ∈ ((stS (ss0 money) cs).ps.map Pr.mo), -1 ≤ x ∧ x ≤ 6000 := fun x hx => by obtain ⟨p, hp, rfl⟩ := List.mem_map.1 hx; have := bd.mo p hp; have := bd.mo_le hp; omega
  have hob : ∀ x ∈ ((stS (ss0 money) cs).ps.map Pr.ow), -1 ≤ x ∧ x ≤ 6000 := fun x hx => by obtain ⟨p, hp, rfl⟩ := List.mem_map.1 hx; have := hN.ow p hp; have := inv.ow p hp; omega
  have hob2 := lsum_bd hob
  have hpl9 : ((stS (ss0 money) cs).ps.map Pr.ow).length = money.length := by rw [List.length_map]; exact bd.len
  have hall : DoneS (stS (ss0 money) cs) money.length → ∀ k, k = money.length * money.length → lsum ((stS (ss0 money) cs).ps.map Pr.ow) + nsum (stS (ss0 money) cs) money.length k = lsum money := fun hd k hk => by
    have := keeps inv h6 hd
    rw [hk, nsum_all _ (by omega)]; exact this
  have howd : DoneS (stS (ss0 money) cs) money.length → ∀ x ∈ ((stS (ss0 money) cs).ps.map Pr.ow), 0 ≤ x := fun hd x hx => by obtain ⟨p, hp, rfl⟩ := List.mem_map.1 hx; have := inv.ow p hp; have := hd.1 p hp; omega
  refine calls_pure (Gx.enter (l := []) Try.func3 rfl Try.ntmps3 rfl (Sat.start W) ?_)
  refine Gx.know (m' := [(0, mv), (1, sv)]) (.cons rfl (.cons rfl .nil)) ?_
  refine Gx.seq ?_
  refine Gx.region ?_
  refine Gx.val rfl rfl rfl (val_assign rfl rfl) ?_
  refine Gx.done ?_
  refine Gx.thenN ?_
  refine Gx.seq ?_
  refine Gx.region ?_
  refine Gx.val rfl rfl rfl (val_move rfl rfl) ?_
  refine Gx.val rfl rfl rfl (val_move rfl rfl) ?_
  refine Gx.callB rfl rfl rfl (vs := [mv, sv]) rfl Try.fn7 rfl (R := fun v w' => ∃ (cv wv uv bv : Value) (dm : Bool) (vals : List Sv), v = .tuple #[.agg #[cv, wv, uv, bv, .bool dm], .int .i64 0] ∧ SlS FZ 1 w' cv (codesS (ss0 money) cs) ∧ SlS FI 1 w' wv ((stS (ss0 money) cs).ps.map Pr.mo) ∧ SlS FI 1 w' uv ((stS (ss0 money) cs).ps.map Pr.ow) ∧ SlS FV 1 w' bv vals ∧ vals.length = money.length * money.length ∧ (∀ (k : Nat) (v : Sv), vals[k]? = some v → SlS FI 1 w' (.slice v.a v.n v.c) (nts (stS (ss0 money) cs) money.length k)) ∧ (dm = true ↔ DoneS (stS (ss0 money) cs) money.length)) (fun w H => play_ok (hm.below H.below) (hs.below H.below) h1 h6 (by omega) hbad) ?_
  rintro _ W7 ⟨cv1, wv2, uv3, bv4, dm5, vals6, rfl, hcv1, hwv2, huv3, hbv4, hlbv4, hrbv4, hddm5⟩ H8
  have hW9 := H8.below
  have hs10 := hm.below H8.below
  have hs11 := hs.below H8.below
  have hclcv1 : (codesS (ss0 money) cs).length = (cs).length := codesS_len ..
  have hplcv1 : (stS (ss0 money) cs).ps.length = money.length := ((BdS.zero hm0).run h6 cs).len
  have hmlcv1 : ((stS (ss0 money) cs).ps.map Pr.mo).length = money.length := by rw [List.length_map]; exact hplcv1
  have holcv1 : ((stS (ss0 money) cs).ps.map Pr.ow).length = money.length := by rw [List.length_map]; exact hplcv1
  obtain ⟨sa12, sn13, sc14, rfl⟩ := hcv1.isS
  obtain ⟨sa15, sn16, sc17, rfl⟩ := hwv2.isS
  obtain ⟨sa18, sn19, sc20, rfl⟩ := huv3.isS
  obtain ⟨sa21, sn22, sc23, rfl⟩ := hbv4.isS
  refine Gx.val rfl rfl rfl (val_move rfl rfl) ?_
  refine Gx.val rfl rfl rfl (val_extract rfl rfl rfl) ?_
  refine Gx.val rfl rfl rfl (val_extract rfl rfl rfl) ?_
  refine Gx.eff rfl rfl rfl (eff_alloc rfl Try.ty27 (vs := [.slice none 0 0, .slice none 0 0, .slice none 0 0, .slice none 0 0, .bool false]) rfl) ?_
  rintro _ _ ⟨b24, rfl, rfl⟩
  refine Gx.eff0 rfl rfl (eff_store rfl Try.ty27 rfl rfl (us := [.slice sa12 sn13 sc14, .slice sa15 sn16 sc17, .slice sa18 sn19 sc20, .slice sa21 sn22 sc23, .bool dm5]) rfl rfl rfl (k := 0) rfl (rfl) (vs' := [.slice sa12 sn13 sc14, .slice sa15 sn16 sc17, .slice sa18 sn19 sc20, .slice sa21 sn22 sc23, .bool dm5]) (rfl) (l' := [Hp.rec_ b24 [.slice sa12 sn13 sc14, .slice sa15 sn16 sc17, .slice sa18 sn19 sc20, .slice sa21 sn22 sc23, .bool dm5]]) rfl) ?_
  rintro _ _ rfl
  refine Gx.val rfl rfl rfl (val_assign rfl rfl) ?_
  refine Gx.done ?_
  refine Gx.thenN ?_
  refine Gx.seq ?_
  refine Gx.seq ?_
  refine Gx.region ?_
  refine Gx.val rfl rfl rfl (val_move rfl rfl) ?_
  refine Gx.val rfl rfl rfl (Val.cast (val_neq rfl rfl rfl) (v' := .bool false) rfl) ?_
  refine Gx.done ?_
  refine Gx.thenN ?_
  refine Gx.f rfl ?_
  refine Gx.skip ?_
  refine Gx.thenN ?_
  refine Gx.seq ?_
  refine Gx.region ?_
  refine Gx.val rfl rfl rfl (val_move rfl rfl) ?_
  refine Gx.val rfl rfl rfl (val_len rfl Try.underlying22 rfl (len_base hs10)) ?_
  refine Gx.val rfl rfl rfl (val_assign rfl rfl) ?_
  refine Gx.done ?_
  refine Gx.thenN ?_
  refine Gx.seq ?_
  refine Gx.seq ?_
  refine Gx.region ?_
  refine Gx.val rfl rfl rfl (Val.cast (val_fieldAddr rfl Try.underlying27 rfl Try.ty22 rfl rfl) (v' := ptr b24 1) rfl) ?_
  refine Gx.val rfl rfl rfl (val_load rfl Try.ty22 rfl rfl (cell_rec (k := 0) rfl rfl)) ?_
  refine Gx.val rfl rfl rfl (val_len rfl Try.underlying22 rfl (len_base hwv2)) ?_
  refine Gx.val rfl rfl rfl (val_move rfl rfl) ?_
  refine Gx.val rfl rfl rfl (val_neq rfl rfl rfl) ?_
  refine Gx.val rfl rfl rfl (val_move rfl rfl) ?_
  refine Gx.slot (t := 35) (v := .bool false) (look_decF rfl (by omega)) ?_
  refine Gx.valg rfl rfl rfl rfl rfl (Val.cast (val_fieldAddr rfl Try.underlying27 rfl Try.ty22 rfl rfl) (v' := ptr b24 2) rfl) ?_
  refine Gx.valg rfl rfl rfl rfl rfl (val_load rfl Try.ty22 rfl rfl (cell_rec (k := 0) rfl rfl)) ?_
  refine Gx.valg rfl rfl rfl rfl rfl (val_len rfl Try.underlying22 rfl (len_base huv3)) ?_
  refine Gx.valg rfl rfl rfl rfl rfl (val_move rfl rfl) ?_
  refine Gx.valg rfl rfl rfl rfl rfl (val_neq rfl rfl rfl) ?_
  refine Gx.val rfl rfl rfl (val_pickF rfl rfl rfl) ?_
  refine Gx.val rfl rfl rfl (val_move rfl rfl) ?_
  refine Gx.cases (t := 42) rfl (fun h25 => ?_) (fun h25 => ?_)
  · refine Gx.skipg rfl rfl rfl rfl rfl rfl ?_
    refine Gx.skipg rfl rfl rfl rfl rfl rfl ?_
    refine Gx.skipg rfl rfl rfl rfl rfl rfl ?_
    refine Gx.skipg rfl rfl rfl rfl rfl rfl ?_
    refine Gx.skipg rfl rfl rfl rfl rfl rfl ?_
    refine Gx.skipg rfl rfl rfl rfl rfl rfl ?_
    refine Gx.skipg rfl rfl rfl rfl rfl rfl ?_
    refine Gx.val rfl rfl rfl (val_pickT rfl rfl rfl) ?_
    refine Gx.val rfl rfl rfl (val_move rfl rfl) ?_
    refine Gx.skipg rfl rfl rfl rfl rfl rfl ?_
    refine Gx.skipg rfl rfl rfl rfl rfl rfl ?_
    refine Gx.skipg rfl rfl rfl rfl rfl rfl ?_
    refine Gx.skipg rfl rfl rfl rfl rfl rfl ?_
    refine Gx.skipg rfl rfl rfl rfl rfl rfl ?_
    refine Gx.skipg rfl rfl rfl rfl rfl rfl ?_
    refine Gx.val rfl rfl rfl (val_pickT rfl rfl rfl) ?_
    refine Gx.done ?_
    refine Gx.thenN ?_
    refine Gx.t rfl ?_
    refine Gx.seq ?_
    refine Gx.region ?_
    refine Gx.val rfl rfl rfl (val_assign rfl rfl) ?_
    refine Gx.done ?_
    refine Gx.thenN ?_
    refine Gx.ret ?_
    refine Gx.thenR ?_
    exfalso; omega
  · refine Gx.valg rfl rfl rfl rfl rfl (Val.cast (val_fieldAddr rfl Try.underlying27 rfl Try.ty25 rfl rfl) (v' := ptr b24 3) rfl) ?_
    refine Gx.valg rfl rfl rfl rfl rfl (val_load rfl Try.ty25 rfl rfl (cell_rec (k := 0) rfl rfl)) ?_
    refine Gx.valg rfl rfl rfl rfl rfl (val_len rfl Try.underlying25 rfl (len_base hbv4)) ?_
    refine Gx.valg rfl rfl rfl rfl rfl (val_move rfl rfl) ?_
    refine Gx.valg rfl rfl rfl rfl rfl (val_move rfl rfl) ?_
    refine Gx.valg rfl rfl rfl rfl rfl (val_mul rfl rfl rfl (r := ((money.length * money.length : Nat) : Int)) (w64 (by omega) (by omega))) ?_
    refine Gx.valg rfl rfl rfl rfl rfl (val_neq rfl rfl rfl) ?_
    refine Gx.val rfl rfl rfl (val_pickF rfl rfl rfl) ?_
    refine Gx.val rfl rfl rfl (val_move rfl rfl) ?_
    refine Gx.cases (t := 51) rfl (fun h26 => ?_) (fun h26 => ?_)
    · refine Gx.skipg rfl rfl rfl rfl rfl rfl ?_
      refine Gx.skipg rfl rfl rfl rfl rfl rfl ?_
      refine Gx.skipg rfl rfl rfl rfl rfl rfl ?_
      refine Gx.skipg rfl rfl rfl rfl rfl rfl ?_
      refine Gx.skipg rfl rfl rfl rfl rfl rfl ?_
      refine Gx.skipg rfl rfl rfl rfl rfl rfl ?_
      refine Gx.val rfl rfl rfl (val_pickT rfl rfl rfl) ?_
      refine Gx.done ?_
      refine Gx.thenN ?_
      refine Gx.t rfl ?_
      refine Gx.seq ?_
      refine Gx.region ?_
      refine Gx.val rfl rfl rfl (val_assign rfl rfl) ?_
      refine Gx.done ?_
      refine Gx.thenN ?_
      refine Gx.ret ?_
      refine Gx.thenR ?_
      exfalso; omega
    · refine Gx.valg rfl rfl rfl rfl rfl (Val.cast (val_fieldAddr rfl Try.underlying27 rfl Try.ty24 rfl rfl) (v' := ptr b24 0) rfl) ?_
      refine Gx.valg rfl rfl rfl rfl rfl (val_load rfl Try.ty24 rfl rfl (cell_rec (k := 0) rfl rfl)) ?_
      refine Gx.valg rfl rfl rfl rfl rfl (val_len rfl Try.underlying24 rfl (len_base hcv1)) ?_
      refine Gx.valg rfl rfl rfl rfl rfl (val_move rfl rfl) ?_
      refine Gx.valg rfl rfl rfl rfl rfl (val_len rfl Try.underlying23 rfl (len_base hs11)) ?_
      refine Gx.valg rfl rfl rfl rfl rfl (val_neq rfl rfl rfl) ?_
      refine Gx.val rfl rfl rfl (val_pickF rfl rfl rfl) ?_
      refine Gx.done ?_
      refine Gx.thenN ?_
      refine Gx.decF rfl (by omega) ?_
      refine Gx.skip ?_
      refine Gx.thenN ?_
      refine Gx.seq ?_
      refine Gx.region ?_
      refine Gx.val rfl rfl rfl (val_assign rfl rfl) ?_
      refine Gx.done ?_
      refine Gx.thenN ?_
      refine Gx.seq ?_
      refine Gx.region ?_
      refine Gx.val rfl rfl rfl (val_assign rfl rfl) ?_
      refine Gx.done ?_
      refine Gx.thenN ?_
      refine Gx.seq ?_
      refine Gx.region ?_
      refine Gx.val rfl rfl rfl (val_assign rfl rfl) ?_
      refine Gx.done ?_
      refine Gx.thenN ?_
      refine Gx.seq ?_
      refine Gx.seq ?_
      refine Gx.region ?_
      refine Gx.val rfl rfl rfl (val_assign rfl rfl) ?_
      refine Gx.done ?_
      refine Gx.thenN ?_
      refine Gx.block ?_
      refine Gx.loop (ι := Nat) (fun ξ => (ξ ≤ money.length)) (fun ξ => [(0, mv), (5, ptr b24 0), (7, .int .i64 ((money.length : Nat) : Int)), (8, .int .i64 (lsum (money.take ξ))), (9, .int .i64 (lsum (((stS (ss0 money) cs).ps.map Pr.ow).take ξ))), (10, .int .i64 (lsum (((stS (ss0 money) cs).ps.map Pr.mo).take ξ))), (11, .int .i64 ((ξ : Nat) : Int))]) (fun ξ => [Hp.rec_ b24 [.slice sa12 sn13 sc14, .slice sa15 sn16 sc17, .slice sa18 sn19 sc20, .slice sa21 sn22 sc23, .bool dm5]]) (fun ξ => money.length - ξ) 0 (by first | omega | (dsimp only; omega)) ((.cons rfl (.cons rfl (.cons rfl (.cons rfl (.cons rfl (.cons rfl (.cons rfl .nil)))))))) rfl ?_
      rintro i hi
      refine Gx.know (m' := [(0, mv), (5, ptr b24 0), (7, .int .i64 ((money.length : Nat) : Int)), (8, .int .i64 (lsum (money.take i))), (9, .int .i64 (lsum (((stS (ss0 money) cs).ps.map Pr.ow).take i))), (10, .int .i64 (lsum (((stS (ss0 money) cs).ps.map Pr.mo).take i))), (11, .int .i64 ((i : Nat) : Int))]) (.cons rfl (.cons rfl (.cons rfl (.cons rfl (.cons rfl (.cons rfl (.cons rfl .nil))))))) (Gx.norm (l' := [Hp.rec_ b24 [.slice sa12 sn13 sc14, .slice sa15 sn16 sc17, .slice sa18 sn19 sc20, .slice sa21 sn22 sc23, .bool dm5]]) rfl ?_)
      have hb1 := take_bd hmb hi
      have hb2 := take_bd hob (show i ≤ ((stS (ss0 money) cs).ps.map Pr.ow).length by omega)
      have hb3 := take_bd hxb (show i ≤ ((stS (ss0 money) cs).ps.map Pr.mo).length by omega)
      refine Gx.seq ?_
      refine Gx.seq ?_
      refine Gx.region ?_
      refine Gx.val rfl rfl rfl (val_move rfl rfl) ?_
      refine Gx.val rfl rfl rfl (val_move rfl rfl) ?_
      refine Gx.val rfl rfl rfl (val_lss rfl rfl rfl) ?_
      refine Gx.done ?_
      refine Gx.thenN ?_
      refine Gx.dec rfl (fun h27 => ?_) (fun h27 => ?_)
      · refine Gx.skip ?_
        refine Gx.thenN ?_
        refine Gx.seq ?_
        refine Gx.block ?_
        refine Gx.seq ?_
        refine Gx.region ?_
        refine Gx.val rfl rfl rfl (val_move rfl rfl) ?_
        refine Gx.val rfl rfl rfl (val_move rfl rfl) ?_
        refine Gx.val rfl rfl rfl (val_move rfl rfl) ?_
        obtain ⟨x28, hx28⟩ := get_of_lt (xs := money) (k := i) (by omega)
        refine Gx.val rfl rfl rfl (val_ixa rfl Try.underlying22 Try.ty3 rfl rfl (j := i) (rfl) (reach_base hs10 hx28)) ?_
        refine Gx.val rfl rfl rfl (val_load rfl Try.ty3 rfl rfl (cell_base (i := 0) hs10 hx28 rfl)) ?_
        refine Gx.val rfl rfl rfl (val_add rfl rfl rfl (r := ((lsum (money.take i)) + x28)) (w64 rfl (by have := hmb _ (List.mem_of_getElem? hx28); omega))) ?_
        refine Gx.val rfl rfl rfl (val_assign rfl rfl) ?_
        refine Gx.done ?_
        refine Gx.thenN ?_
        refine Gx.seq ?_
        refine Gx.region ?_
        refine Gx.val rfl rfl rfl (val_move rfl rfl) ?_
        refine Gx.val rfl rfl rfl (Val.cast (val_fieldAddr rfl Try.underlying27 rfl Try.ty22 rfl rfl) (v' := ptr b24 2) rfl) ?_
        refine Gx.val rfl rfl rfl (val_load rfl Try.ty22 rfl rfl (cell_rec (k := 0) rfl rfl)) ?_
        refine Gx.val rfl rfl rfl (val_move rfl rfl) ?_
        obtain ⟨x29, hx29⟩ := get_of_lt (xs := ((stS (ss0 money) cs).ps.map Pr.ow)) (k := i) (by omega)
        refine Gx.val rfl rfl rfl (val_ixa rfl Try.underlying22 Try.ty3 rfl rfl (j := i) (rfl) (reach_base huv3 hx29)) ?_
        refine Gx.val rfl rfl rfl (val_load rfl Try.ty3 rfl rfl (cell_base (i := 0) huv3 hx29 rfl)) ?_
        refine Gx.val rfl rfl rfl (val_add rfl rfl rfl (r := ((lsum (((stS (ss0 money) cs).ps.map Pr.ow).take i)) + x29)) (w64 rfl (by have := hob _ (List.mem_of_getElem? hx29); omega))) ?_
        refine Gx.val rfl rfl rfl (val_assign rfl rfl) ?_
        refine Gx.done ?_
        refine Gx.thenN ?_
        refine Gx.seq ?_
        refine Gx.region ?_
        refine Gx.val rfl rfl rfl (val_move rfl rfl) ?_
        refine Gx.val rfl rfl rfl (Val.cast (val_fieldAddr rfl Try.underlying27 rfl Try.ty22 rfl rfl) (v' := ptr b24 1) rfl) ?_
        refine Gx.val rfl rfl rfl (val_load rfl Try.ty22 rfl rfl (cell_rec (k := 0) rfl rfl)) ?_
        refine Gx.val rfl rfl rfl (val_move rfl rfl) ?_
        obtain ⟨x30, hx30⟩ := get_of_lt (xs := ((stS (ss0 money) cs).ps.map Pr.mo)) (k := i) (by omega)
        refine Gx.val rfl rfl rfl (val_ixa rfl Try.underlying22 Try.ty3 rfl rfl (j := i) (rfl) (reach_base hwv2 hx30)) ?_
        refine Gx.val rfl rfl rfl (val_load rfl Try.ty3 rfl rfl (cell_base (i := 0) hwv2 hx30 rfl)) ?_
        refine Gx.val rfl rfl rfl (val_add rfl rfl rfl (r := ((lsum (((stS (ss0 money) cs).ps.map Pr.mo).take i)) + x30)) (w64 rfl (by have := hxb _ (List.mem_of_getElem? hx30); omega))) ?_
        refine Gx.val rfl rfl rfl (val_assign rfl rfl) ?_
        refine Gx.done ?_
        refine Gx.thenN ?_
        refine Gx.seq ?_
        refine Gx.slot (t := 8) (v := .int .i64 (lsum (money.take (i + 1)))) (by rw [lsum_snoc hx28] <;> rfl) ?_
        refine Gx.slot (t := 9) (v := .int .i64 (lsum (((stS (ss0 money) cs).ps.map Pr.ow).take (i + 1)))) (by rw [lsum_snoc hx29] <;> rfl) ?_
        refine Gx.slot (t := 10) (v := .int .i64 (lsum (((stS (ss0 money) cs).ps.map Pr.mo).take (i + 1)))) (by rw [lsum_snoc hx30] <;> rfl) ?_
        refine Gx.region ?_
        refine Gx.val rfl rfl rfl (Val.cast (val_fieldAddr rfl Try.underlying27 rfl Try.ty22 rfl rfl) (v' := ptr b24 1) rfl) ?_
        refine Gx.val rfl rfl rfl (val_load rfl Try.ty22 rfl rfl (cell_rec (k := 0) rfl rfl)) ?_
        refine Gx.val rfl rfl rfl (val_move rfl rfl) ?_
        refine Gx.val rfl rfl rfl (val_ixa rfl Try.underlying22 Try.ty3 rfl rfl (j := i) (rfl) (reach_base hwv2 hx30)) ?_
        refine Gx.val rfl rfl rfl (val_load rfl Try.ty3 rfl rfl (cell_base (i := 0) hwv2 hx30 rfl)) ?_
        refine Gx.val rfl rfl rfl (val_lss rfl rfl rfl) ?_
        refine Gx.val rfl rfl rfl (val_move rfl rfl) ?_
        refine Gx.slot (t := 90) (v := .bool false) (look_decF rfl (by have := hmo _ (List.mem_of_getElem? hx30); omega)) ?_
        refine Gx.valg rfl rfl rfl rfl rfl (Val.cast (val_fieldAddr rfl Try.underlying27 rfl Try.ty4 rfl rfl) (v' := ptr b24 4) rfl) ?_
        refine Gx.valg rfl rfl rfl rfl rfl (val_load rfl Try.ty4 rfl rfl (cell_rec (k := 0) rfl rfl)) ?_
        refine Gx.valg rfl rfl rfl rfl rfl (val_move rfl rfl) ?_
        refine Gx.casesB (t := 93) rfl (fun h31 => ?_) (fun h31 => ?_)
        · refine Gx.valg rfl rfl rfl rfl rfl (Val.cast (val_fieldAddr rfl Try.underlying27 rfl Try.ty22 rfl rfl) (v' := ptr b24 2) rfl) ?_
          refine Gx.valg rfl rfl rfl rfl rfl (val_load rfl Try.ty22 rfl rfl (cell_rec (k := 0) rfl rfl)) ?_
          refine Gx.valg rfl rfl rfl rfl rfl (val_move rfl rfl) ?_
          refine Gx.valg rfl rfl rfl rfl rfl (val_ixa rfl Try.underlying22 Try.ty3 rfl rfl (j := i) (rfl) (reach_base huv3 hx29)) ?_
          refine Gx.valg rfl rfl rfl rfl rfl (val_load rfl Try.ty3 rfl rfl (cell_base (i := 0) huv3 hx29 rfl)) ?_
          refine Gx.valg rfl rfl rfl rfl rfl (val_lss rfl rfl rfl) ?_
          refine Gx.valg rfl rfl rfl rfl rfl (val_pickT rfl rfl rfl) ?_
          refine Gx.val rfl rfl rfl (val_pickF rfl rfl rfl) ?_
          refine Gx.done ?_
          refine Gx.thenN ?_
          refine Gx.decF rfl (by have := howd (hddm5.1 (by assumption)) _ (List.mem_of_getElem? hx29); omega) ?_
          refine Gx.skip ?_
          refine Gx.blkN ?_
          refine Gx.thenN ?_
          refine Gx.region ?_
          refine Gx.val rfl rfl rfl (val_move rfl rfl) ?_
          refine Gx.val rfl rfl rfl (val_add rfl rfl rfl (r := ((i + 1 : Nat) : Int)) (w64 (by omega) (by omega))) ?_
          refine Gx.val rfl rfl rfl (val_assign rfl rfl) ?_
          refine Gx.done ?_
          refine Gx.thenN ?_
          exact Gx.round (i + 1) (by first | omega | (dsimp only; omega)) (by first | omega | (dsimp only; omega)) ((.cons rfl (.cons rfl (.cons rfl (.cons rfl (.cons rfl (.cons rfl (.cons rfl .nil)))))))) rfl
        · refine Gx.skipg rfl rfl rfl rfl rfl rfl ?_
          refine Gx.skipg rfl rfl rfl rfl rfl rfl ?_
          refine Gx.skipg rfl rfl rfl rfl rfl rfl ?_
          refine Gx.skipg rfl rfl rfl rfl rfl rfl ?_
          refine Gx.skipg rfl rfl rfl rfl rfl rfl ?_
          refine Gx.skipg rfl rfl rfl rfl rfl rfl ?_
          refine Gx.valg rfl rfl rfl rfl rfl (val_pickF rfl rfl rfl) ?_
          refine Gx.val rfl rfl rfl (val_pickF rfl rfl rfl) ?_
          refine Gx.done ?_
          refine Gx.thenN ?_
          refine Gx.f rfl ?_
          refine Gx.skip ?_
          refine Gx.blkN ?_
          refine Gx.thenN ?_
          refine Gx.region ?_
          refine Gx.val rfl rfl rfl (val_move rfl rfl) ?_
          refine Gx.val rfl rfl rfl (val_add rfl rfl rfl (r := ((i + 1 : Nat) : Int)) (w64 (by omega) (by omega))) ?_
          refine Gx.val rfl rfl rfl (val_assign rfl rfl) ?_
          refine Gx.done ?_
          refine Gx.thenN ?_
          exact Gx.round (i + 1) (by first | omega | (dsimp only; omega)) (by first | omega | (dsimp only; omega)) ((.cons rfl (.cons rfl (.cons rfl (.cons rfl (.cons rfl (.cons rfl (.cons rfl .nil)))))))) rfl
      · refine Gx.exit ?_
        refine Gx.thenE ?_
        refine Gx.thenE ?_
        refine Gx.blkE ?_
        refine Gx.thenN ?_
        refine Gx.seq ?_
        refine Gx.seq ?_
        have ei : i = money.length := by omega
        subst ei
        refine Gx.slot (t := 8) (v := .int .i64 (lsum money)) (by rw [List.take_of_length_le (show (money).length ≤ money.length by omega)] <;> rfl) ?_
        refine Gx.slot (t := 9) (v := .int .i64 (lsum ((stS (ss0 money) cs).ps.map Pr.ow))) (by rw [List.take_of_length_le (show (((stS (ss0 money) cs).ps.map Pr.ow)).length ≤ money.length by omega)] <;> rfl) ?_
        refine Gx.slot (t := 10) (v := .int .i64 (lsum ((stS (ss0 money) cs).ps.map Pr.mo))) (by rw [List.take_of_length_le (show (((stS (ss0 money) cs).ps.map Pr.mo)).length ≤ money.length by omega)] <;> rfl) ?_
        refine Gx.slot (t := 9) (v := .int .i64 (lsum ((stS (ss0 money) cs).ps.map Pr.ow) + nsum (stS (ss0 money) cs) money.length 0)) (by show some (Value.int .i64 _) = some (Value.int .i64 (_ + 0)); rw [Int.add_zero] <;> rfl) ?_
        refine Gx.region ?_
        refine Gx.val rfl rfl rfl (Val.cast (val_fieldAddr rfl Try.underlying27 rfl Try.ty25 rfl rfl) (v' := ptr b24 3) rfl) ?_
        refine Gx.val rfl rfl rfl (val_load rfl Try.ty25 rfl rfl (cell_rec (k := 0) rfl rfl)) ?_
        refine Gx.val rfl rfl rfl (val_len rfl Try.underlying25 rfl (len_base hbv4)) ?_
        refine Gx.val rfl rfl rfl (val_move rfl rfl) ?_
        refine Gx.done ?_
        refine Gx.thenN ?_
        refine Gx.block ?_
        refine Gx.loop (ι := Nat) (fun ξ => (ξ ≤ vals6.length)) (fun ξ => [(5, ptr b24 0), (8, .int .i64 (lsum money)), (10, .int .i64 (lsum ((stS (ss0 money) cs).ps.map Pr.mo))), (9, .int .i64 (lsum ((stS (ss0 money) cs).ps.map Pr.ow) + nsum (stS (ss0 money) cs) money.length ξ)), (103, .slice sa21 sn22 sc23), (104, .int .i64 ((vals6.length : Nat) : Int)), (105, .int .i64 ((ξ : Nat) : Int))]) (fun ξ => [Hp.rec_ b24 [.slice sa12 sn13 sc14, .slice sa15 sn16 sc17, .slice sa18 sn19 sc20, .slice sa21 sn22 sc23, .bool dm5]]) (fun ξ => vals6.length - ξ) 0 (by first | omega | (dsimp only; omega)) ((.cons rfl (.cons rfl (.cons rfl (.cons rfl (.cons rfl (.cons rfl (.cons rfl .nil)))))))) rfl ?_
        rintro q hq
        refine Gx.know (m' := [(5, ptr b24 0), (8, .int .i64 (lsum money)), (10, .int .i64 (lsum ((stS (ss0 money) cs).ps.map Pr.mo))), (9, .int .i64 (lsum ((stS (ss0 money) cs).ps.map Pr.ow) + nsum (stS (ss0 money) cs) money.length q)), (103, .slice sa21 sn22 sc23), (104, .int .i64 ((vals6.length : Nat) : Int)), (105, .int .i64 ((q : Nat) : Int))]) (.cons rfl (.cons rfl (.cons rfl (.cons rfl (.cons rfl (.cons rfl (.cons rfl .nil))))))) (Gx.norm (l' := [Hp.rec_ b24 [.slice sa12 sn13 sc14, .slice sa15 sn16 sc17, .slice sa18 sn19 sc20, .slice sa21 sn22 sc23, .bool dm5]]) rfl ?_)
        have hn1 := nsum_bd hN bd hM6 q
        obtain ⟨hn2, hn3⟩ := nts_bd hN bd hM6 q
        refine Gx.seq ?_
        refine Gx.region ?_
        refine Gx.val rfl rfl rfl (val_lss rfl rfl rfl) ?_
        refine Gx.done ?_
        refine Gx.thenN ?_
        refine Gx.seq ?_
        refine Gx.dec rfl (fun h32 => ?_) (fun h32 => ?_)
        · refine Gx.skip ?_
          refine Gx.thenN ?_
          refine Gx.seq ?_
          refine Gx.block ?_
          refine Gx.seq ?_
          refine Gx.region ?_
          obtain ⟨x33, hx33⟩ := get_of_lt (xs := vals6) (k := q) (by omega)
          refine Gx.val rfl rfl rfl (val_ixa rfl Try.underlying25 Try.ty22 rfl rfl (j := q) (rfl) (reach_base hbv4 hx33)) ?_
          refine Gx.val rfl rfl rfl (val_load rfl Try.ty22 rfl rfl (cell_base (i := 0) hbv4 hx33 rfl)) ?_
          refine Gx.val rfl rfl rfl (val_assign rfl rfl) ?_
          refine Gx.done ?_
          refine Gx.thenN ?_
          refine Gx.seq ?_
          have hrw9 := hrbv4 q x33 hx33
          have hrl := sls_bd hrw9
          refine Gx.region ?_
          refine Gx.val rfl rfl rfl (val_move rfl rfl) ?_
          refine Gx.val rfl rfl rfl (val_len rfl Try.underlying22 rfl (len_base hrw9)) ?_
          refine Gx.slot (t := 9) (v := .int .i64 (lsum ((stS (ss0 money) cs).ps.map Pr.ow) + nsum (stS (ss0 money) cs) money.length q + lsum ((nts (stS (ss0 money) cs) money.length q).take 0))) (by show some (Value.int .i64 _) = some (Value.int .i64 (_ + 0)); rw [Int.add_zero] <;> rfl) ?_
          refine Gx.val rfl rfl rfl (val_move rfl rfl) ?_
          refine Gx.done ?_
          refine Gx.thenN ?_
          refine Gx.block ?_
          refine Gx.loop (ι := Nat) (fun ξ => (ξ ≤ (nts (stS (ss0 money) cs) money.length q).length)) (fun ξ => [(5, ptr b24 0), (8, .int .i64 (lsum money)), (10, .int .i64 (lsum ((stS (ss0 money) cs).ps.map Pr.mo))), (103, .slice sa21 sn22 sc23), (104, .int .i64 ((vals6.length : Nat) : Int)), (105, .int .i64 ((q : Nat) : Int)), (109, .slice x33.a x33.n x33.c), (110, .int .i64 (((nts (stS (ss0 money) cs) money.length q).length : Nat) : Int)), (9, .int .i64 (lsum ((stS (ss0 money) cs).ps.map Pr.ow) + nsum (stS (ss0 money) cs) money.length q + lsum ((nts (stS (ss0 money) cs) money.length q).take ξ))), (111, .int .i64 ((ξ : Nat) : Int))]) (fun ξ => [Hp.rec_ b24 [.slice sa12 sn13 sc14, .slice sa15 sn16 sc17, .slice sa18 sn19 sc20, .slice sa21 sn22 sc23, .bool dm5]]) (fun ξ => (nts (stS (ss0 money) cs) money.length q).length - ξ) 0 (by first | omega | (dsimp only; omega)) ((.cons rfl (.cons rfl (.cons rfl (.cons rfl (.cons rfl (.cons rfl (.cons rfl (.cons rfl (.cons rfl (.cons rfl .nil))))))))))) rfl ?_
          rintro t ht
          refine Gx.know (m' := [(5, ptr b24 0), (8, .int .i64 (lsum money)), (10, .int .i64 (lsum ((stS (ss0 money) cs).ps.map Pr.mo))), (103, .slice sa21 sn22 sc23), (104, .int .i64 ((vals6.length : Nat) : Int)), (105, .int .i64 ((q : Nat) : Int)), (109, .slice x33.a x33.n x33.c), (110, .int .i64 (((nts (stS (ss0 money) cs) money.length q).length : Nat) : Int)), (9, .int .i64 (lsum ((stS (ss0 money) cs).ps.map Pr.ow) + nsum (stS (ss0 money) cs) money.length q + lsum ((nts (stS (ss0 money) cs) money.length q).take t))), (111, .int .i64 ((t : Nat) : Int))]) (.cons rfl (.cons rfl (.cons rfl (.cons rfl (.cons rfl (.cons rfl (.cons rfl (.cons rfl (.cons rfl (.cons rfl .nil)))))))))) (Gx.norm (l' := [Hp.rec_ b24 [.slice sa12 sn13 sc14, .slice sa15 sn16 sc17, .slice sa18 sn19 sc20, .slice sa21 sn22 sc23, .bool dm5]]) rfl ?_)
          have hn4 := take_bd hn2 ht
          refine Gx.seq ?_
          refine Gx.region ?_
          refine Gx.val rfl rfl rfl (val_lss rfl rfl rfl) ?_
          refine Gx.done ?_
          refine Gx.thenN ?_
          refine Gx.seq ?_
          refine Gx.dec rfl (fun h34 => ?_) (fun h34 => ?_)
          · refine Gx.skip ?_
            refine Gx.thenN ?_
            refine Gx.seq ?_
            refine Gx.block ?_
            refine Gx.seq ?_
            refine Gx.region ?_
            obtain ⟨x35, hx35⟩ := get_of_lt (xs := (nts (stS (ss0 money) cs) money.length q)) (k := t) (by omega)
            refine Gx.val rfl rfl rfl (val_ixa rfl Try.underlying22 Try.ty3 rfl rfl (j := t) (rfl) (reach_base hrw9 hx35)) ?_
            refine Gx.val rfl rfl rfl (val_load rfl Try.ty3 rfl rfl (cell_base (i := 0) hrw9 hx35 rfl)) ?_
            refine Gx.val rfl rfl rfl (val_assign rfl rfl) ?_
            refine Gx.done ?_
            refine Gx.thenN ?_
            refine Gx.region ?_
            refine Gx.val rfl rfl rfl (val_move rfl rfl) ?_
            refine Gx.val rfl rfl rfl (val_move rfl rfl) ?_
            refine Gx.val rfl rfl rfl (val_add rfl rfl rfl (r := ((lsum ((stS (ss0 money) cs).ps.map Pr.ow) + nsum (stS (ss0 money) cs) money.length q + lsum ((nts (stS (ss0 money) cs) money.length q).take t)) + x35)) (w64 rfl (by have := hn2 _ (List.mem_of_getElem? hx35); omega))) ?_
            refine Gx.val rfl rfl rfl (val_assign rfl rfl) ?_
            refine Gx.done ?_
            refine Gx.blkN ?_
            refine Gx.thenN ?_
            refine Gx.slot (t := 9) (v := .int .i64 (lsum ((stS (ss0 money) cs).ps.map Pr.ow) + nsum (stS (ss0 money) cs) money.length q + lsum ((nts (stS (ss0 money) cs) money.length q).take (t + 1)))) (by rw [lsum_snoc hx35, ← Int.add_assoc] <;> rfl) ?_
            refine Gx.region ?_
            refine Gx.val rfl rfl rfl (val_add rfl rfl rfl (r := ((t + 1 : Nat) : Int)) (w64 (by omega) (by omega))) ?_
            refine Gx.val rfl rfl rfl (val_move rfl rfl) ?_
            refine Gx.done ?_
            refine Gx.thenN ?_
            exact Gx.round (t + 1) (by first | omega | (dsimp only; omega)) (by first | omega | (dsimp only; omega)) ((.cons rfl (.cons rfl (.cons rfl (.cons rfl (.cons rfl (.cons rfl (.cons rfl (.cons rfl (.cons rfl (.cons rfl .nil))))))))))) rfl
          · refine Gx.exit ?_
            refine Gx.thenE ?_
            refine Gx.thenE ?_
            refine Gx.blkE ?_
            refine Gx.blkN ?_
            refine Gx.thenN ?_
            have et : t = (nts (stS (ss0 money) cs) money.length q).length := by omega
            refine Gx.slot (t := 9) (v := .int .i64 (lsum ((stS (ss0 money) cs).ps.map Pr.ow) + nsum (stS (ss0 money) cs) money.length (q + 1))) (by rw [et, List.take_length] <;> show some (Value.int .i64 (lsum ((stS (ss0 money) cs).ps.map Pr.ow) + nsum (stS (ss0 money) cs) money.length q + _)) = some (Value.int .i64 (lsum ((stS (ss0 money) cs).ps.map Pr.ow) + (nsum (stS (ss0 money) cs) money.length q + _))); rw [Int.add_assoc] <;> rfl) ?_
            refine Gx.region ?_
            refine Gx.val rfl rfl rfl (val_add rfl rfl rfl (r := ((q + 1 : Nat) : Int)) (w64 (by omega) (by omega))) ?_
            refine Gx.val rfl rfl rfl (val_move rfl rfl) ?_
            refine Gx.done ?_
            refine Gx.thenN ?_
            exact Gx.round (q + 1) (by first | omega | (dsimp only; omega)) (by first | omega | (dsimp only; omega)) ((.cons rfl (.cons rfl (.cons rfl (.cons rfl (.cons rfl (.cons rfl (.cons rfl .nil)))))))) rfl
        · refine Gx.exit ?_
          refine Gx.thenE ?_
          refine Gx.thenE ?_
          refine Gx.blkE ?_
          refine Gx.thenN ?_
          refine Gx.seq ?_
          refine Gx.region ?_
          refine Gx.val rfl rfl rfl (val_move rfl rfl) ?_
          refine Gx.val rfl rfl rfl (val_move rfl rfl) ?_
          refine Gx.val rfl rfl rfl (val_leq rfl rfl rfl) ?_
          refine Gx.val rfl rfl rfl (val_move rfl rfl) ?_
          refine Gx.slot (t := 123) (v := .bool true) (look_decT rfl (by omega)) ?_
          refine Gx.valg rfl rfl rfl rfl rfl (Val.cast (val_fieldAddr rfl Try.underlying27 rfl Try.ty4 rfl rfl) (v' := ptr b24 4) rfl) ?_
          refine Gx.valg rfl rfl rfl rfl rfl (val_load rfl Try.ty4 rfl rfl (cell_rec (k := 0) rfl rfl)) ?_
          refine Gx.valg rfl rfl rfl rfl rfl (val_not rfl rfl) ?_
          refine Gx.valg rfl rfl rfl rfl rfl (val_move rfl rfl) ?_
          refine Gx.casesB (t := 127) rfl (fun h36 => ?_) (fun h36 => ?_)
          · refine Gx.skipg rfl rfl rfl rfl rfl rfl ?_
            refine Gx.skipg rfl rfl rfl rfl rfl rfl ?_
            refine Gx.skipg rfl rfl rfl rfl rfl rfl ?_
            refine Gx.valg rfl rfl rfl rfl rfl (val_pickT rfl rfl rfl) ?_
            refine Gx.val rfl rfl rfl (val_pickT rfl rfl rfl) ?_
            refine Gx.val rfl rfl rfl (val_assign rfl rfl) ?_
            refine Gx.done ?_
            refine Gx.thenN ?_
            refine Gx.ret ?_
            refine Gx.ret1B hW9 Try.results3 rfl ?_
            rfl
          · refine Gx.valg rfl rfl rfl rfl rfl (val_move rfl rfl) ?_
            refine Gx.valg rfl rfl rfl rfl rfl (val_move rfl rfl) ?_
            refine Gx.valg rfl rfl rfl rfl rfl (val_eql rfl rfl rfl) ?_
            refine Gx.valg rfl rfl rfl rfl rfl (val_pickF rfl rfl rfl) ?_
            refine Gx.val rfl rfl rfl (val_pickT rfl rfl rfl) ?_
            refine Gx.val rfl rfl rfl (val_assign rfl rfl) ?_
            refine Gx.done ?_
            refine Gx.thenN ?_
            refine Gx.ret ?_
            refine Gx.ret1B hW9 Try.results3 rfl ?_
            exact congrArg Value.bool (decide_eq_true (hall (hddm5.1 (by simp_all)) _ (by omega)))

theorem keeps_any {W : World} {mv sv : Value} {money : List Int} {cs : List Mv} (hm : SlS FI 1 W mv money) (hs : SlS FM 4 W sv cs) :
    Calls Try.prog 3 #[mv, sv] W fun e w' => e = .returned (.bool true) ∧ Below W.heap.size W w' := by
  by_cases h : money.length = 0 ∨ 6 < money.length ∨ 120 < cs.length
  · exact keeps_no1 hm hs h
  · by_cases h2 : 0 ≤ firstB money
    · exact keeps_no2 hm hs h h2
    · exact keeps_yes hm hs (by omega) (by omega) (by omega) h2
end Go.Proofs.Ytanipkddfngnnaa
