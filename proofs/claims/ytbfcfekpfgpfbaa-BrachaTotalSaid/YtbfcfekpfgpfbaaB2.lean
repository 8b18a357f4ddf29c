/- All who hold something true hold the same. The walk. No condition. -/
import Derived.Test.YtbfcfekpfgpfbaaM3
import Derived.Test.YtbfcfekpfgpfbaaB1
namespace Go.Proofs.Ytbfcfekpfgpfbaa
open Go.RowKit
set_option linter.unusedVariables false
set_option linter.unusedSimpArgs false
set_option maxRecDepth 100000

theorem few_c {L : Nat} {n f : Nat} {w : World} (hx : L < 4294967296) (hn : n ≤ 7) : Calls Try.prog 8 #[.int .u32 ((L : Nat) : Int), .int .i64 ((n : Nat) : Int), .int .i64 ((f : Nat) : Int)] w fun e w' => e = .returned (.bool (fewF L (n : Int) (f : Int))) ∧ Below w.heap.size w w' :=
  (fewb_any L n f w hx (by omega) (by omega)).mono fun e w' ⟨h, e2⟩ => by subst e2; exact ⟨h, Below.refl ..⟩
theorem bit_c {L : Nat} {i : Nat} {w : World} (hx : L < 4294967296) (hi : i < 32) : Calls Try.prog 9 #[.int .u32 ((L : Nat) : Int), .int .i64 ((i : Nat) : Int)] w fun e w' => e = .returned (.bool (L.testBit i)) ∧ Below w.heap.size w w' :=
  (bit_any L i w hx).mono fun e w' ⟨h, e2⟩ => by subst e2; rw [bitF_nat hi] at h; exact ⟨h, Below.refl ..⟩
theorem agrees_bad {W : World} {k f d : Int} {L : Nat} {sv : Value} {cs : List Mv} (hs : SlS FM 6 W sv cs) (hbad : ¬ Valid k f L d cs) :
    Calls Try.prog 3 #[.int .i64 k, .int .i64 f, .int .u32 ((L : Nat) : Int), .int .i64 d, sv] W fun e w' => e = .returned (.bool true) ∧ Below W.heap.size W w' := by
  refine calls_pure (Gx.enter (l := []) Try.func3 rfl Try.ntmps3 rfl (Sat.start W) ?_)
  refine Gx.know (m' := [(0, .int .i64 k), (1, .int .i64 f), (2, .int .u32 ((L : Nat) : Int)), (3, .int .i64 d), (4, sv)]) (.cons rfl (.cons rfl (.cons rfl (.cons rfl (.cons rfl .nil))))) ?_
  refine Gx.seq ?_
  refine Gx.region ?_
  refine Gx.val rfl rfl rfl (val_assign rfl rfl) ?_
  refine Gx.done ?_
  refine Gx.thenN ?_
  refine Gx.seq ?_
  refine Gx.region ?_
  refine Gx.val rfl rfl rfl (val_move rfl rfl) ?_
  refine Gx.val rfl rfl rfl (val_move rfl rfl) ?_
  refine Gx.val rfl rfl rfl (val_move rfl rfl) ?_
  refine Gx.val rfl rfl rfl (val_move rfl rfl) ?_
  refine Gx.val rfl rfl rfl (val_move rfl rfl) ?_
  refine Gx.eff rfl rfl rfl (eff_callE (vs := [.int .i64 k, .int .i64 f, .int .u32 ((L : Nat) : Int), .int .i64 d, sv]) rfl Try.fn7 rfl (R := fun v => ∃ z : Int, z ≠ 0 ∧ v = .tuple #[.agg #[.slice none 0 0, .slice none 0 0, .slice none 0 0, .int .i64 0, .int .i64 0], .int .i64 z]) (fun w H => play_bad (hs.below H.below) hbad)) ?_
  rintro _ _ ⟨⟨zz1, hzz2, rfl⟩, rfl⟩
  refine Gx.val rfl rfl rfl (val_move rfl rfl) ?_
  refine Gx.val rfl rfl rfl (val_extract rfl rfl rfl) ?_
  refine Gx.val rfl rfl rfl (val_extract rfl rfl rfl) ?_
  refine Gx.eff rfl rfl rfl (eff_alloc rfl Try.ty28 (vs := [.slice none 0 0, .slice none 0 0, .slice none 0 0, .int .i64 0, .int .i64 0]) rfl) ?_
  rintro _ _ ⟨b3, rfl, rfl⟩
  refine Gx.eff0 rfl rfl (eff_store rfl Try.ty28 rfl rfl (us := [.slice none 0 0, .slice none 0 0, .slice none 0 0, .int .i64 0, .int .i64 0]) rfl rfl rfl (k := 0) rfl (rfl) (vs' := [.slice none 0 0, .slice none 0 0, .slice none 0 0, .int .i64 0, .int .i64 0]) (rfl) (l' := [Hp.rec_ b3 [.slice none 0 0, .slice none 0 0, .slice none 0 0, .int .i64 0, .int .i64 0]]) rfl) ?_
  rintro _ _ rfl
  refine Gx.val rfl rfl rfl (val_assign rfl rfl) ?_
  refine Gx.done ?_
  refine Gx.thenN ?_
  refine Gx.seq ?_
  refine Gx.seq ?_
  refine Gx.region ?_
  refine Gx.val rfl rfl rfl (val_move rfl rfl) ?_
  refine Gx.val rfl rfl rfl (val_neq rfl rfl rfl) ?_
  refine Gx.done ?_
  refine Gx.thenN ?_
  refine Gx.decT rfl (by omega) ?_
  refine Gx.seq ?_
  refine Gx.region ?_
  refine Gx.val rfl rfl rfl (Val.cast (val_fieldAddr rfl Try.underlying28 rfl Try.ty24 rfl rfl) (v' := ptr b3 0) rfl) ?_
  refine Gx.val rfl rfl rfl (val_load rfl Try.ty24 rfl rfl (cell_rec (k := 0) rfl rfl)) ?_
  refine Gx.val rfl rfl rfl (val_len rfl Try.underlying24 rfl len_lit) ?_
  refine Gx.val rfl rfl rfl (Val.cast (val_eql rfl rfl rfl) (v' := .bool true) rfl) ?_
  refine Gx.val rfl rfl rfl (val_assign rfl rfl) ?_
  refine Gx.done ?_
  refine Gx.thenN ?_
  refine Gx.ret ?_
  refine Gx.thenR ?_
  refine Gx.ret1 Try.results3 rfl ?_
  rfl

theorem agrees_yes {W : World} {c : Cf} {sv : Value} {cs : List Mv} (hs : SlS FM 6 W sv cs) (h1n : 1 ≤ c.n) (h7n : c.n ≤ 7) (hcl : cs.length ≤ 120) (hf : c.f ≤ (c.n - 1) / 3) (hLn : c.L >>> c.n = 0) (hL : c.L < 4294967296) (hsn : c.snd < c.n) :
    Calls Try.prog 3 #[.int .i64 ((c.n : Nat) : Int), .int .i64 ((c.f : Nat) : Int), .int .u32 ((c.L : Nat) : Int), .int .i64 ((c.snd : Nat) : Int), sv] W fun e w' => e = .returned (.bool true) ∧ Below W.heap.size W w' := by
  refine calls_pure (Gx.enter (l := []) Try.func3 rfl Try.ntmps3 rfl (Sat.start W) ?_)
  refine Gx.know (m' := [(0, .int .i64 ((c.n : Nat) : Int)), (1, .int .i64 ((c.f : Nat) : Int)), (2, .int .u32 ((c.L : Nat) : Int)), (3, .int .i64 ((c.snd : Nat) : Int)), (4, sv)]) (.cons rfl (.cons rfl (.cons rfl (.cons rfl (.cons rfl .nil))))) ?_
  refine Gx.seq ?_
  refine Gx.region ?_
  refine Gx.val rfl rfl rfl (val_assign rfl rfl) ?_
  refine Gx.done ?_
  refine Gx.thenN ?_
  refine Gx.seq ?_
  refine Gx.region ?_
  refine Gx.val rfl rfl rfl (val_move rfl rfl) ?_
  refine Gx.val rfl rfl rfl (val_move rfl rfl) ?_
  refine Gx.val rfl rfl rfl (val_move rfl rfl) ?_
  refine Gx.val rfl rfl rfl (val_move rfl rfl) ?_
  refine Gx.val rfl rfl rfl (val_move rfl rfl) ?_
  refine Gx.callB rfl rfl rfl (vs := [.int .i64 ((c.n : Nat) : Int), .int .i64 ((c.f : Nat) : Int), .int .u32 ((c.L : Nat) : Int), .int .i64 ((c.snd : Nat) : Int), sv]) rfl Try.fn7 rfl (R := fun v w' => ∃ (cv wv uv : Value), v = .tuple #[.agg #[cv, wv, uv, .int .i64 (((stB c (bs0 c.n) cs).all.length : Nat) : Int), .int .i64 ((notC (stB c (bs0 c.n) cs).all : Nat) : Int)], .int .i64 0] ∧ SlS FZ 1 w' cv (codesB c (bs0 c.n) cs) ∧ SlS FB 1 w' wv ((stB c (bs0 c.n) cs).ps.map Pr.has) ∧ SlS FI 1 w' uv ((stB c (bs0 c.n) cs).ps.map Pr.val)) (fun w H => play_ok (hs.below H.below) h1n h7n (by omega) hf hLn hL hsn) ?_
  rintro _ W4 ⟨cv1, wv2, uv3, rfl, hcv1, hwv2, huv3⟩ H5
  have hW6 := H5.below
  have hs7 := hs.below H5.below
  have hclcv1 : (codesB c (bs0 c.n) cs).length = (cs).length := codesB_len ..
  have hplcv1 : (stB c (bs0 c.n) cs).ps.length = c.n := stB_plen hsn cs
  have hwlcv1 : ((stB c (bs0 c.n) cs).ps.map Pr.has).length = c.n := by rw [List.length_map]; exact hplcv1
  have hulcv1 : ((stB c (bs0 c.n) cs).ps.map Pr.val).length = c.n := by rw [List.length_map]; exact hplcv1
  obtain ⟨sa8, sn9, sc10, rfl⟩ := hcv1.isS
  obtain ⟨sa11, sn12, sc13, rfl⟩ := hwv2.isS
  obtain ⟨sa14, sn15, sc16, rfl⟩ := huv3.isS
  refine Gx.val rfl rfl rfl (val_move rfl rfl) ?_
  refine Gx.val rfl rfl rfl (val_extract rfl rfl rfl) ?_
  refine Gx.val rfl rfl rfl (val_extract rfl rfl rfl) ?_
  refine Gx.eff rfl rfl rfl (eff_alloc rfl Try.ty28 (vs := [.slice none 0 0, .slice none 0 0, .slice none 0 0, .int .i64 0, .int .i64 0]) rfl) ?_
  rintro _ _ ⟨b17, rfl, rfl⟩
  refine Gx.eff0 rfl rfl (eff_store rfl Try.ty28 rfl rfl (us := [.slice sa8 sn9 sc10, .slice sa11 sn12 sc13, .slice sa14 sn15 sc16, .int .i64 (((stB c (bs0 c.n) cs).all.length : Nat) : Int), .int .i64 ((notC (stB c (bs0 c.n) cs).all : Nat) : Int)]) rfl rfl rfl (k := 0) rfl (rfl) (vs' := [.slice sa8 sn9 sc10, .slice sa11 sn12 sc13, .slice sa14 sn15 sc16, .int .i64 (((stB c (bs0 c.n) cs).all.length : Nat) : Int), .int .i64 ((notC (stB c (bs0 c.n) cs).all : Nat) : Int)]) (rfl) (l' := [Hp.rec_ b17 [.slice sa8 sn9 sc10, .slice sa11 sn12 sc13, .slice sa14 sn15 sc16, .int .i64 (((stB c (bs0 c.n) cs).all.length : Nat) : Int), .int .i64 ((notC (stB c (bs0 c.n) cs).all : Nat) : Int)]]) rfl) ?_
  rintro _ _ rfl
  refine Gx.val rfl rfl rfl (val_assign rfl rfl) ?_
  refine Gx.done ?_
  refine Gx.thenN ?_
  refine Gx.seq ?_
  refine Gx.seq ?_
  refine Gx.region ?_
  refine Gx.val rfl rfl rfl (val_move rfl rfl) ?_
  refine Gx.val rfl rfl rfl (Val.cast (val_neq rfl rfl rfl) (v' := .bool false) rfl) ?_
  refine Gx.done ?_
  refine Gx.thenN ?_
  refine Gx.f rfl ?_
  refine Gx.skip ?_
  refine Gx.thenN ?_
  refine Gx.seq ?_
  refine Gx.seq ?_
  refine Gx.region ?_
  refine Gx.val rfl rfl rfl (Val.cast (val_fieldAddr rfl Try.underlying28 rfl Try.ty25 rfl rfl) (v' := ptr b17 1) rfl) ?_
  refine Gx.val rfl rfl rfl (val_load rfl Try.ty25 rfl rfl (cell_rec (k := 0) rfl rfl)) ?_
  refine Gx.val rfl rfl rfl (val_len rfl Try.underlying25 rfl (len_base hwv2)) ?_
  refine Gx.val rfl rfl rfl (val_move rfl rfl) ?_
  refine Gx.val rfl rfl rfl (val_neq rfl rfl rfl) ?_
  refine Gx.val rfl rfl rfl (val_move rfl rfl) ?_
  refine Gx.slot (t := 40) (v := .bool false) (look_decF rfl (by omega)) ?_
  refine Gx.valg rfl rfl rfl rfl rfl (Val.cast (val_fieldAddr rfl Try.underlying28 rfl Try.ty26 rfl rfl) (v' := ptr b17 2) rfl) ?_
  refine Gx.valg rfl rfl rfl rfl rfl (val_load rfl Try.ty26 rfl rfl (cell_rec (k := 0) rfl rfl)) ?_
  refine Gx.valg rfl rfl rfl rfl rfl (val_len rfl Try.underlying26 rfl (len_base huv3)) ?_
  refine Gx.valg rfl rfl rfl rfl rfl (val_move rfl rfl) ?_
  refine Gx.valg rfl rfl rfl rfl rfl (val_neq rfl rfl rfl) ?_
  refine Gx.val rfl rfl rfl (val_pickF rfl rfl rfl) ?_
  refine Gx.val rfl rfl rfl (val_move rfl rfl) ?_
  refine Gx.slot (t := 47) (v := .bool false) (look_decF rfl (by omega)) ?_
  refine Gx.valg rfl rfl rfl rfl rfl (Val.cast (val_fieldAddr rfl Try.underlying28 rfl Try.ty24 rfl rfl) (v' := ptr b17 0) rfl) ?_
  refine Gx.valg rfl rfl rfl rfl rfl (val_load rfl Try.ty24 rfl rfl (cell_rec (k := 0) rfl rfl)) ?_
  refine Gx.valg rfl rfl rfl rfl rfl (val_len rfl Try.underlying24 rfl (len_base hcv1)) ?_
  refine Gx.valg rfl rfl rfl rfl rfl (val_move rfl rfl) ?_
  refine Gx.valg rfl rfl rfl rfl rfl (val_len rfl Try.underlying23 rfl (len_base hs7)) ?_
  refine Gx.valg rfl rfl rfl rfl rfl (val_neq rfl rfl rfl) ?_
  refine Gx.val rfl rfl rfl (val_pickF rfl rfl rfl) ?_
  refine Gx.done ?_
  refine Gx.thenN ?_
  refine Gx.decF rfl (by omega) ?_
  refine Gx.skip ?_
  refine Gx.thenN ?_
  refine Gx.seq ?_
  refine Gx.seq ?_
  refine Gx.region ?_
  refine Gx.val rfl rfl rfl (val_move rfl rfl) ?_
  refine Gx.val rfl rfl rfl (val_move rfl rfl) ?_
  refine Gx.val rfl rfl rfl (val_move rfl rfl) ?_
  refine Gx.val rfl rfl rfl (val_call (vs := [.int .u32 ((c.L : Nat) : Int), .int .i64 ((c.n : Nat) : Int), .int .i64 ((c.f : Nat) : Int)]) rfl Try.fn8 rfl (fun w H => few_c hL h7n)) ?_
  refine Gx.val rfl rfl rfl (val_not rfl rfl) ?_
  refine Gx.done ?_
  refine Gx.thenN ?_
  refine Gx.bool rfl (fun h18 => ?_) (fun h18 => ?_)
  · refine Gx.seq ?_
    refine Gx.region ?_
    refine Gx.val rfl rfl rfl (val_assign rfl rfl) ?_
    refine Gx.done ?_
    refine Gx.thenN ?_
    refine Gx.ret ?_
    refine Gx.thenR ?_
    refine Gx.ret1B hW6 Try.results3 rfl ?_
    rfl
  · refine Gx.skip ?_
    refine Gx.thenN ?_
    refine Gx.seq ?_
    have hag := agree hsn (few_liars (by simpa using h18) (by omega)) (by omega) (by omega) cs
    refine Gx.region ?_
    refine Gx.val rfl rfl rfl (val_assign rfl rfl) ?_
    refine Gx.done ?_
    refine Gx.thenN ?_
    refine Gx.seq ?_
    refine Gx.region ?_
    refine Gx.val rfl rfl rfl (val_assign rfl rfl) ?_
    refine Gx.done ?_
    refine Gx.thenN ?_
    refine Gx.seq ?_
    refine Gx.seq ?_
    refine Gx.region ?_
    refine Gx.val rfl rfl rfl (val_move rfl rfl) ?_
    refine Gx.val rfl rfl rfl (val_len rfl Try.underlying23 rfl (len_base hs7)) ?_
    refine Gx.val rfl rfl rfl (val_move rfl rfl) ?_
    refine Gx.done ?_
    refine Gx.thenN ?_
    refine Gx.block ?_
    refine Gx.loop (ι := Nat × Bool × Int) (fun ξ => (ξ.1 ≤ cs.length) ∧ (ξ.2.1 = (wkB cs (codesB c (bs0 c.n) cs) ξ.1).1) ∧ (ξ.2.2 = (wkB cs (codesB c (bs0 c.n) cs) ξ.1).2)) (fun ξ => [(0, .int .i64 ((c.n : Nat) : Int)), (2, .int .u32 ((c.L : Nat) : Int)), (3, .int .i64 ((c.snd : Nat) : Int)), (4, sv), (11, ptr b17 0), (60, sv), (61, .int .i64 ((cs.length : Nat) : Int)), (62, .int .i64 ((ξ.1 : Nat) : Int)), (14, .bool ξ.2.1), (13, .int .i64 ξ.2.2)]) (fun ξ => [Hp.rec_ b17 [.slice sa8 sn9 sc10, .slice sa11 sn12 sc13, .slice sa14 sn15 sc16, .int .i64 (((stB c (bs0 c.n) cs).all.length : Nat) : Int), .int .i64 ((notC (stB c (bs0 c.n) cs).all : Nat) : Int)]]) (fun ξ => cs.length - ξ.1) (0, false, 0) ⟨by first | omega | (dsimp only; omega), rfl, rfl⟩ ((.cons rfl (.cons rfl (.cons rfl (.cons rfl (.cons rfl (.cons rfl (.cons rfl (.cons rfl (.cons rfl (.cons rfl .nil))))))))))) rfl ?_
    rintro ⟨i, kn, wd⟩ ⟨hi, hkn, hwd⟩
    dsimp only at hi hkn hwd
    refine Gx.know (m' := [(0, .int .i64 ((c.n : Nat) : Int)), (2, .int .u32 ((c.L : Nat) : Int)), (3, .int .i64 ((c.snd : Nat) : Int)), (4, sv), (11, ptr b17 0), (60, sv), (61, .int .i64 ((cs.length : Nat) : Int)), (62, .int .i64 ((i : Nat) : Int)), (14, .bool kn), (13, .int .i64 wd)]) (.cons rfl (.cons rfl (.cons rfl (.cons rfl (.cons rfl (.cons rfl (.cons rfl (.cons rfl (.cons rfl (.cons rfl .nil)))))))))) (Gx.norm (l' := [Hp.rec_ b17 [.slice sa8 sn9 sc10, .slice sa11 sn12 sc13, .slice sa14 sn15 sc16, .int .i64 (((stB c (bs0 c.n) cs).all.length : Nat) : Int), .int .i64 ((notC (stB c (bs0 c.n) cs).all : Nat) : Int)]]) rfl ?_)
    refine Gx.seq ?_
    refine Gx.region ?_
    refine Gx.val rfl rfl rfl (val_lss rfl rfl rfl) ?_
    refine Gx.done ?_
    refine Gx.thenN ?_
    refine Gx.seq ?_
    refine Gx.dec rfl (fun h19 => ?_) (fun h19 => ?_)
    · refine Gx.skip ?_
      refine Gx.thenN ?_
      refine Gx.seq ?_
      refine Gx.block ?_
      refine Gx.seq ?_
      refine Gx.region ?_
      refine Gx.val rfl rfl rfl (val_move rfl rfl) ?_
      obtain ⟨x20, hx20⟩ := get_of_lt (xs := cs) (k := i) (by omega)
      refine Gx.val rfl rfl rfl (val_ixa rfl Try.underlying23 Try.ty34 rfl rfl (j := i) (rfl) (reach_base hs7 hx20)) ?_
      refine Gx.val rfl rfl rfl (Val.cast (val_loadA rfl Try.ty34 rfl rfl rfl (cells_base hs7 hx20)) (v' := .agg #[.int .i64 x20.kind, .int .i64 x20.frm, .int .i64 x20.to, .int .i64 x20.what, .int .i64 x20.msg, .int .i64 x20.n]) rfl) ?_
      refine Gx.eff rfl rfl rfl (eff_alloc rfl Try.ty34 (vs := [.int .i64 0, .int .i64 0, .int .i64 0, .int .i64 0, .int .i64 0, .int .i64 0]) rfl) ?_
      rintro _ _ ⟨b21, rfl, rfl⟩
      refine Gx.val rfl rfl rfl (val_assign rfl rfl) ?_
      refine Gx.eff0 rfl rfl (eff_store rfl Try.ty34 rfl rfl (us := [.int .i64 x20.kind, .int .i64 x20.frm, .int .i64 x20.to, .int .i64 x20.what, .int .i64 x20.msg, .int .i64 x20.n]) rfl rfl rfl (k := 0) rfl (rfl) (vs' := [.int .i64 x20.kind, .int .i64 x20.frm, .int .i64 x20.to, .int .i64 x20.what, .int .i64 x20.msg, .int .i64 x20.n]) (rfl) (l' := [Hp.rec_ b21 [.int .i64 x20.kind, .int .i64 x20.frm, .int .i64 x20.to, .int .i64 x20.what, .int .i64 x20.msg, .int .i64 x20.n], Hp.rec_ b17 [.slice sa8 sn9 sc10, .slice sa11 sn12 sc13, .slice sa14 sn15 sc16, .int .i64 (((stB c (bs0 c.n) cs).all.length : Nat) : Int), .int .i64 ((notC (stB c (bs0 c.n) cs).all : Nat) : Int)]]) rfl) ?_
      rintro _ _ rfl
      refine Gx.done ?_
      refine Gx.thenN ?_
      refine Gx.seq ?_
      refine Gx.region ?_
      refine Gx.val rfl rfl rfl (Val.cast (val_fieldAddr rfl Try.underlying34 rfl Try.ty3 rfl rfl) (v' := ptr b21 0) rfl) ?_
      refine Gx.val rfl rfl rfl (val_load rfl Try.ty3 rfl rfl (cell_rec (k := 0) rfl rfl)) ?_
      refine Gx.val rfl rfl rfl (val_eql rfl rfl rfl) ?_
      refine Gx.val rfl rfl rfl (val_move rfl rfl) ?_
      refine Gx.cases (t := 70) rfl (fun h22 => ?_) (fun h22 => ?_)
      · refine Gx.valg rfl rfl rfl rfl rfl (Val.cast (val_fieldAddr rfl Try.underlying28 rfl Try.ty24 rfl rfl) (v' := ptr b17 0) rfl) ?_
        refine Gx.valg rfl rfl rfl rfl rfl (val_load rfl Try.ty24 rfl rfl (cell_rec (k := 1) rfl rfl)) ?_
        refine Gx.valg rfl rfl rfl rfl rfl (val_move rfl rfl) ?_
        obtain ⟨x23, hx23⟩ := get_of_lt (xs := (codesB c (bs0 c.n) cs)) (k := i) (by omega)
        refine Gx.valg rfl rfl rfl rfl rfl (val_ixa rfl Try.underlying24 Try.ty29 rfl rfl (j := i) (rfl) (reach_base hcv1 hx23)) ?_
        refine Gx.valg rfl rfl rfl rfl rfl (val_load rfl Try.ty29 rfl rfl (cell_base (i := 0) hcv1 hx23 rfl)) ?_
        refine Gx.valg rfl rfl rfl rfl rfl (val_eql rfl rfl rfl) ?_
        refine Gx.val rfl rfl rfl (val_pickT rfl rfl rfl) ?_
        refine Gx.done ?_
        refine Gx.thenN ?_
        refine Gx.dec rfl (fun h24 => ?_) (fun h24 => ?_)
        · refine Gx.seq ?_
          refine Gx.region ?_
          refine Gx.val rfl rfl rfl (Val.cast (val_fieldAddr rfl Try.underlying34 rfl Try.ty2 rfl rfl) (v' := ptr b21 5) rfl) ?_
          refine Gx.val rfl rfl rfl (val_load rfl Try.ty2 rfl rfl (cell_rec (k := 0) rfl rfl)) ?_
          refine Gx.val rfl rfl rfl (val_assign rfl rfl) ?_
          refine Gx.done ?_
          refine Gx.thenN ?_
          refine Gx.region ?_
          refine Gx.val rfl rfl rfl (val_assign rfl rfl) ?_
          refine Gx.done ?_
          refine Gx.blkN ?_
          refine Gx.thenN ?_
          refine Gx.region ?_
          refine Gx.val rfl rfl rfl (val_add rfl rfl rfl (r := ((i + 1 : Nat) : Int)) (w64 (by omega) (by omega))) ?_
          refine Gx.val rfl rfl rfl (val_move rfl rfl) ?_
          refine Gx.done ?_
          refine Gx.thenN ?_
          refine Gx.drop 0 rfl ?_
          have hw25 := wkB_succ (cs := cs) hx20 hx23
          rw [if_pos ⟨by omega, by omega⟩] at hw25
          exact Gx.round (i + 1, true, x20.n) ⟨by first | omega | (dsimp only; omega), by rw [hw25], by rw [hw25]⟩ (by first | omega | (dsimp only; omega)) ((.cons rfl (.cons rfl (.cons rfl (.cons rfl (.cons rfl (.cons rfl (.cons rfl (.cons rfl (.cons rfl (.cons rfl .nil))))))))))) rfl
        · refine Gx.skip ?_
          refine Gx.blkN ?_
          refine Gx.thenN ?_
          refine Gx.region ?_
          refine Gx.val rfl rfl rfl (val_add rfl rfl rfl (r := ((i + 1 : Nat) : Int)) (w64 (by omega) (by omega))) ?_
          refine Gx.val rfl rfl rfl (val_move rfl rfl) ?_
          refine Gx.done ?_
          refine Gx.thenN ?_
          refine Gx.drop 0 rfl ?_
          have hw26 := wkB_succ (cs := cs) hx20 hx23
          rw [if_neg (fun q => by have := q.1; have := q.2; omega)] at hw26
          exact Gx.round (i + 1, kn, wd) ⟨by first | omega | (dsimp only; omega), by rw [hw26]; exact hkn, by rw [hw26]; exact hwd⟩ (by first | omega | (dsimp only; omega)) ((.cons rfl (.cons rfl (.cons rfl (.cons rfl (.cons rfl (.cons rfl (.cons rfl (.cons rfl (.cons rfl (.cons rfl .nil))))))))))) rfl
      · refine Gx.skipg rfl rfl rfl rfl rfl rfl ?_
        refine Gx.skipg rfl rfl rfl rfl rfl rfl ?_
        refine Gx.skipg rfl rfl rfl rfl rfl rfl ?_
        refine Gx.skipg rfl rfl rfl rfl rfl rfl ?_
        refine Gx.skipg rfl rfl rfl rfl rfl rfl ?_
        refine Gx.skipg rfl rfl rfl rfl rfl rfl ?_
        refine Gx.val rfl rfl rfl (val_pickF rfl rfl rfl) ?_
        refine Gx.done ?_
        refine Gx.thenN ?_
        refine Gx.f rfl ?_
        refine Gx.skip ?_
        refine Gx.blkN ?_
        refine Gx.thenN ?_
        refine Gx.region ?_
        refine Gx.val rfl rfl rfl (val_add rfl rfl rfl (r := ((i + 1 : Nat) : Int)) (w64 (by omega) (by omega))) ?_
        refine Gx.val rfl rfl rfl (val_move rfl rfl) ?_
        refine Gx.done ?_
        refine Gx.thenN ?_
        refine Gx.drop 0 rfl ?_
        obtain ⟨k7, hk7⟩ := get_of_lt (xs := (codesB c (bs0 c.n) cs)) (k := i) (by omega)
        have hw27 := wkB_succ (cs := cs) hx20 hk7
        rw [if_neg (fun q => by have := q.1; have := q.2; omega)] at hw27
        exact Gx.round (i + 1, kn, wd) ⟨by first | omega | (dsimp only; omega), by rw [hw27]; exact hkn, by rw [hw27]; exact hwd⟩ (by first | omega | (dsimp only; omega)) ((.cons rfl (.cons rfl (.cons rfl (.cons rfl (.cons rfl (.cons rfl (.cons rfl (.cons rfl (.cons rfl (.cons rfl .nil))))))))))) rfl
    · refine Gx.exit ?_
      refine Gx.thenE ?_
      refine Gx.thenE ?_
      refine Gx.blkE ?_
      refine Gx.thenN ?_
      refine Gx.seq ?_
      refine Gx.seq ?_
      obtain rfl : i = cs.length := by omega
      refine Gx.region ?_
      refine Gx.val rfl rfl rfl (val_move rfl rfl) ?_
      refine Gx.val rfl rfl rfl (val_move rfl rfl) ?_
      refine Gx.val rfl rfl rfl (val_call (vs := [.int .u32 ((c.L : Nat) : Int), .int .i64 ((c.snd : Nat) : Int)]) rfl Try.fn9 rfl (fun w H => bit_c hL (by omega))) ?_
      refine Gx.val rfl rfl rfl (val_not rfl rfl) ?_
      refine Gx.done ?_
      refine Gx.thenN ?_
      refine Gx.bool rfl (fun h28 => ?_) (fun h28 => ?_)
      · refine Gx.seq ?_
        refine Gx.region ?_
        refine Gx.val rfl rfl rfl (val_assign rfl rfl) ?_
        refine Gx.done ?_
        refine Gx.thenN ?_
        refine Gx.block ?_
        refine Gx.loop (ι := Nat) (fun ξ => (ξ ≤ c.n)) (fun ξ => [(0, .int .i64 ((c.n : Nat) : Int)), (2, .int .u32 ((c.L : Nat) : Int)), (11, ptr b17 0), (13, .int .i64 wd), (14, .bool kn), (17, .int .i64 ((ξ : Nat) : Int))]) (fun ξ => [Hp.rec_ b17 [.slice sa8 sn9 sc10, .slice sa11 sn12 sc13, .slice sa14 sn15 sc16, .int .i64 (((stB c (bs0 c.n) cs).all.length : Nat) : Int), .int .i64 ((notC (stB c (bs0 c.n) cs).all : Nat) : Int)]]) (fun ξ => c.n - ξ) 0 (by first | omega | (dsimp only; omega)) ((.cons rfl (.cons rfl (.cons rfl (.cons rfl (.cons rfl (.cons rfl .nil))))))) rfl ?_
        rintro j hj
        refine Gx.know (m' := [(0, .int .i64 ((c.n : Nat) : Int)), (2, .int .u32 ((c.L : Nat) : Int)), (11, ptr b17 0), (13, .int .i64 wd), (14, .bool kn), (17, .int .i64 ((j : Nat) : Int))]) (.cons rfl (.cons rfl (.cons rfl (.cons rfl (.cons rfl (.cons rfl .nil)))))) (Gx.norm (l' := [Hp.rec_ b17 [.slice sa8 sn9 sc10, .slice sa11 sn12 sc13, .slice sa14 sn15 sc16, .int .i64 (((stB c (bs0 c.n) cs).all.length : Nat) : Int), .int .i64 ((notC (stB c (bs0 c.n) cs).all : Nat) : Int)]]) rfl ?_)
        refine Gx.seq ?_
        refine Gx.seq ?_
        refine Gx.region ?_
        refine Gx.val rfl rfl rfl (val_move rfl rfl) ?_
        refine Gx.val rfl rfl rfl (val_move rfl rfl) ?_
        refine Gx.val rfl rfl rfl (val_lss rfl rfl rfl) ?_
        refine Gx.done ?_
        refine Gx.thenN ?_
        refine Gx.dec rfl (fun h29 => ?_) (fun h29 => ?_)
        · refine Gx.skip ?_
          refine Gx.thenN ?_
          refine Gx.seq ?_
          refine Gx.block ?_
          refine Gx.seq ?_
          obtain ⟨p30, hp30⟩ := get_of_lt (xs := (stB c (bs0 c.n) cs).ps) (k := j) (by omega)
          have hp30h : ((stB c (bs0 c.n) cs).ps.map Pr.has)[j]? = some p30.has := by rw [List.getElem?_map, hp30]; rfl
          have hp30v : ((stB c (bs0 c.n) cs).ps.map Pr.val)[j]? = some p30.val := by rw [List.getElem?_map, hp30]; rfl
          refine Gx.region ?_
          refine Gx.val rfl rfl rfl (val_move rfl rfl) ?_
          refine Gx.val rfl rfl rfl (val_move rfl rfl) ?_
          refine Gx.val rfl rfl rfl (val_call (vs := [.int .u32 ((c.L : Nat) : Int), .int .i64 ((j : Nat) : Int)]) rfl Try.fn9 rfl (fun w H => bit_c hL (by omega))) ?_
          refine Gx.val rfl rfl rfl (val_not rfl rfl) ?_
          refine Gx.val rfl rfl rfl (val_move rfl rfl) ?_
          refine Gx.casesB (t := 94) rfl (fun h31 => ?_) (fun h31 => ?_)
          · refine Gx.valg rfl rfl rfl rfl rfl (Val.cast (val_fieldAddr rfl Try.underlying28 rfl Try.ty25 rfl rfl) (v' := ptr b17 1) rfl) ?_
            refine Gx.valg rfl rfl rfl rfl rfl (val_load rfl Try.ty25 rfl rfl (cell_rec (k := 0) rfl rfl)) ?_
            refine Gx.valg rfl rfl rfl rfl rfl (val_move rfl rfl) ?_
            refine Gx.valg rfl rfl rfl rfl rfl (val_ixa rfl Try.underlying25 Try.ty4 rfl rfl (j := j) (rfl) (reach_base hwv2 hp30h)) ?_
            refine Gx.valg rfl rfl rfl rfl rfl (val_load rfl Try.ty4 rfl rfl (cell_base (i := 0) hwv2 hp30h rfl)) ?_
            refine Gx.val rfl rfl rfl (val_pickT rfl rfl rfl) ?_
            refine Gx.val rfl rfl rfl (val_move rfl rfl) ?_
            refine Gx.casesB (t := 101) rfl (fun h32 => ?_) (fun h32 => ?_)
            · refine Gx.valg rfl rfl rfl rfl rfl (val_move rfl rfl) ?_
              refine Gx.valg rfl rfl rfl rfl rfl (val_not rfl rfl) ?_
              refine Gx.valg rfl rfl rfl rfl rfl (val_move rfl rfl) ?_
              refine Gx.slot (t := 104) (v := .bool false) (look_boolF rfl (by rw [hkn, (hag.1 _ _ hp30 h32 (by simpa using h28)).1]; rfl)) ?_
              refine Gx.valg rfl rfl rfl rfl rfl (Val.cast (val_fieldAddr rfl Try.underlying28 rfl Try.ty26 rfl rfl) (v' := ptr b17 2) rfl) ?_
              refine Gx.valg rfl rfl rfl rfl rfl (val_load rfl Try.ty26 rfl rfl (cell_rec (k := 0) rfl rfl)) ?_
              refine Gx.valg rfl rfl rfl rfl rfl (val_move rfl rfl) ?_
              refine Gx.valg rfl rfl rfl rfl rfl (val_ixa rfl Try.underlying26 Try.ty2 rfl rfl (j := j) (rfl) (reach_base huv3 hp30v)) ?_
              refine Gx.valg rfl rfl rfl rfl rfl (val_load rfl Try.ty2 rfl rfl (cell_base (i := 0) huv3 hp30v rfl)) ?_
              refine Gx.valg rfl rfl rfl rfl rfl (val_move rfl rfl) ?_
              refine Gx.valg rfl rfl rfl rfl rfl (val_neq rfl rfl rfl) ?_
              refine Gx.valg rfl rfl rfl rfl rfl (val_pickF rfl rfl rfl) ?_
              refine Gx.val rfl rfl rfl (val_pickT rfl rfl rfl) ?_
              refine Gx.done ?_
              refine Gx.thenN ?_
              refine Gx.decF rfl (fun q => q (by rw [hwd]; exact (hag.1 _ _ hp30 h32 (by simpa using h28)).2)) ?_
              refine Gx.skip ?_
              refine Gx.blkN ?_
              refine Gx.thenN ?_
              refine Gx.region ?_
              refine Gx.val rfl rfl rfl (val_move rfl rfl) ?_
              refine Gx.val rfl rfl rfl (val_add rfl rfl rfl (r := ((j + 1 : Nat) : Int)) (w64 (by omega) (by omega))) ?_
              refine Gx.val rfl rfl rfl (val_assign rfl rfl) ?_
              refine Gx.done ?_
              refine Gx.thenN ?_
              exact Gx.round (j + 1) (by first | omega | (dsimp only; omega)) (by first | omega | (dsimp only; omega)) ((.cons rfl (.cons rfl (.cons rfl (.cons rfl (.cons rfl (.cons rfl .nil))))))) rfl
            · refine Gx.skipg rfl rfl rfl rfl rfl rfl ?_
              refine Gx.skipg rfl rfl rfl rfl rfl rfl ?_
              refine Gx.skipg rfl rfl rfl rfl rfl rfl ?_
              refine Gx.skipu rfl rfl rfl rfl rfl ?_
              refine Gx.skipu rfl rfl rfl rfl rfl ?_
              refine Gx.skipu rfl rfl rfl rfl rfl ?_
              refine Gx.skipu rfl rfl rfl rfl rfl ?_
              refine Gx.skipu rfl rfl rfl rfl rfl ?_
              refine Gx.skipu rfl rfl rfl rfl rfl ?_
              refine Gx.skipu rfl rfl rfl rfl rfl ?_
              refine Gx.skipg rfl rfl rfl rfl rfl rfl ?_
              refine Gx.val rfl rfl rfl (val_pickF rfl rfl rfl) ?_
              refine Gx.done ?_
              refine Gx.thenN ?_
              refine Gx.f rfl ?_
              refine Gx.skip ?_
              refine Gx.blkN ?_
              refine Gx.thenN ?_
              refine Gx.region ?_
              refine Gx.val rfl rfl rfl (val_move rfl rfl) ?_
              refine Gx.val rfl rfl rfl (val_add rfl rfl rfl (r := ((j + 1 : Nat) : Int)) (w64 (by omega) (by omega))) ?_
              refine Gx.val rfl rfl rfl (val_assign rfl rfl) ?_
              refine Gx.done ?_
              refine Gx.thenN ?_
              exact Gx.round (j + 1) (by first | omega | (dsimp only; omega)) (by first | omega | (dsimp only; omega)) ((.cons rfl (.cons rfl (.cons rfl (.cons rfl (.cons rfl (.cons rfl .nil))))))) rfl
          · refine Gx.skipg rfl rfl rfl rfl rfl rfl ?_
            refine Gx.skipg rfl rfl rfl rfl rfl rfl ?_
            refine Gx.skipg rfl rfl rfl rfl rfl rfl ?_
            refine Gx.skipg rfl rfl rfl rfl rfl rfl ?_
            refine Gx.skipg rfl rfl rfl rfl rfl rfl ?_
            refine Gx.val rfl rfl rfl (val_pickF rfl rfl rfl) ?_
            refine Gx.val rfl rfl rfl (val_move rfl rfl) ?_
            refine Gx.skipg rfl rfl rfl rfl rfl rfl ?_
            refine Gx.skipg rfl rfl rfl rfl rfl rfl ?_
            refine Gx.skipg rfl rfl rfl rfl rfl rfl ?_
            refine Gx.skipu rfl rfl rfl rfl rfl ?_
            refine Gx.skipu rfl rfl rfl rfl rfl ?_
            refine Gx.skipu rfl rfl rfl rfl rfl ?_
            refine Gx.skipu rfl rfl rfl rfl rfl ?_
            refine Gx.skipu rfl rfl rfl rfl rfl ?_
            refine Gx.skipu rfl rfl rfl rfl rfl ?_
            refine Gx.skipu rfl rfl rfl rfl rfl ?_
            refine Gx.skipg rfl rfl rfl rfl rfl rfl ?_
            refine Gx.val rfl rfl rfl (val_pickF rfl rfl rfl) ?_
            refine Gx.done ?_
            refine Gx.thenN ?_
            refine Gx.f rfl ?_
            refine Gx.skip ?_
            refine Gx.blkN ?_
            refine Gx.thenN ?_
            refine Gx.region ?_
            refine Gx.val rfl rfl rfl (val_move rfl rfl) ?_
            refine Gx.val rfl rfl rfl (val_add rfl rfl rfl (r := ((j + 1 : Nat) : Int)) (w64 (by omega) (by omega))) ?_
            refine Gx.val rfl rfl rfl (val_assign rfl rfl) ?_
            refine Gx.done ?_
            refine Gx.thenN ?_
            exact Gx.round (j + 1) (by first | omega | (dsimp only; omega)) (by first | omega | (dsimp only; omega)) ((.cons rfl (.cons rfl (.cons rfl (.cons rfl (.cons rfl (.cons rfl .nil))))))) rfl
        · refine Gx.exit ?_
          refine Gx.thenE ?_
          refine Gx.thenE ?_
          refine Gx.blkE ?_
          refine Gx.thenN ?_
          refine Gx.seq ?_
          refine Gx.seq ?_
          refine Gx.region ?_
          refine Gx.val rfl rfl rfl (val_assign rfl rfl) ?_
          refine Gx.done ?_
          refine Gx.thenN ?_
          refine Gx.block ?_
          refine Gx.loop (ι := Nat) (fun ξ => (ξ ≤ c.n)) (fun ξ => [(0, .int .i64 ((c.n : Nat) : Int)), (2, .int .u32 ((c.L : Nat) : Int)), (11, ptr b17 0), (18, .int .i64 ((ξ : Nat) : Int))]) (fun ξ => [Hp.rec_ b17 [.slice sa8 sn9 sc10, .slice sa11 sn12 sc13, .slice sa14 sn15 sc16, .int .i64 (((stB c (bs0 c.n) cs).all.length : Nat) : Int), .int .i64 ((notC (stB c (bs0 c.n) cs).all : Nat) : Int)]]) (fun ξ => c.n - ξ) 0 (by first | omega | (dsimp only; omega)) ((.cons rfl (.cons rfl (.cons rfl (.cons rfl .nil))))) rfl ?_
          rintro a ha
          refine Gx.know (m' := [(0, .int .i64 ((c.n : Nat) : Int)), (2, .int .u32 ((c.L : Nat) : Int)), (11, ptr b17 0), (18, .int .i64 ((a : Nat) : Int))]) (.cons rfl (.cons rfl (.cons rfl (.cons rfl .nil)))) (Gx.norm (l' := [Hp.rec_ b17 [.slice sa8 sn9 sc10, .slice sa11 sn12 sc13, .slice sa14 sn15 sc16, .int .i64 (((stB c (bs0 c.n) cs).all.length : Nat) : Int), .int .i64 ((notC (stB c (bs0 c.n) cs).all : Nat) : Int)]]) rfl ?_)
          refine Gx.seq ?_
          refine Gx.seq ?_
          refine Gx.region ?_
          refine Gx.val rfl rfl rfl (val_move rfl rfl) ?_
          refine Gx.val rfl rfl rfl (val_move rfl rfl) ?_
          refine Gx.val rfl rfl rfl (val_lss rfl rfl rfl) ?_
          refine Gx.done ?_
          refine Gx.thenN ?_
          refine Gx.dec rfl (fun h33 => ?_) (fun h33 => ?_)
          · refine Gx.skip ?_
            refine Gx.thenN ?_
            refine Gx.seq ?_
            refine Gx.block ?_
            refine Gx.seq ?_
            refine Gx.region ?_
            refine Gx.val rfl rfl rfl (val_assign rfl rfl) ?_
            refine Gx.done ?_
            refine Gx.thenN ?_
            refine Gx.block ?_
            refine Gx.loop (ι := Nat) (fun ξ => (ξ ≤ c.n)) (fun ξ => [(0, .int .i64 ((c.n : Nat) : Int)), (2, .int .u32 ((c.L : Nat) : Int)), (11, ptr b17 0), (18, .int .i64 ((a : Nat) : Int)), (19, .int .i64 ((ξ : Nat) : Int))]) (fun ξ => [Hp.rec_ b17 [.slice sa8 sn9 sc10, .slice sa11 sn12 sc13, .slice sa14 sn15 sc16, .int .i64 (((stB c (bs0 c.n) cs).all.length : Nat) : Int), .int .i64 ((notC (stB c (bs0 c.n) cs).all : Nat) : Int)]]) (fun ξ => c.n - ξ) 0 (by first | omega | (dsimp only; omega)) ((.cons rfl (.cons rfl (.cons rfl (.cons rfl (.cons rfl .nil)))))) rfl ?_
            rintro b hb
            refine Gx.know (m' := [(0, .int .i64 ((c.n : Nat) : Int)), (2, .int .u32 ((c.L : Nat) : Int)), (11, ptr b17 0), (18, .int .i64 ((a : Nat) : Int)), (19, .int .i64 ((b : Nat) : Int))]) (.cons rfl (.cons rfl (.cons rfl (.cons rfl (.cons rfl .nil))))) (Gx.norm (l' := [Hp.rec_ b17 [.slice sa8 sn9 sc10, .slice sa11 sn12 sc13, .slice sa14 sn15 sc16, .int .i64 (((stB c (bs0 c.n) cs).all.length : Nat) : Int), .int .i64 ((notC (stB c (bs0 c.n) cs).all : Nat) : Int)]]) rfl ?_)
            refine Gx.seq ?_
            refine Gx.seq ?_
            refine Gx.region ?_
            refine Gx.val rfl rfl rfl (val_move rfl rfl) ?_
            refine Gx.val rfl rfl rfl (val_move rfl rfl) ?_
            refine Gx.val rfl rfl rfl (val_lss rfl rfl rfl) ?_
            refine Gx.done ?_
            refine Gx.thenN ?_
            refine Gx.dec rfl (fun h34 => ?_) (fun h34 => ?_)
            · refine Gx.skip ?_
              refine Gx.thenN ?_
              refine Gx.seq ?_
              refine Gx.block ?_
              refine Gx.seq ?_
              obtain ⟨p35, hp35⟩ := get_of_lt (xs := (stB c (bs0 c.n) cs).ps) (k := a) (by omega)
              have hp35h : ((stB c (bs0 c.n) cs).ps.map Pr.has)[a]? = some p35.has := by rw [List.getElem?_map, hp35]; rfl
              have hp35v : ((stB c (bs0 c.n) cs).ps.map Pr.val)[a]? = some p35.val := by rw [List.getElem?_map, hp35]; rfl
              obtain ⟨p36, hp36⟩ := get_of_lt (xs := (stB c (bs0 c.n) cs).ps) (k := b) (by omega)
              have hp36h : ((stB c (bs0 c.n) cs).ps.map Pr.has)[b]? = some p36.has := by rw [List.getElem?_map, hp36]; rfl
              have hp36v : ((stB c (bs0 c.n) cs).ps.map Pr.val)[b]? = some p36.val := by rw [List.getElem?_map, hp36]; rfl
              refine Gx.regionQ Try.mixed (by kernel_rfl) ?_
              refine Gq.val rfl rfl rfl (val_move rfl rfl) ?_
              refine Gq.val rfl rfl rfl (val_move rfl rfl) ?_
              refine Gq.val rfl rfl rfl (val_call (vs := [.int .u32 ((c.L : Nat) : Int), .int .i64 ((a : Nat) : Int)]) rfl Try.fn9 rfl (fun w H => bit_c hL (by omega))) ?_
              refine Gq.val rfl rfl rfl (val_not rfl rfl) ?_
              refine Gq.val rfl rfl rfl (val_move rfl rfl) ?_
              refine Gq.casesB (t := 128) rfl (fun h37 => ?_) (fun h37 => ?_)
              · refine Gq.valg rfl rfl rfl rfl rfl (val_move rfl rfl) ?_
                refine Gq.valg rfl rfl rfl rfl rfl (val_move rfl rfl) ?_
                refine Gq.valg rfl rfl rfl rfl rfl (val_call (vs := [.int .u32 ((c.L : Nat) : Int), .int .i64 ((b : Nat) : Int)]) rfl Try.fn9 rfl (fun w H => bit_c hL (by omega))) ?_
                refine Gq.valg rfl rfl rfl rfl rfl (val_not rfl rfl) ?_
                refine Gq.val rfl rfl rfl (val_pickT rfl rfl rfl) ?_
                refine Gq.val rfl rfl rfl (val_move rfl rfl) ?_
                refine Gq.casesB (t := 134) rfl (fun h38 => ?_) (fun h38 => ?_)
                · refine Gq.valg rfl rfl rfl rfl rfl (Val.cast (val_fieldAddr rfl Try.underlying28 rfl Try.ty25 rfl rfl) (v' := ptr b17 1) rfl) ?_
                  refine Gq.valg rfl rfl rfl rfl rfl (val_load rfl Try.ty25 rfl rfl (cell_rec (k := 0) rfl rfl)) ?_
                  refine Gq.valg rfl rfl rfl rfl rfl (val_move rfl rfl) ?_
                  refine Gq.valg rfl rfl rfl rfl rfl (val_ixa rfl Try.underlying25 Try.ty4 rfl rfl (j := a) (rfl) (reach_base hwv2 hp35h)) ?_
                  refine Gq.valg rfl rfl rfl rfl rfl (val_load rfl Try.ty4 rfl rfl (cell_base (i := 0) hwv2 hp35h rfl)) ?_
                  refine Gq.val rfl rfl rfl (val_pickT rfl rfl rfl) ?_
                  refine Gq.val rfl rfl rfl (val_move rfl rfl) ?_
                  refine Gq.casesB (t := 141) rfl (fun h39 => ?_) (fun h39 => ?_)
                  · refine Gq.valg rfl rfl rfl rfl rfl (Val.cast (val_fieldAddr rfl Try.underlying28 rfl Try.ty25 rfl rfl) (v' := ptr b17 1) rfl) ?_
                    refine Gq.valg rfl rfl rfl rfl rfl (val_load rfl Try.ty25 rfl rfl (cell_rec (k := 0) rfl rfl)) ?_
                    refine Gq.valg rfl rfl rfl rfl rfl (val_move rfl rfl) ?_
                    refine Gq.valg rfl rfl rfl rfl rfl (val_ixa rfl Try.underlying25 Try.ty4 rfl rfl (j := b) (rfl) (reach_base hwv2 hp36h)) ?_
                    refine Gq.valg rfl rfl rfl rfl rfl (val_load rfl Try.ty4 rfl rfl (cell_base (i := 0) hwv2 hp36h rfl)) ?_
                    refine Gq.val rfl rfl rfl (val_pickT rfl rfl rfl) ?_
                    refine Gq.val rfl rfl rfl (val_move rfl rfl) ?_
                    refine Gq.casesB (t := 148) rfl (fun h40 => ?_) (fun h40 => ?_)
                    · refine Gq.valg rfl rfl rfl rfl rfl (Val.cast (val_fieldAddr rfl Try.underlying28 rfl Try.ty26 rfl rfl) (v' := ptr b17 2) rfl) ?_
                      refine Gq.valg rfl rfl rfl rfl rfl (val_load rfl Try.ty26 rfl rfl (cell_rec (k := 0) rfl rfl)) ?_
                      refine Gq.valg rfl rfl rfl rfl rfl (val_move rfl rfl) ?_
                      refine Gq.valg rfl rfl rfl rfl rfl (val_ixa rfl Try.underlying26 Try.ty2 rfl rfl (j := a) (rfl) (reach_base huv3 hp35v)) ?_
                      refine Gq.valg rfl rfl rfl rfl rfl (val_load rfl Try.ty2 rfl rfl (cell_base (i := 0) huv3 hp35v rfl)) ?_
                      refine Gq.valg rfl rfl rfl rfl rfl (Val.cast (val_fieldAddr rfl Try.underlying28 rfl Try.ty26 rfl rfl) (v' := ptr b17 2) rfl) ?_
                      refine Gq.valg rfl rfl rfl rfl rfl (val_load rfl Try.ty26 rfl rfl (cell_rec (k := 0) rfl rfl)) ?_
                      refine Gq.valg rfl rfl rfl rfl rfl (val_move rfl rfl) ?_
                      refine Gq.valg rfl rfl rfl rfl rfl (val_ixa rfl Try.underlying26 Try.ty2 rfl rfl (j := b) (rfl) (reach_base huv3 hp36v)) ?_
                      refine Gq.valg rfl rfl rfl rfl rfl (val_load rfl Try.ty2 rfl rfl (cell_base (i := 0) huv3 hp36v rfl)) ?_
                      refine Gq.valg rfl rfl rfl rfl rfl (val_neq rfl rfl rfl) ?_
                      refine Gq.val rfl rfl rfl (val_pickT rfl rfl rfl) ?_
                      refine Gq.done ?_
                      refine Gx.thenN ?_
                      refine Gx.decF rfl (fun q => q (hag.2 _ _ _ _ hp35 hp36 h39 h40)) ?_
                      refine Gx.skip ?_
                      refine Gx.blkN ?_
                      refine Gx.thenN ?_
                      refine Gx.region ?_
                      refine Gx.val rfl rfl rfl (val_move rfl rfl) ?_
                      refine Gx.val rfl rfl rfl (val_add rfl rfl rfl (r := ((b + 1 : Nat) : Int)) (w64 (by omega) (by omega))) ?_
                      refine Gx.val rfl rfl rfl (val_assign rfl rfl) ?_
                      refine Gx.done ?_
                      refine Gx.thenN ?_
                      exact Gx.round (b + 1) (by first | omega | (dsimp only; omega)) (by first | omega | (dsimp only; omega)) ((.cons rfl (.cons rfl (.cons rfl (.cons rfl (.cons rfl .nil)))))) rfl
                    · refine Gq.skipg rfl rfl rfl rfl rfl rfl ?_
                      refine Gq.skipg rfl rfl rfl rfl rfl rfl ?_
                      refine Gq.skipg rfl rfl rfl rfl rfl rfl ?_
                      refine Gq.skipg rfl rfl rfl rfl rfl rfl ?_
                      refine Gq.skipg rfl rfl rfl rfl rfl rfl ?_
                      refine Gq.skipg rfl rfl rfl rfl rfl rfl ?_
                      refine Gq.skipg rfl rfl rfl rfl rfl rfl ?_
                      refine Gq.skipg rfl rfl rfl rfl rfl rfl ?_
                      refine Gq.skipg rfl rfl rfl rfl rfl rfl ?_
                      refine Gq.skipg rfl rfl rfl rfl rfl rfl ?_
                      refine Gq.skipg rfl rfl rfl rfl rfl rfl ?_
                      refine Gq.val rfl rfl rfl (val_pickF rfl rfl rfl) ?_
                      refine Gq.done ?_
                      refine Gx.thenN ?_
                      refine Gx.f rfl ?_
                      refine Gx.skip ?_
                      refine Gx.blkN ?_
                      refine Gx.thenN ?_
                      refine Gx.region ?_
                      refine Gx.val rfl rfl rfl (val_move rfl rfl) ?_
                      refine Gx.val rfl rfl rfl (val_add rfl rfl rfl (r := ((b + 1 : Nat) : Int)) (w64 (by omega) (by omega))) ?_
                      refine Gx.val rfl rfl rfl (val_assign rfl rfl) ?_
                      refine Gx.done ?_
                      refine Gx.thenN ?_
                      exact Gx.round (b + 1) (by first | omega | (dsimp only; omega)) (by first | omega | (dsimp only; omega)) ((.cons rfl (.cons rfl (.cons rfl (.cons rfl (.cons rfl .nil)))))) rfl
                  · refine Gq.skipg rfl rfl rfl rfl rfl rfl ?_
                    refine Gq.skipg rfl rfl rfl rfl rfl rfl ?_
                    refine Gq.skipg rfl rfl rfl rfl rfl rfl ?_
                    refine Gq.skipg rfl rfl rfl rfl rfl rfl ?_
                    refine Gq.skipg rfl rfl rfl rfl rfl rfl ?_
                    refine Gq.val rfl rfl rfl (val_pickF rfl rfl rfl) ?_
                    refine Gq.val rfl rfl rfl (val_move rfl rfl) ?_
                    refine Gq.skipg rfl rfl rfl rfl rfl rfl ?_
                    refine Gq.skipg rfl rfl rfl rfl rfl rfl ?_
                    refine Gq.skipg rfl rfl rfl rfl rfl rfl ?_
                    refine Gq.skipg rfl rfl rfl rfl rfl rfl ?_
                    refine Gq.skipg rfl rfl rfl rfl rfl rfl ?_
                    refine Gq.skipg rfl rfl rfl rfl rfl rfl ?_
                    refine Gq.skipg rfl rfl rfl rfl rfl rfl ?_
                    refine Gq.skipg rfl rfl rfl rfl rfl rfl ?_
                    refine Gq.skipg rfl rfl rfl rfl rfl rfl ?_
                    refine Gq.skipg rfl rfl rfl rfl rfl rfl ?_
                    refine Gq.skipg rfl rfl rfl rfl rfl rfl ?_
                    refine Gq.val rfl rfl rfl (val_pickF rfl rfl rfl) ?_
                    refine Gq.done ?_
                    refine Gx.thenN ?_
                    refine Gx.f rfl ?_
                    refine Gx.skip ?_
                    refine Gx.blkN ?_
                    refine Gx.thenN ?_
                    refine Gx.region ?_
                    refine Gx.val rfl rfl rfl (val_move rfl rfl) ?_
                    refine Gx.val rfl rfl rfl (val_add rfl rfl rfl (r := ((b + 1 : Nat) : Int)) (w64 (by omega) (by omega))) ?_
                    refine Gx.val rfl rfl rfl (val_assign rfl rfl) ?_
                    refine Gx.done ?_
                    refine Gx.thenN ?_
                    exact Gx.round (b + 1) (by first | omega | (dsimp only; omega)) (by first | omega | (dsimp only; omega)) ((.cons rfl (.cons rfl (.cons rfl (.cons rfl (.cons rfl .nil)))))) rfl
                · refine Gq.skipg rfl rfl rfl rfl rfl rfl ?_
                  refine Gq.skipg rfl rfl rfl rfl rfl rfl ?_
                  refine Gq.skipg rfl rfl rfl rfl rfl rfl ?_
                  refine Gq.skipg rfl rfl rfl rfl rfl rfl ?_
                  refine Gq.skipg rfl rfl rfl rfl rfl rfl ?_
                  refine Gq.val rfl rfl rfl (val_pickF rfl rfl rfl) ?_
                  refine Gq.val rfl rfl rfl (val_move rfl rfl) ?_
                  refine Gq.skipg rfl rfl rfl rfl rfl rfl ?_
                  refine Gq.skipg rfl rfl rfl rfl rfl rfl ?_
                  refine Gq.skipg rfl rfl rfl rfl rfl rfl ?_
                  refine Gq.skipg rfl rfl rfl rfl rfl rfl ?_
                  refine Gq.skipg rfl rfl rfl rfl rfl rfl ?_
                  refine Gq.val rfl rfl rfl (val_pickF rfl rfl rfl) ?_
                  refine Gq.val rfl rfl rfl (val_move rfl rfl) ?_
                  refine Gq.skipg rfl rfl rfl rfl rfl rfl ?_
                  refine Gq.skipg rfl rfl rfl rfl rfl rfl ?_
                  refine Gq.skipg rfl rfl rfl rfl rfl rfl ?_
                  refine Gq.skipg rfl rfl rfl rfl rfl rfl ?_
                  refine Gq.skipg rfl rfl rfl rfl rfl rfl ?_
                  refine Gq.skipg rfl rfl rfl rfl rfl rfl ?_
                  refine Gq.skipg rfl rfl rfl rfl rfl rfl ?_
                  refine Gq.skipg rfl rfl rfl rfl rfl rfl ?_
                  refine Gq.skipg rfl rfl rfl rfl rfl rfl ?_
                  refine Gq.skipg rfl rfl rfl rfl rfl rfl ?_
                  refine Gq.skipg rfl rfl rfl rfl rfl rfl ?_
                  refine Gq.val rfl rfl rfl (val_pickF rfl rfl rfl) ?_
                  refine Gq.done ?_
                  refine Gx.thenN ?_
                  refine Gx.f rfl ?_
                  refine Gx.skip ?_
                  refine Gx.blkN ?_
                  refine Gx.thenN ?_
                  refine Gx.region ?_
                  refine Gx.val rfl rfl rfl (val_move rfl rfl) ?_
                  refine Gx.val rfl rfl rfl (val_add rfl rfl rfl (r := ((b + 1 : Nat) : Int)) (w64 (by omega) (by omega))) ?_
                  refine Gx.val rfl rfl rfl (val_assign rfl rfl) ?_
                  refine Gx.done ?_
                  refine Gx.thenN ?_
                  exact Gx.round (b + 1) (by first | omega | (dsimp only; omega)) (by first | omega | (dsimp only; omega)) ((.cons rfl (.cons rfl (.cons rfl (.cons rfl (.cons rfl .nil)))))) rfl
              · refine Gq.skipg rfl rfl rfl rfl rfl rfl ?_
                refine Gq.skipg rfl rfl rfl rfl rfl rfl ?_
                refine Gq.skipg rfl rfl rfl rfl rfl rfl ?_
                refine Gq.skipg rfl rfl rfl rfl rfl rfl ?_
                refine Gq.val rfl rfl rfl (val_pickF rfl rfl rfl) ?_
                refine Gq.val rfl rfl rfl (val_move rfl rfl) ?_
                refine Gq.skipg rfl rfl rfl rfl rfl rfl ?_
                refine Gq.skipg rfl rfl rfl rfl rfl rfl ?_
                refine Gq.skipg rfl rfl rfl rfl rfl rfl ?_
                refine Gq.skipg rfl rfl rfl rfl rfl rfl ?_
                refine Gq.skipg rfl rfl rfl rfl rfl rfl ?_
                refine Gq.val rfl rfl rfl (val_pickF rfl rfl rfl) ?_
                refine Gq.val rfl rfl rfl (val_move rfl rfl) ?_
                refine Gq.skipg rfl rfl rfl rfl rfl rfl ?_
                refine Gq.skipg rfl rfl rfl rfl rfl rfl ?_
                refine Gq.skipg rfl rfl rfl rfl rfl rfl ?_
                refine Gq.skipg rfl rfl rfl rfl rfl rfl ?_
                refine Gq.skipg rfl rfl rfl rfl rfl rfl ?_
                refine Gq.val rfl rfl rfl (val_pickF rfl rfl rfl) ?_
                refine Gq.val rfl rfl rfl (val_move rfl rfl) ?_
                refine Gq.skipg rfl rfl rfl rfl rfl rfl ?_
                refine Gq.skipg rfl rfl rfl rfl rfl rfl ?_
                refine Gq.skipg rfl rfl rfl rfl rfl rfl ?_
                refine Gq.skipg rfl rfl rfl rfl rfl rfl ?_
                refine Gq.skipg rfl rfl rfl rfl rfl rfl ?_
                refine Gq.skipg rfl rfl rfl rfl rfl rfl ?_
                refine Gq.skipg rfl rfl rfl rfl rfl rfl ?_
                refine Gq.skipg rfl rfl rfl rfl rfl rfl ?_
                refine Gq.skipg rfl rfl rfl rfl rfl rfl ?_
                refine Gq.skipg rfl rfl rfl rfl rfl rfl ?_
                refine Gq.skipg rfl rfl rfl rfl rfl rfl ?_
                refine Gq.val rfl rfl rfl (val_pickF rfl rfl rfl) ?_
                refine Gq.done ?_
                refine Gx.thenN ?_
                refine Gx.f rfl ?_
                refine Gx.skip ?_
                refine Gx.blkN ?_
                refine Gx.thenN ?_
                refine Gx.region ?_
                refine Gx.val rfl rfl rfl (val_move rfl rfl) ?_
                refine Gx.val rfl rfl rfl (val_add rfl rfl rfl (r := ((b + 1 : Nat) : Int)) (w64 (by omega) (by omega))) ?_
                refine Gx.val rfl rfl rfl (val_assign rfl rfl) ?_
                refine Gx.done ?_
                refine Gx.thenN ?_
                exact Gx.round (b + 1) (by first | omega | (dsimp only; omega)) (by first | omega | (dsimp only; omega)) ((.cons rfl (.cons rfl (.cons rfl (.cons rfl (.cons rfl .nil)))))) rfl
            · refine Gx.exit ?_
              refine Gx.thenE ?_
              refine Gx.thenE ?_
              refine Gx.blkE ?_
              refine Gx.blkN ?_
              refine Gx.thenN ?_
              refine Gx.region ?_
              refine Gx.val rfl rfl rfl (val_move rfl rfl) ?_
              refine Gx.val rfl rfl rfl (val_add rfl rfl rfl (r := ((a + 1 : Nat) : Int)) (w64 (by omega) (by omega))) ?_
              refine Gx.val rfl rfl rfl (val_assign rfl rfl) ?_
              refine Gx.done ?_
              refine Gx.thenN ?_
              exact Gx.round (a + 1) (by first | omega | (dsimp only; omega)) (by first | omega | (dsimp only; omega)) ((.cons rfl (.cons rfl (.cons rfl (.cons rfl .nil))))) rfl
          · refine Gx.exit ?_
            refine Gx.thenE ?_
            refine Gx.thenE ?_
            refine Gx.blkE ?_
            refine Gx.thenN ?_
            refine Gx.seq ?_
            refine Gx.region ?_
            refine Gx.val rfl rfl rfl (val_assign rfl rfl) ?_
            refine Gx.done ?_
            refine Gx.thenN ?_
            refine Gx.ret ?_
            refine Gx.ret1B hW6 Try.results3 rfl ?_
            rfl
      · refine Gx.skip ?_
        refine Gx.thenN ?_
        refine Gx.seq ?_
        refine Gx.seq ?_
        refine Gx.region ?_
        refine Gx.val rfl rfl rfl (val_assign rfl rfl) ?_
        refine Gx.done ?_
        refine Gx.thenN ?_
        refine Gx.block ?_
        refine Gx.loop (ι := Nat) (fun ξ => (ξ ≤ c.n)) (fun ξ => [(0, .int .i64 ((c.n : Nat) : Int)), (2, .int .u32 ((c.L : Nat) : Int)), (11, ptr b17 0), (18, .int .i64 ((ξ : Nat) : Int))]) (fun ξ => [Hp.rec_ b17 [.slice sa8 sn9 sc10, .slice sa11 sn12 sc13, .slice sa14 sn15 sc16, .int .i64 (((stB c (bs0 c.n) cs).all.length : Nat) : Int), .int .i64 ((notC (stB c (bs0 c.n) cs).all : Nat) : Int)]]) (fun ξ => c.n - ξ) 0 (by first | omega | (dsimp only; omega)) ((.cons rfl (.cons rfl (.cons rfl (.cons rfl .nil))))) rfl ?_
        rintro a ha
        refine Gx.know (m' := [(0, .int .i64 ((c.n : Nat) : Int)), (2, .int .u32 ((c.L : Nat) : Int)), (11, ptr b17 0), (18, .int .i64 ((a : Nat) : Int))]) (.cons rfl (.cons rfl (.cons rfl (.cons rfl .nil)))) (Gx.norm (l' := [Hp.rec_ b17 [.slice sa8 sn9 sc10, .slice sa11 sn12 sc13, .slice sa14 sn15 sc16, .int .i64 (((stB c (bs0 c.n) cs).all.length : Nat) : Int), .int .i64 ((notC (stB c (bs0 c.n) cs).all : Nat) : Int)]]) rfl ?_)
        refine Gx.seq ?_
        refine Gx.seq ?_
        refine Gx.region ?_
        refine Gx.val rfl rfl rfl (val_move rfl rfl) ?_
        refine Gx.val rfl rfl rfl (val_move rfl rfl) ?_
        refine Gx.val rfl rfl rfl (val_lss rfl rfl rfl) ?_
        refine Gx.done ?_
        refine Gx.thenN ?_
        refine Gx.dec rfl (fun h41 => ?_) (fun h41 => ?_)
        · refine Gx.skip ?_
          refine Gx.thenN ?_
          refine Gx.seq ?_
          refine Gx.block ?_
          refine Gx.seq ?_
          refine Gx.region ?_
          refine Gx.val rfl rfl rfl (val_assign rfl rfl) ?_
          refine Gx.done ?_
          refine Gx.thenN ?_
          refine Gx.block ?_
          refine Gx.loop (ι := Nat) (fun ξ => (ξ ≤ c.n)) (fun ξ => [(0, .int .i64 ((c.n : Nat) : Int)), (2, .int .u32 ((c.L : Nat) : Int)), (11, ptr b17 0), (18, .int .i64 ((a : Nat) : Int)), (19, .int .i64 ((ξ : Nat) : Int))]) (fun ξ => [Hp.rec_ b17 [.slice sa8 sn9 sc10, .slice sa11 sn12 sc13, .slice sa14 sn15 sc16, .int .i64 (((stB c (bs0 c.n) cs).all.length : Nat) : Int), .int .i64 ((notC (stB c (bs0 c.n) cs).all : Nat) : Int)]]) (fun ξ => c.n - ξ) 0 (by first | omega | (dsimp only; omega)) ((.cons rfl (.cons rfl (.cons rfl (.cons rfl (.cons rfl .nil)))))) rfl ?_
          rintro b hb
          refine Gx.know (m' := [(0, .int .i64 ((c.n : Nat) : Int)), (2, .int .u32 ((c.L : Nat) : Int)), (11, ptr b17 0), (18, .int .i64 ((a : Nat) : Int)), (19, .int .i64 ((b : Nat) : Int))]) (.cons rfl (.cons rfl (.cons rfl (.cons rfl (.cons rfl .nil))))) (Gx.norm (l' := [Hp.rec_ b17 [.slice sa8 sn9 sc10, .slice sa11 sn12 sc13, .slice sa14 sn15 sc16, .int .i64 (((stB c (bs0 c.n) cs).all.length : Nat) : Int), .int .i64 ((notC (stB c (bs0 c.n) cs).all : Nat) : Int)]]) rfl ?_)
          refine Gx.seq ?_
          refine Gx.seq ?_
          refine Gx.region ?_
          refine Gx.val rfl rfl rfl (val_move rfl rfl) ?_
          refine Gx.val rfl rfl rfl (val_move rfl rfl) ?_
          refine Gx.val rfl rfl rfl (val_lss rfl rfl rfl) ?_
          refine Gx.done ?_
          refine Gx.thenN ?_
          refine Gx.dec rfl (fun h42 => ?_) (fun h42 => ?_)
          · refine Gx.skip ?_
            refine Gx.thenN ?_
            refine Gx.seq ?_
            refine Gx.block ?_
            refine Gx.seq ?_
            obtain ⟨p43, hp43⟩ := get_of_lt (xs := (stB c (bs0 c.n) cs).ps) (k := a) (by omega)
            have hp43h : ((stB c (bs0 c.n) cs).ps.map Pr.has)[a]? = some p43.has := by rw [List.getElem?_map, hp43]; rfl
            have hp43v : ((stB c (bs0 c.n) cs).ps.map Pr.val)[a]? = some p43.val := by rw [List.getElem?_map, hp43]; rfl
            obtain ⟨p44, hp44⟩ := get_of_lt (xs := (stB c (bs0 c.n) cs).ps) (k := b) (by omega)
            have hp44h : ((stB c (bs0 c.n) cs).ps.map Pr.has)[b]? = some p44.has := by rw [List.getElem?_map, hp44]; rfl
            have hp44v : ((stB c (bs0 c.n) cs).ps.map Pr.val)[b]? = some p44.val := by rw [List.getElem?_map, hp44]; rfl
            refine Gx.regionQ Try.mixed (by kernel_rfl) ?_
            refine Gq.val rfl rfl rfl (val_move rfl rfl) ?_
            refine Gq.val rfl rfl rfl (val_move rfl rfl) ?_
            refine Gq.val rfl rfl rfl (val_call (vs := [.int .u32 ((c.L : Nat) : Int), .int .i64 ((a : Nat) : Int)]) rfl Try.fn9 rfl (fun w H => bit_c hL (by omega))) ?_
            refine Gq.val rfl rfl rfl (val_not rfl rfl) ?_
            refine Gq.val rfl rfl rfl (val_move rfl rfl) ?_
            refine Gq.casesB (t := 128) rfl (fun h45 => ?_) (fun h45 => ?_)
            · refine Gq.valg rfl rfl rfl rfl rfl (val_move rfl rfl) ?_
              refine Gq.valg rfl rfl rfl rfl rfl (val_move rfl rfl) ?_
              refine Gq.valg rfl rfl rfl rfl rfl (val_call (vs := [.int .u32 ((c.L : Nat) : Int), .int .i64 ((b : Nat) : Int)]) rfl Try.fn9 rfl (fun w H => bit_c hL (by omega))) ?_
              refine Gq.valg rfl rfl rfl rfl rfl (val_not rfl rfl) ?_
              refine Gq.val rfl rfl rfl (val_pickT rfl rfl rfl) ?_
              refine Gq.val rfl rfl rfl (val_move rfl rfl) ?_
              refine Gq.casesB (t := 134) rfl (fun h46 => ?_) (fun h46 => ?_)
              · refine Gq.valg rfl rfl rfl rfl rfl (Val.cast (val_fieldAddr rfl Try.underlying28 rfl Try.ty25 rfl rfl) (v' := ptr b17 1) rfl) ?_
                refine Gq.valg rfl rfl rfl rfl rfl (val_load rfl Try.ty25 rfl rfl (cell_rec (k := 0) rfl rfl)) ?_
                refine Gq.valg rfl rfl rfl rfl rfl (val_move rfl rfl) ?_
                refine Gq.valg rfl rfl rfl rfl rfl (val_ixa rfl Try.underlying25 Try.ty4 rfl rfl (j := a) (rfl) (reach_base hwv2 hp43h)) ?_
                refine Gq.valg rfl rfl rfl rfl rfl (val_load rfl Try.ty4 rfl rfl (cell_base (i := 0) hwv2 hp43h rfl)) ?_
                refine Gq.val rfl rfl rfl (val_pickT rfl rfl rfl) ?_
                refine Gq.val rfl rfl rfl (val_move rfl rfl) ?_
                refine Gq.casesB (t := 141) rfl (fun h47 => ?_) (fun h47 => ?_)
                · refine Gq.valg rfl rfl rfl rfl rfl (Val.cast (val_fieldAddr rfl Try.underlying28 rfl Try.ty25 rfl rfl) (v' := ptr b17 1) rfl) ?_
                  refine Gq.valg rfl rfl rfl rfl rfl (val_load rfl Try.ty25 rfl rfl (cell_rec (k := 0) rfl rfl)) ?_
                  refine Gq.valg rfl rfl rfl rfl rfl (val_move rfl rfl) ?_
                  refine Gq.valg rfl rfl rfl rfl rfl (val_ixa rfl Try.underlying25 Try.ty4 rfl rfl (j := b) (rfl) (reach_base hwv2 hp44h)) ?_
                  refine Gq.valg rfl rfl rfl rfl rfl (val_load rfl Try.ty4 rfl rfl (cell_base (i := 0) hwv2 hp44h rfl)) ?_
                  refine Gq.val rfl rfl rfl (val_pickT rfl rfl rfl) ?_
                  refine Gq.val rfl rfl rfl (val_move rfl rfl) ?_
                  refine Gq.casesB (t := 148) rfl (fun h48 => ?_) (fun h48 => ?_)
                  · refine Gq.valg rfl rfl rfl rfl rfl (Val.cast (val_fieldAddr rfl Try.underlying28 rfl Try.ty26 rfl rfl) (v' := ptr b17 2) rfl) ?_
                    refine Gq.valg rfl rfl rfl rfl rfl (val_load rfl Try.ty26 rfl rfl (cell_rec (k := 0) rfl rfl)) ?_
                    refine Gq.valg rfl rfl rfl rfl rfl (val_move rfl rfl) ?_
                    refine Gq.valg rfl rfl rfl rfl rfl (val_ixa rfl Try.underlying26 Try.ty2 rfl rfl (j := a) (rfl) (reach_base huv3 hp43v)) ?_
                    refine Gq.valg rfl rfl rfl rfl rfl (val_load rfl Try.ty2 rfl rfl (cell_base (i := 0) huv3 hp43v rfl)) ?_
                    refine Gq.valg rfl rfl rfl rfl rfl (Val.cast (val_fieldAddr rfl Try.underlying28 rfl Try.ty26 rfl rfl) (v' := ptr b17 2) rfl) ?_
                    refine Gq.valg rfl rfl rfl rfl rfl (val_load rfl Try.ty26 rfl rfl (cell_rec (k := 0) rfl rfl)) ?_
                    refine Gq.valg rfl rfl rfl rfl rfl (val_move rfl rfl) ?_
                    refine Gq.valg rfl rfl rfl rfl rfl (val_ixa rfl Try.underlying26 Try.ty2 rfl rfl (j := b) (rfl) (reach_base huv3 hp44v)) ?_
                    refine Gq.valg rfl rfl rfl rfl rfl (val_load rfl Try.ty2 rfl rfl (cell_base (i := 0) huv3 hp44v rfl)) ?_
                    refine Gq.valg rfl rfl rfl rfl rfl (val_neq rfl rfl rfl) ?_
                    refine Gq.val rfl rfl rfl (val_pickT rfl rfl rfl) ?_
                    refine Gq.done ?_
                    refine Gx.thenN ?_
                    refine Gx.decF rfl (fun q => q (hag.2 _ _ _ _ hp43 hp44 h47 h48)) ?_
                    refine Gx.skip ?_
                    refine Gx.blkN ?_
                    refine Gx.thenN ?_
                    refine Gx.region ?_
                    refine Gx.val rfl rfl rfl (val_move rfl rfl) ?_
                    refine Gx.val rfl rfl rfl (val_add rfl rfl rfl (r := ((b + 1 : Nat) : Int)) (w64 (by omega) (by omega))) ?_
                    refine Gx.val rfl rfl rfl (val_assign rfl rfl) ?_
                    refine Gx.done ?_
                    refine Gx.thenN ?_
                    exact Gx.round (b + 1) (by first | omega | (dsimp only; omega)) (by first | omega | (dsimp only; omega)) ((.cons rfl (.cons rfl (.cons rfl (.cons rfl (.cons rfl .nil)))))) rfl
                  · refine Gq.skipg rfl rfl rfl rfl rfl rfl ?_
                    refine Gq.skipg rfl rfl rfl rfl rfl rfl ?_
                    refine Gq.skipg rfl rfl rfl rfl rfl rfl ?_
                    refine Gq.skipg rfl rfl rfl rfl rfl rfl ?_
                    refine Gq.skipg rfl rfl rfl rfl rfl rfl ?_
                    refine Gq.skipg rfl rfl rfl rfl rfl rfl ?_
                    refine Gq.skipg rfl rfl rfl rfl rfl rfl ?_
                    refine Gq.skipg rfl rfl rfl rfl rfl rfl ?_
                    refine Gq.skipg rfl rfl rfl rfl rfl rfl ?_
                    refine Gq.skipg rfl rfl rfl rfl rfl rfl ?_
                    refine Gq.skipg rfl rfl rfl rfl rfl rfl ?_
                    refine Gq.val rfl rfl rfl (val_pickF rfl rfl rfl) ?_
                    refine Gq.done ?_
                    refine Gx.thenN ?_
                    refine Gx.f rfl ?_
                    refine Gx.skip ?_
                    refine Gx.blkN ?_
                    refine Gx.thenN ?_
                    refine Gx.region ?_
                    refine Gx.val rfl rfl rfl (val_move rfl rfl) ?_
                    refine Gx.val rfl rfl rfl (val_add rfl rfl rfl (r := ((b + 1 : Nat) : Int)) (w64 (by omega) (by omega))) ?_
                    refine Gx.val rfl rfl rfl (val_assign rfl rfl) ?_
                    refine Gx.done ?_
                    refine Gx.thenN ?_
                    exact Gx.round (b + 1) (by first | omega | (dsimp only; omega)) (by first | omega | (dsimp only; omega)) ((.cons rfl (.cons rfl (.cons rfl (.cons rfl (.cons rfl .nil)))))) rfl
                · refine Gq.skipg rfl rfl rfl rfl rfl rfl ?_
                  refine Gq.skipg rfl rfl rfl rfl rfl rfl ?_
                  refine Gq.skipg rfl rfl rfl rfl rfl rfl ?_
                  refine Gq.skipg rfl rfl rfl rfl rfl rfl ?_
                  refine Gq.skipg rfl rfl rfl rfl rfl rfl ?_
                  refine Gq.val rfl rfl rfl (val_pickF rfl rfl rfl) ?_
                  refine Gq.val rfl rfl rfl (val_move rfl rfl) ?_
                  refine Gq.skipg rfl rfl rfl rfl rfl rfl ?_
                  refine Gq.skipg rfl rfl rfl rfl rfl rfl ?_
                  refine Gq.skipg rfl rfl rfl rfl rfl rfl ?_
                  refine Gq.skipg rfl rfl rfl rfl rfl rfl ?_
                  refine Gq.skipg rfl rfl rfl rfl rfl rfl ?_
                  refine Gq.skipg rfl rfl rfl rfl rfl rfl ?_
                  refine Gq.skipg rfl rfl rfl rfl rfl rfl ?_
                  refine Gq.skipg rfl rfl rfl rfl rfl rfl ?_
                  refine Gq.skipg rfl rfl rfl rfl rfl rfl ?_
                  refine Gq.skipg rfl rfl rfl rfl rfl rfl ?_
                  refine Gq.skipg rfl rfl rfl rfl rfl rfl ?_
                  refine Gq.val rfl rfl rfl (val_pickF rfl rfl rfl) ?_
                  refine Gq.done ?_
                  refine Gx.thenN ?_
                  refine Gx.f rfl ?_
                  refine Gx.skip ?_
                  refine Gx.blkN ?_
                  refine Gx.thenN ?_
                  refine Gx.region ?_
                  refine Gx.val rfl rfl rfl (val_move rfl rfl) ?_
                  refine Gx.val rfl rfl rfl (val_add rfl rfl rfl (r := ((b + 1 : Nat) : Int)) (w64 (by omega) (by omega))) ?_
                  refine Gx.val rfl rfl rfl (val_assign rfl rfl) ?_
                  refine Gx.done ?_
                  refine Gx.thenN ?_
                  exact Gx.round (b + 1) (by first | omega | (dsimp only; omega)) (by first | omega | (dsimp only; omega)) ((.cons rfl (.cons rfl (.cons rfl (.cons rfl (.cons rfl .nil)))))) rfl
              · refine Gq.skipg rfl rfl rfl rfl rfl rfl ?_
                refine Gq.skipg rfl rfl rfl rfl rfl rfl ?_
                refine Gq.skipg rfl rfl rfl rfl rfl rfl ?_
                refine Gq.skipg rfl rfl rfl rfl rfl rfl ?_
                refine Gq.skipg rfl rfl rfl rfl rfl rfl ?_
                refine Gq.val rfl rfl rfl (val_pickF rfl rfl rfl) ?_
                refine Gq.val rfl rfl rfl (val_move rfl rfl) ?_
                refine Gq.skipg rfl rfl rfl rfl rfl rfl ?_
                refine Gq.skipg rfl rfl rfl rfl rfl rfl ?_
                refine Gq.skipg rfl rfl rfl rfl rfl rfl ?_
                refine Gq.skipg rfl rfl rfl rfl rfl rfl ?_
                refine Gq.skipg rfl rfl rfl rfl rfl rfl ?_
                refine Gq.val rfl rfl rfl (val_pickF rfl rfl rfl) ?_
                refine Gq.val rfl rfl rfl (val_move rfl rfl) ?_
                refine Gq.skipg rfl rfl rfl rfl rfl rfl ?_
                refine Gq.skipg rfl rfl rfl rfl rfl rfl ?_
                refine Gq.skipg rfl rfl rfl rfl rfl rfl ?_
                refine Gq.skipg rfl rfl rfl rfl rfl rfl ?_
                refine Gq.skipg rfl rfl rfl rfl rfl rfl ?_
                refine Gq.skipg rfl rfl rfl rfl rfl rfl ?_
                refine Gq.skipg rfl rfl rfl rfl rfl rfl ?_
                refine Gq.skipg rfl rfl rfl rfl rfl rfl ?_
                refine Gq.skipg rfl rfl rfl rfl rfl rfl ?_
                refine Gq.skipg rfl rfl rfl rfl rfl rfl ?_
                refine Gq.skipg rfl rfl rfl rfl rfl rfl ?_
                refine Gq.val rfl rfl rfl (val_pickF rfl rfl rfl) ?_
                refine Gq.done ?_
                refine Gx.thenN ?_
                refine Gx.f rfl ?_
                refine Gx.skip ?_
                refine Gx.blkN ?_
                refine Gx.thenN ?_
                refine Gx.region ?_
                refine Gx.val rfl rfl rfl (val_move rfl rfl) ?_
                refine Gx.val rfl rfl rfl (val_add rfl rfl rfl (r := ((b + 1 : Nat) : Int)) (w64 (by omega) (by omega))) ?_
                refine Gx.val rfl rfl rfl (val_assign rfl rfl) ?_
                refine Gx.done ?_
                refine Gx.thenN ?_
                exact Gx.round (b + 1) (by first | omega | (dsimp only; omega)) (by first | omega | (dsimp only; omega)) ((.cons rfl (.cons rfl (.cons rfl (.cons rfl (.cons rfl .nil)))))) rfl
            · refine Gq.skipg rfl rfl rfl rfl rfl rfl ?_
              refine Gq.skipg rfl rfl rfl rfl rfl rfl ?_
              refine Gq.skipg rfl rfl rfl rfl rfl rfl ?_
              refine Gq.skipg rfl rfl rfl rfl rfl rfl ?_
              refine Gq.val rfl rfl rfl (val_pickF rfl rfl rfl) ?_
              refine Gq.val rfl rfl rfl (val_move rfl rfl) ?_
              refine Gq.skipg rfl rfl rfl rfl rfl rfl ?_
              refine Gq.skipg rfl rfl rfl rfl rfl rfl ?_
              refine Gq.skipg rfl rfl rfl rfl rfl rfl ?_
              refine Gq.skipg rfl rfl rfl rfl rfl rfl ?_
              refine Gq.skipg rfl rfl rfl rfl rfl rfl ?_
              refine Gq.val rfl rfl rfl (val_pickF rfl rfl rfl) ?_
              refine Gq.val rfl rfl rfl (val_move rfl rfl) ?_
              refine Gq.skipg rfl rfl rfl rfl rfl rfl ?_
              refine Gq.skipg rfl rfl rfl rfl rfl rfl ?_
              refine Gq.skipg rfl rfl rfl rfl rfl rfl ?_
              refine Gq.skipg rfl rfl rfl rfl rfl rfl ?_
              refine Gq.skipg rfl rfl rfl rfl rfl rfl ?_
              refine Gq.val rfl rfl rfl (val_pickF rfl rfl rfl) ?_
              refine Gq.val rfl rfl rfl (val_move rfl rfl) ?_
              refine Gq.skipg rfl rfl rfl rfl rfl rfl ?_
              refine Gq.skipg rfl rfl rfl rfl rfl rfl ?_
              refine Gq.skipg rfl rfl rfl rfl rfl rfl ?_
              refine Gq.skipg rfl rfl rfl rfl rfl rfl ?_
              refine Gq.skipg rfl rfl rfl rfl rfl rfl ?_
              refine Gq.skipg rfl rfl rfl rfl rfl rfl ?_
              refine Gq.skipg rfl rfl rfl rfl rfl rfl ?_
              refine Gq.skipg rfl rfl rfl rfl rfl rfl ?_
              refine Gq.skipg rfl rfl rfl rfl rfl rfl ?_
              refine Gq.skipg rfl rfl rfl rfl rfl rfl ?_
              refine Gq.skipg rfl rfl rfl rfl rfl rfl ?_
              refine Gq.val rfl rfl rfl (val_pickF rfl rfl rfl) ?_
              refine Gq.done ?_
              refine Gx.thenN ?_
              refine Gx.f rfl ?_
              refine Gx.skip ?_
              refine Gx.blkN ?_
              refine Gx.thenN ?_
              refine Gx.region ?_
              refine Gx.val rfl rfl rfl (val_move rfl rfl) ?_
              refine Gx.val rfl rfl rfl (val_add rfl rfl rfl (r := ((b + 1 : Nat) : Int)) (w64 (by omega) (by omega))) ?_
              refine Gx.val rfl rfl rfl (val_assign rfl rfl) ?_
              refine Gx.done ?_
              refine Gx.thenN ?_
              exact Gx.round (b + 1) (by first | omega | (dsimp only; omega)) (by first | omega | (dsimp only; omega)) ((.cons rfl (.cons rfl (.cons rfl (.cons rfl (.cons rfl .nil)))))) rfl
          · refine Gx.exit ?_
            refine Gx.thenE ?_
            refine Gx.thenE ?_
            refine Gx.blkE ?_
            refine Gx.blkN ?_
            refine Gx.thenN ?_
            refine Gx.region ?_
            refine Gx.val rfl rfl rfl (val_move rfl rfl) ?_
            refine Gx.val rfl rfl rfl (val_add rfl rfl rfl (r := ((a + 1 : Nat) : Int)) (w64 (by omega) (by omega))) ?_
            refine Gx.val rfl rfl rfl (val_assign rfl rfl) ?_
            refine Gx.done ?_
            refine Gx.thenN ?_
            exact Gx.round (a + 1) (by first | omega | (dsimp only; omega)) (by first | omega | (dsimp only; omega)) ((.cons rfl (.cons rfl (.cons rfl (.cons rfl .nil))))) rfl
        · refine Gx.exit ?_
          refine Gx.thenE ?_
          refine Gx.thenE ?_
          refine Gx.blkE ?_
          refine Gx.thenN ?_
          refine Gx.seq ?_
          refine Gx.region ?_
          refine Gx.val rfl rfl rfl (val_assign rfl rfl) ?_
          refine Gx.done ?_
          refine Gx.thenN ?_
          refine Gx.ret ?_
          refine Gx.ret1B hW6 Try.results3 rfl ?_
          rfl

theorem agrees_any {W : World} {k f d z : Int} {sv : Value} {cs : List Mv} (hz0 : 0 ≤ z) (hz1 : z < 4294967296) (hs : SlS FM 6 W sv cs) :
    Calls Try.prog 3 #[.int .i64 k, .int .i64 f, .int .u32 z, .int .i64 d, sv] W fun e w' => e = .returned (.bool true) ∧ Below W.heap.size W w' := by
  obtain ⟨L, rfl⟩ : ∃ L : Nat, z = (L : Int) := ⟨z.toNat, by omega⟩
  have hL : L < 4294967296 := by omega
  by_cases h : Valid k f L d cs
  · obtain ⟨h1, h2, h3, h4, h5, h6, h7, h8⟩ := h
    obtain ⟨n, rfl⟩ : ∃ n : Nat, k = (n : Int) := ⟨k.toNat, by omega⟩
    obtain ⟨f', rfl⟩ : ∃ f' : Nat, f = (f' : Int) := ⟨f.toNat, by omega⟩
    obtain ⟨d', rfl⟩ : ∃ d' : Nat, d = (d' : Int) := ⟨d.toNat, by omega⟩
    rw [Int.toNat_natCast] at h5 h6
    exact agrees_yes (c := ⟨n, f', L, d'⟩) hs (by dsimp only; omega) (by dsimp only; omega) h3 (by dsimp only; omega) h6 hL (by dsimp only; omega)
  · exact agrees_bad hs h
end Go.Proofs.Ytbfcfekpfgpfbaa
