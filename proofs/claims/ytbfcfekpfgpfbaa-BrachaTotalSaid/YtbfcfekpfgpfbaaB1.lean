/- What is held true stays; how many messages there are. The walks. No condition. -/
import Derived.Test.YtbfcfekpfgpfbaaM1
namespace Go.Proofs.Ytbfcfekpfgpfbaa
open Go.RowKit
set_option linter.unusedVariables false
set_option linter.unusedSimpArgs false
set_option maxRecDepth 100000

theorem stB_plen {c : Cf} (hsn : c.snd < c.n) (cs : List Mv) : (stB c (bs0 c.n) cs).ps.length = c.n := by
  have := (BdB.run hsn (cs := cs) cs.length (Nat.le_refl _)).len
  rwa [List.take_length] at this
theorem play_some {W : World} {k f d : Int} {L : Nat} {sv : Value} {cs : List Mv} (hL : L < 4294967296) (hs : SlS FM 6 W sv cs) :
    Calls Try.prog 7 #[.int .i64 k, .int .i64 f, .int .u32 ((L : Nat) : Int), .int .i64 d, sv] W fun e w' => ∃ v, e = .returned v ∧ (∃ (a a' a'' : Option Addr) (m c m' c' m'' c'' : Nat) (z1 z2 z : Int), v = .tuple #[.agg #[.slice a m c, .slice a' m' c', .slice a'' m'' c'', .int .i64 z1, .int .i64 z2], .int .i64 z]) ∧ Below W.heap.size W w' := by
  by_cases h : Valid k f L d cs
  · obtain ⟨h1, h2, h3, h4, h5, h6, h7, h8⟩ := h
    obtain ⟨n, rfl⟩ : ∃ n : Nat, k = (n : Int) := ⟨k.toNat, by omega⟩
    obtain ⟨f', rfl⟩ : ∃ f' : Nat, f = (f' : Int) := ⟨f.toNat, by omega⟩
    obtain ⟨d', rfl⟩ : ∃ d' : Nat, d = (d' : Int) := ⟨d.toNat, by omega⟩
    rw [Int.toNat_natCast] at h5 h6
    refine (play_ok (c := ⟨n, f', L, d'⟩) hs (by dsimp only; omega) (by dsimp only; omega) h3 (by dsimp only; omega) h6 hL (by dsimp only; omega)).mono fun e w' ⟨v, he, ⟨cv, wv, uv, hv, h1, h2, h3⟩, hb⟩ => ⟨v, he, ?_, hb⟩
    obtain ⟨_, _, _, rfl⟩ := h1.isS
    obtain ⟨_, _, _, rfl⟩ := h2.isS
    obtain ⟨_, _, _, rfl⟩ := h3.isS
    exact ⟨_, _, _, _, _, _, _, _, _, _, _, _, hv⟩
  · exact (play_bad hs h).mono fun e w' ⟨v, he, ⟨z, _, hv⟩, hb⟩ => ⟨v, he, ⟨_, _, _, _, _, _, _, _, _, _, _, z, hv⟩, hb⟩
theorem front_bad {W : World} {k f d : Int} {L : Nat} {sv : Value} {kk : Nat} {cs : List Mv} (hs : SlS FM 6 W sv cs) (hbad : ¬ Valid k f L d cs) (hL : L < 4294967296) (hk : kk ≤ 255) :
    Calls Try.prog 5 #[.int .i64 k, .int .i64 f, .int .u32 ((L : Nat) : Int), .int .i64 d, sv, .int .u8 ((kk : Nat) : Int)] W fun e w' => e = .returned (.bool true) ∧ Below W.heap.size W w' := by
  have hk9 := hk
  have hkm := Nat.mod_lt kk (show 0 < cs.length + 1 by omega)
  have hm9 := sls_bd hs
  refine calls_pure (Gx.enter (l := []) Try.func5 rfl Try.ntmps5 rfl (Sat.start W) ?_)
  refine Gx.know (m' := [(0, .int .i64 k), (1, .int .i64 f), (2, .int .u32 ((L : Nat) : Int)), (3, .int .i64 d), (4, sv), (5, .int .u8 ((kk : Nat) : Int))]) (.cons rfl (.cons rfl (.cons rfl (.cons rfl (.cons rfl (.cons rfl .nil)))))) ?_
  refine Gx.seq ?_
  refine Gx.region ?_
  refine Gx.val rfl rfl rfl (val_assign rfl rfl) ?_
  refine Gx.done ?_
  refine Gx.thenN ?_
  refine Gx.seq ?_
  refine Gx.region ?_
  refine Gx.val rfl rfl rfl (val_move rfl rfl) ?_
  refine Gx.val rfl rfl rfl (val_move rfl rfl) ?_
  refine Gx.val rfl rfl rfl (val_move rfl rfl) ?_
  refine Gx.val rfl rfl rfl (val_move rfl rfl) ?_
  refine Gx.val rfl rfl rfl (val_move rfl rfl) ?_
  refine Gx.eff rfl rfl rfl (eff_callE (vs := [.int .i64 k, .int .i64 f, .int .u32 ((L : Nat) : Int), .int .i64 d, sv]) rfl Try.fn7 rfl (R := fun v => ∃ z : Int, z ≠ 0 ∧ v = .tuple #[.agg #[.slice none 0 0, .slice none 0 0, .slice none 0 0, .int .i64 0, .int .i64 0], .int .i64 z]) (fun w H => play_bad (hs.below H.below) hbad)) ?_
  rintro _ _ ⟨⟨zz1, hzz2, rfl⟩, rfl⟩
  refine Gx.val rfl rfl rfl (val_move rfl rfl) ?_
  refine Gx.val rfl rfl rfl (val_extract rfl rfl rfl) ?_
  refine Gx.val rfl rfl rfl (val_extract rfl rfl rfl) ?_
  refine Gx.eff rfl rfl rfl (eff_alloc rfl Try.ty28 (vs := [.slice none 0 0, .slice none 0 0, .slice none 0 0, .int .i64 0, .int .i64 0]) rfl) ?_
  rintro _ _ ⟨b3, rfl, rfl⟩
  refine Gx.eff0 rfl rfl (eff_store rfl Try.ty28 rfl rfl (us := [.slice none 0 0, .slice none 0 0, .slice none 0 0, .int .i64 0, .int .i64 0]) rfl rfl rfl (k := 0) rfl (rfl) (vs' := [.slice none 0 0, .slice none 0 0, .slice none 0 0, .int .i64 0, .int .i64 0]) (rfl) (l' := [Hp.rec_ b3 [.slice none 0 0, .slice none 0 0, .slice none 0 0, .int .i64 0, .int .i64 0]]) rfl) ?_
  rintro _ _ rfl
  refine Gx.val rfl rfl rfl (val_assign rfl rfl) ?_
  refine Gx.done ?_
  refine Gx.thenN ?_
  refine Gx.seq ?_
  refine Gx.region ?_
  refine Gx.val rfl rfl rfl (val_move rfl rfl) ?_
  refine Gx.val rfl rfl rfl (val_conv rfl Try.underlying5 Try.underlying3 rfl (r := ((kk : Nat) : Int)) (w64 rfl (by omega))) ?_
  refine Gx.val rfl rfl rfl (val_move rfl rfl) ?_
  refine Gx.val rfl rfl rfl (val_len rfl Try.underlying23 rfl (len_base hs)) ?_
  refine Gx.val rfl rfl rfl (val_add rfl rfl rfl (r := ((cs.length + 1 : Nat) : Int)) (w64 (by omega) (by omega))) ?_
  refine Gx.val rfl rfl rfl (val_rem rfl rfl rfl (r := ((kk % (cs.length + 1) : Nat) : Int)) (by omega) (rfl)) ?_
  refine Gx.val rfl rfl rfl (val_assign rfl rfl) ?_
  refine Gx.done ?_
  refine Gx.thenN ?_
  refine Gx.seq ?_
  refine Gx.region ?_
  refine Gx.val rfl rfl rfl (val_move rfl rfl) ?_
  refine Gx.val rfl rfl rfl (val_move rfl rfl) ?_
  refine Gx.val rfl rfl rfl (val_move rfl rfl) ?_
  refine Gx.val rfl rfl rfl (val_move rfl rfl) ?_
  refine Gx.val rfl rfl rfl (val_move rfl rfl) ?_
  refine Gx.val rfl rfl rfl (val_move rfl rfl) ?_
  have hcut4 : SlS FM 6 W (sCut 6 0 (kk % (cs.length + 1)) sv) (cs.take (kk % (cs.length + 1))) := (hs).cut (lo := 0) (hi := kk % (cs.length + 1)) (by omega) (by omega)
  refine Gx.val rfl rfl rfl (val_cutTo (up := kk % (cs.length + 1)) rfl Try.underlying23 Try.ty34 rfl hs rfl (rfl) (by omega)) ?_
  refine Gx.eff rfl rfl rfl (eff_callE (vs := [.int .i64 k, .int .i64 f, .int .u32 ((L : Nat) : Int), .int .i64 d, sCut 6 0 (kk % (cs.length + 1)) sv]) rfl Try.fn7 rfl (R := fun v => ∃ (a a' a'' : Option Addr) (m c m' c' m'' c'' : Nat) (z1 z2 z : Int), v = .tuple #[.agg #[.slice a m c, .slice a' m' c', .slice a'' m'' c'', .int .i64 z1, .int .i64 z2], .int .i64 z]) (fun w H => play_some hL (hcut4.below H.below))) ?_
  rintro _ _ ⟨⟨za8, za9, za10, za11, za12, za13, za14, za15, za16, zz5, zz6, zz7, rfl⟩, rfl⟩
  refine Gx.val rfl rfl rfl (val_move rfl rfl) ?_
  refine Gx.val rfl rfl rfl (val_extract rfl rfl rfl) ?_
  refine Gx.val rfl rfl rfl (val_extract rfl rfl rfl) ?_
  refine Gx.eff rfl rfl rfl (eff_alloc rfl Try.ty28 (vs := [.slice none 0 0, .slice none 0 0, .slice none 0 0, .int .i64 0, .int .i64 0]) rfl) ?_
  rintro _ _ ⟨b17, rfl, rfl⟩
  refine Gx.eff0 rfl rfl (eff_store rfl Try.ty28 rfl rfl (us := [.slice za8 za11 za12, .slice za9 za13 za14, .slice za10 za15 za16, .int .i64 zz5, .int .i64 zz6]) rfl rfl rfl (k := 0) rfl (rfl) (vs' := [.slice za8 za11 za12, .slice za9 za13 za14, .slice za10 za15 za16, .int .i64 zz5, .int .i64 zz6]) (rfl) (l' := [Hp.rec_ b17 [.slice za8 za11 za12, .slice za9 za13 za14, .slice za10 za15 za16, .int .i64 zz5, .int .i64 zz6], Hp.rec_ b3 [.slice none 0 0, .slice none 0 0, .slice none 0 0, .int .i64 0, .int .i64 0]]) rfl) ?_
  rintro _ _ rfl
  refine Gx.val rfl rfl rfl (val_assign rfl rfl) ?_
  refine Gx.done ?_
  refine Gx.thenN ?_
  refine Gx.seq ?_
  refine Gx.seq ?_
  refine Gx.region ?_
  refine Gx.val rfl rfl rfl (val_move rfl rfl) ?_
  refine Gx.val rfl rfl rfl (val_neq rfl rfl rfl) ?_
  refine Gx.done ?_
  refine Gx.thenN ?_
  refine Gx.decT rfl (by omega) ?_
  refine Gx.seq ?_
  refine Gx.region ?_
  refine Gx.val rfl rfl rfl (val_assign rfl rfl) ?_
  refine Gx.done ?_
  refine Gx.thenN ?_
  refine Gx.ret ?_
  refine Gx.thenR ?_
  refine Gx.ret1 Try.results5 rfl ?_
  rfl

theorem front_yes {W : World} {c : Cf} {sv : Value} {kk : Nat} {cs : List Mv} (hs : SlS FM 6 W sv cs) (h1n : 1 ≤ c.n) (h7n : c.n ≤ 7) (hcl : cs.length ≤ 120) (hf : c.f ≤ (c.n - 1) / 3) (hLn : c.L >>> c.n = 0) (hL : c.L < 4294967296) (hsn : c.snd < c.n) (hk : kk ≤ 255) :
    Calls Try.prog 5 #[.int .i64 ((c.n : Nat) : Int), .int .i64 ((c.f : Nat) : Int), .int .u32 ((c.L : Nat) : Int), .int .i64 ((c.snd : Nat) : Int), sv, .int .u8 ((kk : Nat) : Int)] W fun e w' => e = .returned (.bool true) ∧ Below W.heap.size W w' := by
  have hk9 := hk
  have hkm := Nat.mod_lt kk (show 0 < cs.length + 1 by omega)
  have hm9 := sls_bd hs
  have hlt : (cs.take (kk % (cs.length + 1))).length = kk % (cs.length + 1) := by rw [List.length_take]; omega
  have hle : LeB (stB c (bs0 c.n) (cs.take (kk % (cs.length + 1)))) (stB c (bs0 c.n) cs) := by
    have := LeB.run c (cs.drop (kk % (cs.length + 1))) (stB c (bs0 c.n) (cs.take (kk % (cs.length + 1))))
    rwa [← stB_app, List.take_append_drop] at this
  have hlea := hle.all
  refine calls_pure (Gx.enter (l := []) Try.func5 rfl Try.ntmps5 rfl (Sat.start W) ?_)
  refine Gx.know (m' := [(0, .int .i64 ((c.n : Nat) : Int)), (1, .int .i64 ((c.f : Nat) : Int)), (2, .int .u32 ((c.L : Nat) : Int)), (3, .int .i64 ((c.snd : Nat) : Int)), (4, sv), (5, .int .u8 ((kk : Nat) : Int))]) (.cons rfl (.cons rfl (.cons rfl (.cons rfl (.cons rfl (.cons rfl .nil)))))) ?_
  refine Gx.seq ?_
  refine Gx.region ?_
  refine Gx.val rfl rfl rfl (val_assign rfl rfl) ?_
  refine Gx.done ?_
  refine Gx.thenN ?_
  refine Gx.seq ?_
  refine Gx.region ?_
  refine Gx.val rfl rfl rfl (val_move rfl rfl) ?_
  refine Gx.val rfl rfl rfl (val_move rfl rfl) ?_
  refine Gx.val rfl rfl rfl (val_move rfl rfl) ?_
  refine Gx.val rfl rfl rfl (val_move rfl rfl) ?_
  refine Gx.val rfl rfl rfl (val_move rfl rfl) ?_
  refine Gx.callB rfl rfl rfl (vs := [.int .i64 ((c.n : Nat) : Int), .int .i64 ((c.f : Nat) : Int), .int .u32 ((c.L : Nat) : Int), .int .i64 ((c.snd : Nat) : Int), sv]) rfl Try.fn7 rfl (R := fun v w' => ∃ (cv wv uv : Value), v = .tuple #[.agg #[cv, wv, uv, .int .i64 (((stB c (bs0 c.n) cs).all.length : Nat) : Int), .int .i64 ((notC (stB c (bs0 c.n) cs).all : Nat) : Int)], .int .i64 0] ∧ SlS FZ 1 w' cv (codesB c (bs0 c.n) cs) ∧ SlS FB 1 w' wv ((stB c (bs0 c.n) cs).ps.map Pr.has) ∧ SlS FI 1 w' uv ((stB c (bs0 c.n) cs).ps.map Pr.val)) (fun w H => play_ok (hs.below H.below) h1n h7n (by omega) hf hLn hL hsn) ?_
  rintro _ W4 ⟨cv1, wv2, uv3, rfl, hcv1, hwv2, huv3⟩ H5
  have hW6 := H5.below
  have hs7 := hs.below H5.below
  have hclcv1 : (codesB c (bs0 c.n) cs).length = (cs).length := codesB_len ..
  have hplcv1 : (stB c (bs0 c.n) cs).ps.length = c.n := stB_plen hsn cs
  have hwlcv1 : ((stB c (bs0 c.n) cs).ps.map Pr.has).length = c.n := by rw [List.length_map]; exact hplcv1
  have hulcv1 : ((stB c (bs0 c.n) cs).ps.map Pr.val).length = c.n := by rw [List.length_map]; exact hplcv1
  obtain ⟨sa8, sn9, sc10, rfl⟩ := hcv1.isS
  obtain ⟨sa11, sn12, sc13, rfl⟩ := hwv2.isS
  obtain ⟨sa14, sn15, sc16, rfl⟩ := huv3.isS
  refine Gx.val rfl rfl rfl (val_move rfl rfl) ?_
  refine Gx.val rfl rfl rfl (val_extract rfl rfl rfl) ?_
  refine Gx.val rfl rfl rfl (val_extract rfl rfl rfl) ?_
  refine Gx.eff rfl rfl rfl (eff_alloc rfl Try.ty28 (vs := [.slice none 0 0, .slice none 0 0, .slice none 0 0, .int .i64 0, .int .i64 0]) rfl) ?_
  rintro _ _ ⟨b17, rfl, rfl⟩
  refine Gx.eff0 rfl rfl (eff_store rfl Try.ty28 rfl rfl (us := [.slice sa8 sn9 sc10, .slice sa11 sn12 sc13, .slice sa14 sn15 sc16, .int .i64 (((stB c (bs0 c.n) cs).all.length : Nat) : Int), .int .i64 ((notC (stB c (bs0 c.n) cs).all : Nat) : Int)]) rfl rfl rfl (k := 0) rfl (rfl) (vs' := [.slice sa8 sn9 sc10, .slice sa11 sn12 sc13, .slice sa14 sn15 sc16, .int .i64 (((stB c (bs0 c.n) cs).all.length : Nat) : Int), .int .i64 ((notC (stB c (bs0 c.n) cs).all : Nat) : Int)]) (rfl) (l' := [Hp.rec_ b17 [.slice sa8 sn9 sc10, .slice sa11 sn12 sc13, .slice sa14 sn15 sc16, .int .i64 (((stB c (bs0 c.n) cs).all.length : Nat) : Int), .int .i64 ((notC (stB c (bs0 c.n) cs).all : Nat) : Int)]]) rfl) ?_
  rintro _ _ rfl
  refine Gx.val rfl rfl rfl (val_assign rfl rfl) ?_
  refine Gx.done ?_
  refine Gx.thenN ?_
  refine Gx.seq ?_
  refine Gx.region ?_
  refine Gx.val rfl rfl rfl (val_move rfl rfl) ?_
  refine Gx.val rfl rfl rfl (val_conv rfl Try.underlying5 Try.underlying3 rfl (r := ((kk : Nat) : Int)) (w64 rfl (by omega))) ?_
  refine Gx.val rfl rfl rfl (val_move rfl rfl) ?_
  refine Gx.val rfl rfl rfl (val_len rfl Try.underlying23 rfl (len_base hs7)) ?_
  refine Gx.val rfl rfl rfl (val_add rfl rfl rfl (r := ((cs.length + 1 : Nat) : Int)) (w64 (by omega) (by omega))) ?_
  refine Gx.val rfl rfl rfl (val_rem rfl rfl rfl (r := ((kk % (cs.length + 1) : Nat) : Int)) (by omega) (rfl)) ?_
  refine Gx.val rfl rfl rfl (val_assign rfl rfl) ?_
  refine Gx.done ?_
  refine Gx.thenN ?_
  refine Gx.seq ?_
  refine Gx.region ?_
  refine Gx.val rfl rfl rfl (val_move rfl rfl) ?_
  refine Gx.val rfl rfl rfl (val_move rfl rfl) ?_
  refine Gx.val rfl rfl rfl (val_move rfl rfl) ?_
  refine Gx.val rfl rfl rfl (val_move rfl rfl) ?_
  refine Gx.val rfl rfl rfl (val_move rfl rfl) ?_
  refine Gx.val rfl rfl rfl (val_move rfl rfl) ?_
  have hcut18 : SlS FM 6 W4 (sCut 6 0 (kk % (cs.length + 1)) sv) (cs.take (kk % (cs.length + 1))) := (hs7).cut (lo := 0) (hi := kk % (cs.length + 1)) (by omega) (by omega)
  refine Gx.val rfl rfl rfl (val_cutTo (up := kk % (cs.length + 1)) rfl Try.underlying23 Try.ty34 rfl hs7 rfl (rfl) (by omega)) ?_
  refine Gx.callB rfl rfl rfl (vs := [.int .i64 ((c.n : Nat) : Int), .int .i64 ((c.f : Nat) : Int), .int .u32 ((c.L : Nat) : Int), .int .i64 ((c.snd : Nat) : Int), sCut 6 0 (kk % (cs.length + 1)) sv]) rfl Try.fn7 rfl (R := fun v w' => ∃ (cv wv uv : Value), v = .tuple #[.agg #[cv, wv, uv, .int .i64 (((stB c (bs0 c.n) (cs.take (kk % (cs.length + 1)))).all.length : Nat) : Int), .int .i64 ((notC (stB c (bs0 c.n) (cs.take (kk % (cs.length + 1)))).all : Nat) : Int)], .int .i64 0] ∧ SlS FZ 1 w' cv (codesB c (bs0 c.n) (cs.take (kk % (cs.length + 1)))) ∧ SlS FB 1 w' wv ((stB c (bs0 c.n) (cs.take (kk % (cs.length + 1)))).ps.map Pr.has) ∧ SlS FI 1 w' uv ((stB c (bs0 c.n) (cs.take (kk % (cs.length + 1)))).ps.map Pr.val)) (fun w H => play_ok (hcut18.below H.below) h1n h7n (by rw [List.length_take]; omega) hf hLn hL hsn) ?_
  rintro _ W22 ⟨cv19, wv20, uv21, rfl, hcv19, hwv20, huv21⟩ H23
  have hW24 := hW6.trans (H23.below.mono hW6.size)
  have hs25 := hs7.below H23.below
  have hs26 := hcv1.below H23.below
  have hs27 := hwv2.below H23.below
  have hs28 := huv3.below H23.below
  have hs29 := hcut18.below H23.below
  have hb30 := (H23.at_ (k := 0) rfl).rec_.1
  have hc31 := (H23.at_ (k := 0) rfl).cell 0 (u := .slice sa8 sn9 sc10) rfl
  have hc32 := (H23.at_ (k := 0) rfl).cell 1 (u := .slice sa11 sn12 sc13) rfl
  have hc33 := (H23.at_ (k := 0) rfl).cell 2 (u := .slice sa14 sn15 sc16) rfl
  have hc34 := (H23.at_ (k := 0) rfl).cell 3 (u := .int .i64 (((stB c (bs0 c.n) cs).all.length : Nat) : Int)) rfl
  have hc35 := (H23.at_ (k := 0) rfl).cell 4 (u := .int .i64 ((notC (stB c (bs0 c.n) cs).all : Nat) : Int)) rfl
  have hclcv19 : (codesB c (bs0 c.n) (cs.take (kk % (cs.length + 1)))).length = ((cs.take (kk % (cs.length + 1)))).length := codesB_len ..
  have hplcv19 : (stB c (bs0 c.n) (cs.take (kk % (cs.length + 1)))).ps.length = c.n := stB_plen hsn (cs.take (kk % (cs.length + 1)))
  have hwlcv19 : ((stB c (bs0 c.n) (cs.take (kk % (cs.length + 1)))).ps.map Pr.has).length = c.n := by rw [List.length_map]; exact hplcv19
  have hulcv19 : ((stB c (bs0 c.n) (cs.take (kk % (cs.length + 1)))).ps.map Pr.val).length = c.n := by rw [List.length_map]; exact hplcv19
  obtain ⟨sa36, sn37, sc38, rfl⟩ := hcv19.isS
  obtain ⟨sa39, sn40, sc41, rfl⟩ := hwv20.isS
  obtain ⟨sa42, sn43, sc44, rfl⟩ := huv21.isS
  refine Gx.val rfl rfl rfl (val_move rfl rfl) ?_
  refine Gx.val rfl rfl rfl (val_extract rfl rfl rfl) ?_
  refine Gx.val rfl rfl rfl (val_extract rfl rfl rfl) ?_
  refine Gx.eff rfl rfl rfl (eff_alloc rfl Try.ty28 (vs := [.slice none 0 0, .slice none 0 0, .slice none 0 0, .int .i64 0, .int .i64 0]) rfl) ?_
  rintro _ _ ⟨b45, rfl, rfl⟩
  refine Gx.eff0 rfl rfl (eff_store rfl Try.ty28 rfl rfl (us := [.slice sa36 sn37 sc38, .slice sa39 sn40 sc41, .slice sa42 sn43 sc44, .int .i64 (((stB c (bs0 c.n) (cs.take (kk % (cs.length + 1)))).all.length : Nat) : Int), .int .i64 ((notC (stB c (bs0 c.n) (cs.take (kk % (cs.length + 1)))).all : Nat) : Int)]) rfl rfl rfl (k := 0) rfl (rfl) (vs' := [.slice sa36 sn37 sc38, .slice sa39 sn40 sc41, .slice sa42 sn43 sc44, .int .i64 (((stB c (bs0 c.n) (cs.take (kk % (cs.length + 1)))).all.length : Nat) : Int), .int .i64 ((notC (stB c (bs0 c.n) (cs.take (kk % (cs.length + 1)))).all : Nat) : Int)]) (rfl) (l' := [Hp.rec_ b45 [.slice sa36 sn37 sc38, .slice sa39 sn40 sc41, .slice sa42 sn43 sc44, .int .i64 (((stB c (bs0 c.n) (cs.take (kk % (cs.length + 1)))).all.length : Nat) : Int), .int .i64 ((notC (stB c (bs0 c.n) (cs.take (kk % (cs.length + 1)))).all : Nat) : Int)]]) rfl) ?_
  rintro _ _ rfl
  refine Gx.val rfl rfl rfl (val_assign rfl rfl) ?_
  refine Gx.done ?_
  refine Gx.thenN ?_
  refine Gx.seq ?_
  refine Gx.seq ?_
  refine Gx.region ?_
  refine Gx.val rfl rfl rfl (val_move rfl rfl) ?_
  refine Gx.val rfl rfl rfl (Val.cast (val_neq rfl rfl rfl) (v' := .bool false) rfl) ?_
  refine Gx.done ?_
  refine Gx.thenN ?_
  refine Gx.f rfl ?_
  refine Gx.skip ?_
  refine Gx.thenN ?_
  refine Gx.seq ?_
  refine Gx.seq ?_
  refine Gx.region ?_
  refine Gx.val rfl rfl rfl (val_move rfl rfl) ?_
  refine Gx.val rfl rfl rfl (Val.cast (val_neq rfl rfl rfl) (v' := .bool false) rfl) ?_
  refine Gx.val rfl rfl rfl (val_move rfl rfl) ?_
  refine Gx.valg rfl rfl rfl rfl rfl (Val.cast (val_fieldAddr rfl Try.underlying28 rfl Try.ty25 rfl rfl) (v' := ptr b17 1) rfl) ?_
  refine Gx.valg rfl rfl rfl rfl rfl (val_load rfl Try.ty25 rfl rfl (cell_old hb30 hc32)) ?_
  refine Gx.valg rfl rfl rfl rfl rfl (val_len rfl Try.underlying25 rfl (len_base hs27)) ?_
  refine Gx.valg rfl rfl rfl rfl rfl (val_move rfl rfl) ?_
  refine Gx.valg rfl rfl rfl rfl rfl (val_neq rfl rfl rfl) ?_
  refine Gx.val rfl rfl rfl (val_pickF rfl rfl rfl) ?_
  refine Gx.val rfl rfl rfl (val_move rfl rfl) ?_
  refine Gx.slot (t := 56) (v := .bool false) (look_decF rfl (by omega)) ?_
  refine Gx.valg rfl rfl rfl rfl rfl (Val.cast (val_fieldAddr rfl Try.underlying28 rfl Try.ty25 rfl rfl) (v' := ptr b45 1) rfl) ?_
  refine Gx.valg rfl rfl rfl rfl rfl (val_load rfl Try.ty25 rfl rfl (cell_rec (k := 0) rfl rfl)) ?_
  refine Gx.valg rfl rfl rfl rfl rfl (val_len rfl Try.underlying25 rfl (len_base hwv20)) ?_
  refine Gx.valg rfl rfl rfl rfl rfl (val_move rfl rfl) ?_
  refine Gx.valg rfl rfl rfl rfl rfl (val_neq rfl rfl rfl) ?_
  refine Gx.val rfl rfl rfl (val_pickF rfl rfl rfl) ?_
  refine Gx.val rfl rfl rfl (val_move rfl rfl) ?_
  refine Gx.slot (t := 63) (v := .bool false) (look_decF rfl (by omega)) ?_
  refine Gx.valg rfl rfl rfl rfl rfl (Val.cast (val_fieldAddr rfl Try.underlying28 rfl Try.ty26 rfl rfl) (v' := ptr b17 2) rfl) ?_
  refine Gx.valg rfl rfl rfl rfl rfl (val_load rfl Try.ty26 rfl rfl (cell_old hb30 hc33)) ?_
  refine Gx.valg rfl rfl rfl rfl rfl (val_len rfl Try.underlying26 rfl (len_base hs28)) ?_
  refine Gx.valg rfl rfl rfl rfl rfl (val_move rfl rfl) ?_
  refine Gx.valg rfl rfl rfl rfl rfl (val_neq rfl rfl rfl) ?_
  refine Gx.val rfl rfl rfl (val_pickF rfl rfl rfl) ?_
  refine Gx.val rfl rfl rfl (val_move rfl rfl) ?_
  refine Gx.slot (t := 70) (v := .bool false) (look_decF rfl (by omega)) ?_
  refine Gx.valg rfl rfl rfl rfl rfl (Val.cast (val_fieldAddr rfl Try.underlying28 rfl Try.ty26 rfl rfl) (v' := ptr b45 2) rfl) ?_
  refine Gx.valg rfl rfl rfl rfl rfl (val_load rfl Try.ty26 rfl rfl (cell_rec (k := 0) rfl rfl)) ?_
  refine Gx.valg rfl rfl rfl rfl rfl (val_len rfl Try.underlying26 rfl (len_base huv21)) ?_
  refine Gx.valg rfl rfl rfl rfl rfl (val_move rfl rfl) ?_
  refine Gx.valg rfl rfl rfl rfl rfl (val_neq rfl rfl rfl) ?_
  refine Gx.val rfl rfl rfl (val_pickF rfl rfl rfl) ?_
  refine Gx.val rfl rfl rfl (val_move rfl rfl) ?_
  refine Gx.slot (t := 77) (v := .bool false) (look_decF rfl (by omega)) ?_
  refine Gx.valg rfl rfl rfl rfl rfl (Val.cast (val_fieldAddr rfl Try.underlying28 rfl Try.ty3 rfl rfl) (v' := ptr b45 3) rfl) ?_
  refine Gx.valg rfl rfl rfl rfl rfl (val_load rfl Try.ty3 rfl rfl (cell_rec (k := 0) rfl rfl)) ?_
  refine Gx.valg rfl rfl rfl rfl rfl (Val.cast (val_fieldAddr rfl Try.underlying28 rfl Try.ty3 rfl rfl) (v' := ptr b17 3) rfl) ?_
  refine Gx.valg rfl rfl rfl rfl rfl (val_load rfl Try.ty3 rfl rfl (cell_old hb30 hc34)) ?_
  refine Gx.valg rfl rfl rfl rfl rfl (val_gtr rfl rfl rfl) ?_
  refine Gx.val rfl rfl rfl (val_pickF rfl rfl rfl) ?_
  refine Gx.done ?_
  refine Gx.thenN ?_
  refine Gx.decF rfl (by omega) ?_
  refine Gx.skip ?_
  refine Gx.thenN ?_
  refine Gx.seq ?_
  refine Gx.seq ?_
  refine Gx.region ?_
  refine Gx.val rfl rfl rfl (val_assign rfl rfl) ?_
  refine Gx.done ?_
  refine Gx.thenN ?_
  refine Gx.block ?_
  refine Gx.loop (ι := Nat) (fun ξ => (ξ ≤ c.n)) (fun ξ => [(0, .int .i64 ((c.n : Nat) : Int)), (13, ptr b17 0), (15, .int .i64 ((kk % (cs.length + 1) : Nat) : Int)), (16, ptr b45 0), (18, .int .i64 ((ξ : Nat) : Int))]) (fun ξ => [Hp.rec_ b45 [.slice sa36 sn37 sc38, .slice sa39 sn40 sc41, .slice sa42 sn43 sc44, .int .i64 (((stB c (bs0 c.n) (cs.take (kk % (cs.length + 1)))).all.length : Nat) : Int), .int .i64 ((notC (stB c (bs0 c.n) (cs.take (kk % (cs.length + 1)))).all : Nat) : Int)]]) (fun ξ => c.n - ξ) 0 (by first | omega | (dsimp only; omega)) ((.cons rfl (.cons rfl (.cons rfl (.cons rfl (.cons rfl .nil)))))) rfl ?_
  rintro i hi
  refine Gx.know (m' := [(0, .int .i64 ((c.n : Nat) : Int)), (13, ptr b17 0), (15, .int .i64 ((kk % (cs.length + 1) : Nat) : Int)), (16, ptr b45 0), (18, .int .i64 ((i : Nat) : Int))]) (.cons rfl (.cons rfl (.cons rfl (.cons rfl (.cons rfl .nil))))) (Gx.norm (l' := [Hp.rec_ b45 [.slice sa36 sn37 sc38, .slice sa39 sn40 sc41, .slice sa42 sn43 sc44, .int .i64 (((stB c (bs0 c.n) (cs.take (kk % (cs.length + 1)))).all.length : Nat) : Int), .int .i64 ((notC (stB c (bs0 c.n) (cs.take (kk % (cs.length + 1)))).all : Nat) : Int)]]) rfl ?_)
  refine Gx.seq ?_
  refine Gx.seq ?_
  refine Gx.region ?_
  refine Gx.val rfl rfl rfl (val_move rfl rfl) ?_
  refine Gx.val rfl rfl rfl (val_move rfl rfl) ?_
  refine Gx.val rfl rfl rfl (val_lss rfl rfl rfl) ?_
  refine Gx.done ?_
  refine Gx.thenN ?_
  refine Gx.dec rfl (fun h46 => ?_) (fun h46 => ?_)
  · refine Gx.skip ?_
    refine Gx.thenN ?_
    refine Gx.seq ?_
    refine Gx.block ?_
    refine Gx.seq ?_
    obtain ⟨x, hx⟩ := get_of_lt (xs := (stB c (bs0 c.n) (cs.take (kk % (cs.length + 1)))).ps) (k := i) (by omega)
    obtain ⟨y, hy, hxy⟩ := hle.ps i x hx
    have hxh : ((stB c (bs0 c.n) (cs.take (kk % (cs.length + 1)))).ps.map Pr.has)[i]? = some x.has := by rw [List.getElem?_map, hx]; rfl
    have hxv : ((stB c (bs0 c.n) (cs.take (kk % (cs.length + 1)))).ps.map Pr.val)[i]? = some x.val := by rw [List.getElem?_map, hx]; rfl
    have hyh : ((stB c (bs0 c.n) cs).ps.map Pr.has)[i]? = some y.has := by rw [List.getElem?_map, hy]; rfl
    have hyv : ((stB c (bs0 c.n) cs).ps.map Pr.val)[i]? = some y.val := by rw [List.getElem?_map, hy]; rfl
    refine Gx.regionQ Try.mixed (by kernel_rfl) ?_
    refine Gq.val rfl rfl rfl (Val.cast (val_fieldAddr rfl Try.underlying28 rfl Try.ty25 rfl rfl) (v' := ptr b45 1) rfl) ?_
    refine Gq.val rfl rfl rfl (val_load rfl Try.ty25 rfl rfl (cell_rec (k := 0) rfl rfl)) ?_
    refine Gq.val rfl rfl rfl (val_move rfl rfl) ?_
    refine Gq.val rfl rfl rfl (val_ixa rfl Try.underlying25 Try.ty4 rfl rfl (j := i) (rfl) (reach_base hwv20 hxh)) ?_
    refine Gq.val rfl rfl rfl (val_load rfl Try.ty4 rfl rfl (cell_base (i := 0) hwv20 hxh rfl)) ?_
    refine Gq.val rfl rfl rfl (val_move rfl rfl) ?_
    refine Gq.casesB (t := 94) rfl (fun h47 => ?_) (fun h47 => ?_)
    · refine Gq.valg rfl rfl rfl rfl rfl (Val.cast (val_fieldAddr rfl Try.underlying28 rfl Try.ty25 rfl rfl) (v' := ptr b17 1) rfl) ?_
      refine Gq.valg rfl rfl rfl rfl rfl (val_load rfl Try.ty25 rfl rfl (cell_old hb30 hc32)) ?_
      refine Gq.valg rfl rfl rfl rfl rfl (val_move rfl rfl) ?_
      refine Gq.valg rfl rfl rfl rfl rfl (val_ixa rfl Try.underlying25 Try.ty4 rfl rfl (j := i) (rfl) (reach_base hs27 hyh)) ?_
      refine Gq.valg rfl rfl rfl rfl rfl (val_load rfl Try.ty4 rfl rfl (cell_base (i := 0) hs27 hyh rfl)) ?_
      refine Gq.valg rfl rfl rfl rfl rfl (val_not rfl rfl) ?_
      refine Gq.valg rfl rfl rfl rfl rfl (val_move rfl rfl) ?_
      refine Gq.slot (t := 101) (v := .bool false) (look_boolF rfl (by rw [(hxy h47).1]; rfl)) ?_
      refine Gq.valg rfl rfl rfl rfl rfl (Val.cast (val_fieldAddr rfl Try.underlying28 rfl Try.ty26 rfl rfl) (v' := ptr b17 2) rfl) ?_
      refine Gq.valg rfl rfl rfl rfl rfl (val_load rfl Try.ty26 rfl rfl (cell_old hb30 hc33)) ?_
      refine Gq.valg rfl rfl rfl rfl rfl (val_move rfl rfl) ?_
      refine Gq.valg rfl rfl rfl rfl rfl (val_ixa rfl Try.underlying26 Try.ty2 rfl rfl (j := i) (rfl) (reach_base hs28 hyv)) ?_
      refine Gq.valg rfl rfl rfl rfl rfl (val_load rfl Try.ty2 rfl rfl (cell_base (i := 0) hs28 hyv rfl)) ?_
      refine Gq.valg rfl rfl rfl rfl rfl (Val.cast (val_fieldAddr rfl Try.underlying28 rfl Try.ty26 rfl rfl) (v' := ptr b45 2) rfl) ?_
      refine Gq.valg rfl rfl rfl rfl rfl (val_load rfl Try.ty26 rfl rfl (cell_rec (k := 0) rfl rfl)) ?_
      refine Gq.valg rfl rfl rfl rfl rfl (val_move rfl rfl) ?_
      refine Gq.valg rfl rfl rfl rfl rfl (val_ixa rfl Try.underlying26 Try.ty2 rfl rfl (j := i) (rfl) (reach_base huv21 hxv)) ?_
      refine Gq.valg rfl rfl rfl rfl rfl (val_load rfl Try.ty2 rfl rfl (cell_base (i := 0) huv21 hxv rfl)) ?_
      refine Gq.valg rfl rfl rfl rfl rfl (val_neq rfl rfl rfl) ?_
      refine Gq.valg rfl rfl rfl rfl rfl (val_pickF rfl rfl rfl) ?_
      refine Gq.val rfl rfl rfl (val_pickT rfl rfl rfl) ?_
      refine Gq.done ?_
      refine Gx.thenN ?_
      refine Gx.decF rfl (fun q => q (hxy h47).2) ?_
      refine Gx.skip ?_
      refine Gx.blkN ?_
      refine Gx.thenN ?_
      refine Gx.region ?_
      refine Gx.val rfl rfl rfl (val_move rfl rfl) ?_
      refine Gx.val rfl rfl rfl (val_add rfl rfl rfl (r := ((i + 1 : Nat) : Int)) (w64 (by omega) (by omega))) ?_
      refine Gx.val rfl rfl rfl (val_assign rfl rfl) ?_
      refine Gx.done ?_
      refine Gx.thenN ?_
      exact Gx.round (i + 1) (by first | omega | (dsimp only; omega)) (by first | omega | (dsimp only; omega)) ((.cons rfl (.cons rfl (.cons rfl (.cons rfl (.cons rfl .nil)))))) rfl
    · refine Gq.skipg rfl rfl rfl rfl rfl rfl ?_
      refine Gq.skipg rfl rfl rfl rfl rfl rfl ?_
      refine Gq.skipg rfl rfl rfl rfl rfl rfl ?_
      refine Gq.skipg rfl rfl rfl rfl rfl rfl ?_
      refine Gq.skipg rfl rfl rfl rfl rfl rfl ?_
      refine Gq.skipg rfl rfl rfl rfl rfl rfl ?_
      refine Gq.skipg rfl rfl rfl rfl rfl rfl ?_
      refine Gq.skipu rfl rfl rfl rfl rfl ?_
      refine Gq.skipu rfl rfl rfl rfl rfl ?_
      refine Gq.skipu rfl rfl rfl rfl rfl ?_
      refine Gq.skipu rfl rfl rfl rfl rfl ?_
      refine Gq.skipu rfl rfl rfl rfl rfl ?_
      refine Gq.skipu rfl rfl rfl rfl rfl ?_
      refine Gq.skipu rfl rfl rfl rfl rfl ?_
      refine Gq.skipu rfl rfl rfl rfl rfl ?_
      refine Gq.skipu rfl rfl rfl rfl rfl ?_
      refine Gq.skipu rfl rfl rfl rfl rfl ?_
      refine Gq.skipu rfl rfl rfl rfl rfl ?_
      refine Gq.skipg rfl rfl rfl rfl rfl rfl ?_
      refine Gq.val rfl rfl rfl (val_pickF rfl rfl rfl) ?_
      refine Gq.done ?_
      refine Gx.thenN ?_
      refine Gx.f rfl ?_
      refine Gx.skip ?_
      refine Gx.blkN ?_
      refine Gx.thenN ?_
      refine Gx.region ?_
      refine Gx.val rfl rfl rfl (val_move rfl rfl) ?_
      refine Gx.val rfl rfl rfl (val_add rfl rfl rfl (r := ((i + 1 : Nat) : Int)) (w64 (by omega) (by omega))) ?_
      refine Gx.val rfl rfl rfl (val_assign rfl rfl) ?_
      refine Gx.done ?_
      refine Gx.thenN ?_
      exact Gx.round (i + 1) (by first | omega | (dsimp only; omega)) (by first | omega | (dsimp only; omega)) ((.cons rfl (.cons rfl (.cons rfl (.cons rfl (.cons rfl .nil)))))) rfl
  · refine Gx.exit ?_
    refine Gx.thenE ?_
    refine Gx.thenE ?_
    refine Gx.blkE ?_
    refine Gx.thenN ?_
    refine Gx.seq ?_
    refine Gx.region ?_
    refine Gx.val rfl rfl rfl (val_assign rfl rfl) ?_
    refine Gx.done ?_
    refine Gx.thenN ?_
    refine Gx.ret ?_
    refine Gx.ret1B hW24 Try.results5 rfl ?_
    rfl

theorem front_any {W : World} {k f d z : Int} {sv : Value} {cs : List Mv} {y : Int} (h0 : 0 ≤ y) (h255 : y ≤ 255) (hz0 : 0 ≤ z) (hz1 : z < 4294967296) (hs : SlS FM 6 W sv cs) :
    Calls Try.prog 5 #[.int .i64 k, .int .i64 f, .int .u32 z, .int .i64 d, sv, .int .u8 y] W fun e w' => e = .returned (.bool true) ∧ Below W.heap.size W w' := by
  obtain ⟨L, rfl⟩ : ∃ L : Nat, z = (L : Int) := ⟨z.toNat, by omega⟩
  have hL : L < 4294967296 := by omega
  obtain ⟨kk, rfl⟩ : ∃ kk : Nat, y = (kk : Int) := ⟨y.toNat, by omega⟩
  by_cases h : Valid k f L d cs
  · obtain ⟨h1, h2, h3, h4, h5, h6, h7, h8⟩ := h
    obtain ⟨n, rfl⟩ : ∃ n : Nat, k = (n : Int) := ⟨k.toNat, by omega⟩
    obtain ⟨f', rfl⟩ : ∃ f' : Nat, f = (f' : Int) := ⟨f.toNat, by omega⟩
    obtain ⟨d', rfl⟩ : ∃ d' : Nat, d = (d' : Int) := ⟨d.toNat, by omega⟩
    rw [Int.toNat_natCast] at h5 h6
    exact front_yes (c := ⟨n, f', L, d'⟩) hs (by dsimp only; omega) (by dsimp only; omega) h3 (by dsimp only; omega) h6 hL (by dsimp only; omega) (by omega)
  · exact front_bad hs h hL (by omega)
theorem few_bad {W : World} {k f d : Int} {L : Nat} {sv : Value} {cs : List Mv} (hs : SlS FM 6 W sv cs) (hbad : ¬ Valid k f L d cs) :
    Calls Try.prog 6 #[.int .i64 k, .int .i64 f, .int .u32 ((L : Nat) : Int), .int .i64 d, sv] W fun e w' => e = .returned (.bool true) ∧ Below W.heap.size W w' := by
  refine calls_pure (Gx.enter (l := []) Try.func6 rfl Try.ntmps6 rfl (Sat.start W) ?_)
  refine Gx.know (m' := [(0, .int .i64 k), (1, .int .i64 f), (2, .int .u32 ((L : Nat) : Int)), (3, .int .i64 d), (4, sv)]) (.cons rfl (.cons rfl (.cons rfl (.cons rfl (.cons rfl .nil))))) ?_
  refine Gx.seq ?_
  refine Gx.region ?_
  refine Gx.val rfl rfl rfl (val_assign rfl rfl) ?_
  refine Gx.done ?_
  refine Gx.thenN ?_
  refine Gx.seq ?_
  refine Gx.region ?_
  refine Gx.val rfl rfl rfl (val_move rfl rfl) ?_
  refine Gx.val rfl rfl rfl (val_move rfl rfl) ?_
  refine Gx.val rfl rfl rfl (val_move rfl rfl) ?_
  refine Gx.val rfl rfl rfl (val_move rfl rfl) ?_
  refine Gx.val rfl rfl rfl (val_move rfl rfl) ?_
  refine Gx.eff rfl rfl rfl (eff_callE (vs := [.int .i64 k, .int .i64 f, .int .u32 ((L : Nat) : Int), .int .i64 d, sv]) rfl Try.fn7 rfl (R := fun v => ∃ z : Int, z ≠ 0 ∧ v = .tuple #[.agg #[.slice none 0 0, .slice none 0 0, .slice none 0 0, .int .i64 0, .int .i64 0], .int .i64 z]) (fun w H => play_bad (hs.below H.below) hbad)) ?_
  rintro _ _ ⟨⟨zz1, hzz2, rfl⟩, rfl⟩
  refine Gx.val rfl rfl rfl (val_move rfl rfl) ?_
  refine Gx.val rfl rfl rfl (val_extract rfl rfl rfl) ?_
  refine Gx.val rfl rfl rfl (val_extract rfl rfl rfl) ?_
  refine Gx.eff rfl rfl rfl (eff_alloc rfl Try.ty28 (vs := [.slice none 0 0, .slice none 0 0, .slice none 0 0, .int .i64 0, .int .i64 0]) rfl) ?_
  rintro _ _ ⟨b3, rfl, rfl⟩
  refine Gx.eff0 rfl rfl (eff_store rfl Try.ty28 rfl rfl (us := [.slice none 0 0, .slice none 0 0, .slice none 0 0, .int .i64 0, .int .i64 0]) rfl rfl rfl (k := 0) rfl (rfl) (vs' := [.slice none 0 0, .slice none 0 0, .slice none 0 0, .int .i64 0, .int .i64 0]) (rfl) (l' := [Hp.rec_ b3 [.slice none 0 0, .slice none 0 0, .slice none 0 0, .int .i64 0, .int .i64 0]]) rfl) ?_
  rintro _ _ rfl
  refine Gx.val rfl rfl rfl (val_assign rfl rfl) ?_
  refine Gx.done ?_
  refine Gx.thenN ?_
  refine Gx.seq ?_
  refine Gx.seq ?_
  refine Gx.region ?_
  refine Gx.val rfl rfl rfl (val_move rfl rfl) ?_
  refine Gx.val rfl rfl rfl (val_neq rfl rfl rfl) ?_
  refine Gx.done ?_
  refine Gx.thenN ?_
  refine Gx.decT rfl (by omega) ?_
  refine Gx.seq ?_
  refine Gx.region ?_
  refine Gx.val rfl rfl rfl (val_assign rfl rfl) ?_
  refine Gx.done ?_
  refine Gx.thenN ?_
  refine Gx.ret ?_
  refine Gx.thenR ?_
  refine Gx.ret1 Try.results6 rfl ?_
  rfl

theorem few_yes {W : World} {c : Cf} {sv : Value} {cs : List Mv} (hs : SlS FM 6 W sv cs) (h1n : 1 ≤ c.n) (h7n : c.n ≤ 7) (hcl : cs.length ≤ 120) (hf : c.f ≤ (c.n - 1) / 3) (hLn : c.L >>> c.n = 0) (hL : c.L < 4294967296) (hsn : c.snd < c.n) :
    Calls Try.prog 6 #[.int .i64 ((c.n : Nat) : Int), .int .i64 ((c.f : Nat) : Int), .int .u32 ((c.L : Nat) : Int), .int .i64 ((c.snd : Nat) : Int), sv] W fun e w' => e = .returned (.bool true) ∧ Below W.heap.size W w' := by
  have hbd := BdB.run hsn (cs := cs) cs.length (Nat.le_refl _)
  rw [List.take_length] at hbd
  have hnc := notC_le (stB c (bs0 c.n) cs).all
  have hnn : c.n * (2 * c.n) = 2 * c.n * c.n := Nat.mul_comm ..
  have hn7 : 2 * c.n * c.n ≤ 14 * 7 := Nat.mul_le_mul (by omega) h7n
  have hall := hbd.all_le
  refine calls_pure (Gx.enter (l := []) Try.func6 rfl Try.ntmps6 rfl (Sat.start W) ?_)
  refine Gx.know (m' := [(0, .int .i64 ((c.n : Nat) : Int)), (1, .int .i64 ((c.f : Nat) : Int)), (2, .int .u32 ((c.L : Nat) : Int)), (3, .int .i64 ((c.snd : Nat) : Int)), (4, sv)]) (.cons rfl (.cons rfl (.cons rfl (.cons rfl (.cons rfl .nil))))) ?_
  refine Gx.seq ?_
  refine Gx.region ?_
  refine Gx.val rfl rfl rfl (val_assign rfl rfl) ?_
  refine Gx.done ?_
  refine Gx.thenN ?_
  refine Gx.seq ?_
  refine Gx.region ?_
  refine Gx.val rfl rfl rfl (val_move rfl rfl) ?_
  refine Gx.val rfl rfl rfl (val_move rfl rfl) ?_
  refine Gx.val rfl rfl rfl (val_move rfl rfl) ?_
  refine Gx.val rfl rfl rfl (val_move rfl rfl) ?_
  refine Gx.val rfl rfl rfl (val_move rfl rfl) ?_
  refine Gx.callB rfl rfl rfl (vs := [.int .i64 ((c.n : Nat) : Int), .int .i64 ((c.f : Nat) : Int), .int .u32 ((c.L : Nat) : Int), .int .i64 ((c.snd : Nat) : Int), sv]) rfl Try.fn7 rfl (R := fun v w' => ∃ (cv wv uv : Value), v = .tuple #[.agg #[cv, wv, uv, .int .i64 (((stB c (bs0 c.n) cs).all.length : Nat) : Int), .int .i64 ((notC (stB c (bs0 c.n) cs).all : Nat) : Int)], .int .i64 0] ∧ SlS FZ 1 w' cv (codesB c (bs0 c.n) cs) ∧ SlS FB 1 w' wv ((stB c (bs0 c.n) cs).ps.map Pr.has) ∧ SlS FI 1 w' uv ((stB c (bs0 c.n) cs).ps.map Pr.val)) (fun w H => play_ok (hs.below H.below) h1n h7n (by omega) hf hLn hL hsn) ?_
  rintro _ W4 ⟨cv1, wv2, uv3, rfl, hcv1, hwv2, huv3⟩ H5
  have hW6 := H5.below
  have hs7 := hs.below H5.below
  have hclcv1 : (codesB c (bs0 c.n) cs).length = (cs).length := codesB_len ..
  have hplcv1 : (stB c (bs0 c.n) cs).ps.length = c.n := stB_plen hsn cs
  have hwlcv1 : ((stB c (bs0 c.n) cs).ps.map Pr.has).length = c.n := by rw [List.length_map]; exact hplcv1
  have hulcv1 : ((stB c (bs0 c.n) cs).ps.map Pr.val).length = c.n := by rw [List.length_map]; exact hplcv1
  obtain ⟨sa8, sn9, sc10, rfl⟩ := hcv1.isS
  obtain ⟨sa11, sn12, sc13, rfl⟩ := hwv2.isS
  obtain ⟨sa14, sn15, sc16, rfl⟩ := huv3.isS
  refine Gx.val rfl rfl rfl (val_move rfl rfl) ?_
  refine Gx.val rfl rfl rfl (val_extract rfl rfl rfl) ?_
  refine Gx.val rfl rfl rfl (val_extract rfl rfl rfl) ?_
  refine Gx.eff rfl rfl rfl (eff_alloc rfl Try.ty28 (vs := [.slice none 0 0, .slice none 0 0, .slice none 0 0, .int .i64 0, .int .i64 0]) rfl) ?_
  rintro _ _ ⟨b17, rfl, rfl⟩
  refine Gx.eff0 rfl rfl (eff_store rfl Try.ty28 rfl rfl (us := [.slice sa8 sn9 sc10, .slice sa11 sn12 sc13, .slice sa14 sn15 sc16, .int .i64 (((stB c (bs0 c.n) cs).all.length : Nat) : Int), .int .i64 ((notC (stB c (bs0 c.n) cs).all : Nat) : Int)]) rfl rfl rfl (k := 0) rfl (rfl) (vs' := [.slice sa8 sn9 sc10, .slice sa11 sn12 sc13, .slice sa14 sn15 sc16, .int .i64 (((stB c (bs0 c.n) cs).all.length : Nat) : Int), .int .i64 ((notC (stB c (bs0 c.n) cs).all : Nat) : Int)]) (rfl) (l' := [Hp.rec_ b17 [.slice sa8 sn9 sc10, .slice sa11 sn12 sc13, .slice sa14 sn15 sc16, .int .i64 (((stB c (bs0 c.n) cs).all.length : Nat) : Int), .int .i64 ((notC (stB c (bs0 c.n) cs).all : Nat) : Int)]]) rfl) ?_
  rintro _ _ rfl
  refine Gx.val rfl rfl rfl (val_assign rfl rfl) ?_
  refine Gx.done ?_
  refine Gx.thenN ?_
  refine Gx.seq ?_
  refine Gx.seq ?_
  refine Gx.region ?_
  refine Gx.val rfl rfl rfl (val_move rfl rfl) ?_
  refine Gx.val rfl rfl rfl (Val.cast (val_neq rfl rfl rfl) (v' := .bool false) rfl) ?_
  refine Gx.done ?_
  refine Gx.thenN ?_
  refine Gx.f rfl ?_
  refine Gx.skip ?_
  refine Gx.thenN ?_
  refine Gx.seq ?_
  refine Gx.region ?_
  refine Gx.val rfl rfl rfl (val_assign rfl rfl) ?_
  refine Gx.done ?_
  refine Gx.thenN ?_
  refine Gx.seq ?_
  refine Gx.seq ?_
  refine Gx.region ?_
  refine Gx.val rfl rfl rfl (val_assign rfl rfl) ?_
  refine Gx.done ?_
  refine Gx.thenN ?_
  refine Gx.block ?_
  refine Gx.loop (ι := Nat × Nat) (fun ξ => (ξ.1 ≤ cs.length) ∧ (ξ.2 = hitB forgB cs (codesB c (bs0 c.n) cs) ξ.1)) (fun ξ => [(0, .int .i64 ((c.n : Nat) : Int)), (4, sv), (11, ptr b17 0), (14, .int .i64 ((ξ.1 : Nat) : Int)), (13, .int .i64 ((ξ.2 : Nat) : Int))]) (fun ξ => [Hp.rec_ b17 [.slice sa8 sn9 sc10, .slice sa11 sn12 sc13, .slice sa14 sn15 sc16, .int .i64 (((stB c (bs0 c.n) cs).all.length : Nat) : Int), .int .i64 ((notC (stB c (bs0 c.n) cs).all : Nat) : Int)]]) (fun ξ => cs.length - ξ.1) (0, 0) ⟨by first | omega | (dsimp only; omega), rfl⟩ ((.cons rfl (.cons rfl (.cons rfl (.cons rfl (.cons rfl .nil)))))) rfl ?_
  rintro ⟨i, td⟩ ⟨hi, htd⟩
  dsimp only at hi htd
  refine Gx.know (m' := [(0, .int .i64 ((c.n : Nat) : Int)), (4, sv), (11, ptr b17 0), (14, .int .i64 ((i : Nat) : Int)), (13, .int .i64 ((td : Nat) : Int))]) (.cons rfl (.cons rfl (.cons rfl (.cons rfl (.cons rfl .nil))))) (Gx.norm (l' := [Hp.rec_ b17 [.slice sa8 sn9 sc10, .slice sa11 sn12 sc13, .slice sa14 sn15 sc16, .int .i64 (((stB c (bs0 c.n) cs).all.length : Nat) : Int), .int .i64 ((notC (stB c (bs0 c.n) cs).all : Nat) : Int)]]) rfl ?_)
  have htl := hitB_le forgB cs (codesB c (bs0 c.n) cs) i
  refine Gx.seq ?_
  refine Gx.seq ?_
  refine Gx.region ?_
  refine Gx.val rfl rfl rfl (val_move rfl rfl) ?_
  refine Gx.val rfl rfl rfl (val_move rfl rfl) ?_
  refine Gx.val rfl rfl rfl (val_len rfl Try.underlying23 rfl (len_base hs7)) ?_
  refine Gx.val rfl rfl rfl (val_lss rfl rfl rfl) ?_
  refine Gx.val rfl rfl rfl (val_move rfl rfl) ?_
  refine Gx.cases (t := 30) rfl (fun h18 => ?_) (fun h18 => ?_)
  · refine Gx.valg rfl rfl rfl rfl rfl (val_move rfl rfl) ?_
    refine Gx.valg rfl rfl rfl rfl rfl (Val.cast (val_fieldAddr rfl Try.underlying28 rfl Try.ty24 rfl rfl) (v' := ptr b17 0) rfl) ?_
    refine Gx.valg rfl rfl rfl rfl rfl (val_load rfl Try.ty24 rfl rfl (cell_rec (k := 0) rfl rfl)) ?_
    refine Gx.valg rfl rfl rfl rfl rfl (val_len rfl Try.underlying24 rfl (len_base hcv1)) ?_
    refine Gx.valg rfl rfl rfl rfl rfl (val_lss rfl rfl rfl) ?_
    refine Gx.val rfl rfl rfl (val_pickT rfl rfl rfl) ?_
    refine Gx.done ?_
    refine Gx.thenN ?_
    refine Gx.dec rfl (fun h19 => ?_) (fun h19 => ?_)
    · refine Gx.skip ?_
      refine Gx.thenN ?_
      refine Gx.seq ?_
      refine Gx.block ?_
      refine Gx.seq ?_
      refine Gx.region ?_
      refine Gx.val rfl rfl rfl (val_move rfl rfl) ?_
      refine Gx.val rfl rfl rfl (val_move rfl rfl) ?_
      obtain ⟨x20, hx20⟩ := get_of_lt (xs := cs) (k := i) (by omega)
      refine Gx.val rfl rfl rfl (val_ixa rfl Try.underlying23 Try.ty34 rfl rfl (j := i) (rfl) (reach_base hs7 hx20)) ?_
      refine Gx.val rfl rfl rfl (Val.cast (val_fieldAddr rfl Try.underlying34 rfl Try.ty3 rfl rfl) (v' := ptr (sB sv) (sO sv + i * 6)) rfl) ?_
      refine Gx.val rfl rfl rfl (val_load rfl Try.ty3 rfl rfl (cell_base (i := 0) hs7 hx20 rfl)) ?_
      refine Gx.val rfl rfl rfl (val_eql rfl rfl rfl) ?_
      refine Gx.val rfl rfl rfl (val_move rfl rfl) ?_
      refine Gx.cases (t := 45) rfl (fun h21 => ?_) (fun h21 => ?_)
      · refine Gx.valg rfl rfl rfl rfl rfl (Val.cast (val_fieldAddr rfl Try.underlying28 rfl Try.ty24 rfl rfl) (v' := ptr b17 0) rfl) ?_
        refine Gx.valg rfl rfl rfl rfl rfl (val_load rfl Try.ty24 rfl rfl (cell_rec (k := 0) rfl rfl)) ?_
        refine Gx.valg rfl rfl rfl rfl rfl (val_move rfl rfl) ?_
        obtain ⟨x22, hx22⟩ := get_of_lt (xs := (codesB c (bs0 c.n) cs)) (k := i) (by omega)
        refine Gx.valg rfl rfl rfl rfl rfl (val_ixa rfl Try.underlying24 Try.ty29 rfl rfl (j := i) (rfl) (reach_base hcv1 hx22)) ?_
        refine Gx.valg rfl rfl rfl rfl rfl (val_load rfl Try.ty29 rfl rfl (cell_base (i := 0) hcv1 hx22 rfl)) ?_
        refine Gx.valg rfl rfl rfl rfl rfl (val_eql rfl rfl rfl) ?_
        refine Gx.val rfl rfl rfl (val_pickT rfl rfl rfl) ?_
        refine Gx.done ?_
        refine Gx.thenN ?_
        refine Gx.dec rfl (fun h23 => ?_) (fun h23 => ?_)
        · refine Gx.region ?_
          refine Gx.val rfl rfl rfl (val_move rfl rfl) ?_
          refine Gx.val rfl rfl rfl (val_add rfl rfl rfl (r := ((td + 1 : Nat) : Int)) (w64 (by omega) (by omega))) ?_
          refine Gx.val rfl rfl rfl (val_assign rfl rfl) ?_
          refine Gx.done ?_
          refine Gx.blkN ?_
          refine Gx.thenN ?_
          refine Gx.region ?_
          refine Gx.val rfl rfl rfl (val_move rfl rfl) ?_
          refine Gx.val rfl rfl rfl (val_add rfl rfl rfl (r := ((i + 1 : Nat) : Int)) (w64 (by omega) (by omega))) ?_
          refine Gx.val rfl rfl rfl (val_assign rfl rfl) ?_
          refine Gx.done ?_
          refine Gx.thenN ?_
          skip
          exact Gx.round (i + 1, td + 1) ⟨by first | omega | (dsimp only; omega), by rw [hitB_succ hx20 hx22, ← htd]; rw [show forgB x20 x22 = true from decide_eq_true ⟨by omega, by omega⟩, if_pos rfl]⟩ (by first | omega | (dsimp only; omega)) ((.cons rfl (.cons rfl (.cons rfl (.cons rfl (.cons rfl .nil)))))) rfl
        · refine Gx.skip ?_
          refine Gx.blkN ?_
          refine Gx.thenN ?_
          refine Gx.region ?_
          refine Gx.val rfl rfl rfl (val_move rfl rfl) ?_
          refine Gx.val rfl rfl rfl (val_add rfl rfl rfl (r := ((i + 1 : Nat) : Int)) (w64 (by omega) (by omega))) ?_
          refine Gx.val rfl rfl rfl (val_assign rfl rfl) ?_
          refine Gx.done ?_
          refine Gx.thenN ?_
          skip
          exact Gx.round (i + 1, td) ⟨by first | omega | (dsimp only; omega), by rw [hitB_succ hx20 hx22, ← htd]; rw [show forgB x20 x22 = false from decide_eq_false (fun h => by have := h.1; have := h.2; omega)]; rfl⟩ (by first | omega | (dsimp only; omega)) ((.cons rfl (.cons rfl (.cons rfl (.cons rfl (.cons rfl .nil)))))) rfl
      · refine Gx.skipg rfl rfl rfl rfl rfl rfl ?_
        refine Gx.skipg rfl rfl rfl rfl rfl rfl ?_
        refine Gx.skipg rfl rfl rfl rfl rfl rfl ?_
        refine Gx.skipg rfl rfl rfl rfl rfl rfl ?_
        refine Gx.skipg rfl rfl rfl rfl rfl rfl ?_
        refine Gx.skipg rfl rfl rfl rfl rfl rfl ?_
        refine Gx.val rfl rfl rfl (val_pickF rfl rfl rfl) ?_
        refine Gx.done ?_
        refine Gx.thenN ?_
        refine Gx.f rfl ?_
        refine Gx.skip ?_
        refine Gx.blkN ?_
        refine Gx.thenN ?_
        refine Gx.region ?_
        refine Gx.val rfl rfl rfl (val_move rfl rfl) ?_
        refine Gx.val rfl rfl rfl (val_add rfl rfl rfl (r := ((i + 1 : Nat) : Int)) (w64 (by omega) (by omega))) ?_
        refine Gx.val rfl rfl rfl (val_assign rfl rfl) ?_
        refine Gx.done ?_
        refine Gx.thenN ?_
        obtain ⟨k7, hk7⟩ := get_of_lt (xs := (codesB c (bs0 c.n) cs)) (k := i) (by omega)
        exact Gx.round (i + 1, td) ⟨by first | omega | (dsimp only; omega), by rw [hitB_succ hx20 hk7, ← htd]; rw [show forgB x20 k7 = false from decide_eq_false (fun h => by have := h.1; have := h.2; omega)]; rfl⟩ (by first | omega | (dsimp only; omega)) ((.cons rfl (.cons rfl (.cons rfl (.cons rfl (.cons rfl .nil)))))) rfl
    · refine Gx.exit ?_
      refine Gx.thenE ?_
      refine Gx.thenE ?_
      refine Gx.blkE ?_
      refine Gx.thenN ?_
      refine Gx.seq ?_
      obtain rfl : i = cs.length := by omega
      have hpot := hbd.pot
      unfold pot at hpot
      refine Gx.region ?_
      refine Gx.val rfl rfl rfl (Val.cast (val_fieldAddr rfl Try.underlying28 rfl Try.ty24 rfl rfl) (v' := ptr b17 0) rfl) ?_
      refine Gx.val rfl rfl rfl (val_load rfl Try.ty24 rfl rfl (cell_rec (k := 0) rfl rfl)) ?_
      refine Gx.val rfl rfl rfl (val_len rfl Try.underlying24 rfl (len_base hcv1)) ?_
      refine Gx.val rfl rfl rfl (val_move rfl rfl) ?_
      refine Gx.val rfl rfl rfl (val_len rfl Try.underlying23 rfl (len_base hs7)) ?_
      refine Gx.val rfl rfl rfl (val_eql rfl rfl rfl) ?_
      refine Gx.val rfl rfl rfl (val_move rfl rfl) ?_
      refine Gx.slot (t := 61) (v := .bool true) (look_decT rfl (by omega)) ?_
      refine Gx.valg rfl rfl rfl rfl rfl (Val.cast (val_fieldAddr rfl Try.underlying28 rfl Try.ty3 rfl rfl) (v' := ptr b17 4) rfl) ?_
      refine Gx.valg rfl rfl rfl rfl rfl (val_load rfl Try.ty3 rfl rfl (cell_rec (k := 0) rfl rfl)) ?_
      refine Gx.valg rfl rfl rfl rfl rfl (Val.cast (val_fieldAddr rfl Try.underlying28 rfl Try.ty3 rfl rfl) (v' := ptr b17 3) rfl) ?_
      refine Gx.valg rfl rfl rfl rfl rfl (val_load rfl Try.ty3 rfl rfl (cell_rec (k := 0) rfl rfl)) ?_
      refine Gx.valg rfl rfl rfl rfl rfl (val_leq rfl rfl rfl) ?_
      refine Gx.val rfl rfl rfl (val_pickT rfl rfl rfl) ?_
      refine Gx.val rfl rfl rfl (val_move rfl rfl) ?_
      refine Gx.slot (t := 68) (v := .bool true) (look_decT rfl (by omega)) ?_
      refine Gx.valg rfl rfl rfl rfl rfl (Val.cast (val_fieldAddr rfl Try.underlying28 rfl Try.ty3 rfl rfl) (v' := ptr b17 3) rfl) ?_
      refine Gx.valg rfl rfl rfl rfl rfl (val_load rfl Try.ty3 rfl rfl (cell_rec (k := 0) rfl rfl)) ?_
      refine Gx.valg rfl rfl rfl rfl rfl (val_move rfl rfl) ?_
      refine Gx.valg rfl rfl rfl rfl rfl (val_move rfl rfl) ?_
      refine Gx.valg rfl rfl rfl rfl rfl (val_add rfl rfl rfl (r := ((td + c.n : Nat) : Int)) (w64 (by omega) (by omega))) ?_
      refine Gx.valg rfl rfl rfl rfl rfl (val_move rfl rfl) ?_
      refine Gx.valg rfl rfl rfl rfl rfl (val_mul rfl rfl rfl (r := ((2 * c.n : Nat) : Int)) (w64 (by omega) (by omega))) ?_
      refine Gx.valg rfl rfl rfl rfl rfl (val_move rfl rfl) ?_
      refine Gx.valg rfl rfl rfl rfl rfl (val_mul rfl rfl rfl (r := ((2 * c.n * c.n : Nat) : Int)) (w64 (by omega) (by omega))) ?_
      refine Gx.valg rfl rfl rfl rfl rfl (val_add rfl rfl rfl (r := ((td + c.n + (2 * c.n * c.n) : Nat) : Int)) (w64 (by omega) (by omega))) ?_
      refine Gx.valg rfl rfl rfl rfl rfl (val_leq rfl rfl rfl) ?_
      refine Gx.val rfl rfl rfl (val_pickT rfl rfl rfl) ?_
      refine Gx.val rfl rfl rfl (val_assign rfl rfl) ?_
      refine Gx.done ?_
      refine Gx.thenN ?_
      refine Gx.ret ?_
      refine Gx.ret1B hW6 Try.results6 rfl ?_
      exact congrArg Value.bool (decide_eq_true (by omega))
  · refine Gx.skipg rfl rfl rfl rfl rfl rfl ?_
    refine Gx.skipg rfl rfl rfl rfl rfl rfl ?_
    refine Gx.skipg rfl rfl rfl rfl rfl rfl ?_
    refine Gx.skipg rfl rfl rfl rfl rfl rfl ?_
    refine Gx.skipg rfl rfl rfl rfl rfl rfl ?_
    refine Gx.val rfl rfl rfl (val_pickF rfl rfl rfl) ?_
    refine Gx.done ?_
    refine Gx.thenN ?_
    refine Gx.f rfl ?_
    refine Gx.exit ?_
    refine Gx.thenE ?_
    refine Gx.thenE ?_
    refine Gx.blkE ?_
    refine Gx.thenN ?_
    refine Gx.seq ?_
    obtain rfl : i = cs.length := by omega
    have hpot := hbd.pot
    unfold pot at hpot
    refine Gx.region ?_
    refine Gx.val rfl rfl rfl (Val.cast (val_fieldAddr rfl Try.underlying28 rfl Try.ty24 rfl rfl) (v' := ptr b17 0) rfl) ?_
    refine Gx.val rfl rfl rfl (val_load rfl Try.ty24 rfl rfl (cell_rec (k := 0) rfl rfl)) ?_
    refine Gx.val rfl rfl rfl (val_len rfl Try.underlying24 rfl (len_base hcv1)) ?_
    refine Gx.val rfl rfl rfl (val_move rfl rfl) ?_
    refine Gx.val rfl rfl rfl (val_len rfl Try.underlying23 rfl (len_base hs7)) ?_
    refine Gx.val rfl rfl rfl (val_eql rfl rfl rfl) ?_
    refine Gx.val rfl rfl rfl (val_move rfl rfl) ?_
    refine Gx.slot (t := 61) (v := .bool true) (look_decT rfl (by omega)) ?_
    refine Gx.valg rfl rfl rfl rfl rfl (Val.cast (val_fieldAddr rfl Try.underlying28 rfl Try.ty3 rfl rfl) (v' := ptr b17 4) rfl) ?_
    refine Gx.valg rfl rfl rfl rfl rfl (val_load rfl Try.ty3 rfl rfl (cell_rec (k := 0) rfl rfl)) ?_
    refine Gx.valg rfl rfl rfl rfl rfl (Val.cast (val_fieldAddr rfl Try.underlying28 rfl Try.ty3 rfl rfl) (v' := ptr b17 3) rfl) ?_
    refine Gx.valg rfl rfl rfl rfl rfl (val_load rfl Try.ty3 rfl rfl (cell_rec (k := 0) rfl rfl)) ?_
    refine Gx.valg rfl rfl rfl rfl rfl (val_leq rfl rfl rfl) ?_
    refine Gx.val rfl rfl rfl (val_pickT rfl rfl rfl) ?_
    refine Gx.val rfl rfl rfl (val_move rfl rfl) ?_
    refine Gx.slot (t := 68) (v := .bool true) (look_decT rfl (by omega)) ?_
    refine Gx.valg rfl rfl rfl rfl rfl (Val.cast (val_fieldAddr rfl Try.underlying28 rfl Try.ty3 rfl rfl) (v' := ptr b17 3) rfl) ?_
    refine Gx.valg rfl rfl rfl rfl rfl (val_load rfl Try.ty3 rfl rfl (cell_rec (k := 0) rfl rfl)) ?_
    refine Gx.valg rfl rfl rfl rfl rfl (val_move rfl rfl) ?_
    refine Gx.valg rfl rfl rfl rfl rfl (val_move rfl rfl) ?_
    refine Gx.valg rfl rfl rfl rfl rfl (val_add rfl rfl rfl (r := ((td + c.n : Nat) : Int)) (w64 (by omega) (by omega))) ?_
    refine Gx.valg rfl rfl rfl rfl rfl (val_move rfl rfl) ?_
    refine Gx.valg rfl rfl rfl rfl rfl (val_mul rfl rfl rfl (r := ((2 * c.n : Nat) : Int)) (w64 (by omega) (by omega))) ?_
    refine Gx.valg rfl rfl rfl rfl rfl (val_move rfl rfl) ?_
    refine Gx.valg rfl rfl rfl rfl rfl (val_mul rfl rfl rfl (r := ((2 * c.n * c.n : Nat) : Int)) (w64 (by omega) (by omega))) ?_
    refine Gx.valg rfl rfl rfl rfl rfl (val_add rfl rfl rfl (r := ((td + c.n + (2 * c.n * c.n) : Nat) : Int)) (w64 (by omega) (by omega))) ?_
    refine Gx.valg rfl rfl rfl rfl rfl (val_leq rfl rfl rfl) ?_
    refine Gx.val rfl rfl rfl (val_pickT rfl rfl rfl) ?_
    refine Gx.val rfl rfl rfl (val_assign rfl rfl) ?_
    refine Gx.done ?_
    refine Gx.thenN ?_
    refine Gx.ret ?_
    refine Gx.ret1B hW6 Try.results6 rfl ?_
    exact congrArg Value.bool (decide_eq_true (by omega))

theorem few_any {W : World} {k f d z : Int} {sv : Value} {cs : List Mv} (hz0 : 0 ≤ z) (hz1 : z < 4294967296) (hs : SlS FM 6 W sv cs) :
    Calls Try.prog 6 #[.int .i64 k, .int .i64 f, .int .u32 z, .int .i64 d, sv] W fun e w' => e = .returned (.bool true) ∧ Below W.heap.size W w' := by
  obtain ⟨L, rfl⟩ : ∃ L : Nat, z = (L : Int) := ⟨z.toNat, by omega⟩
  have hL : L < 4294967296 := by omega
  by_cases h : Valid k f L d cs
  · obtain ⟨h1, h2, h3, h4, h5, h6, h7, h8⟩ := h
    obtain ⟨n, rfl⟩ : ∃ n : Nat, k = (n : Int) := ⟨k.toNat, by omega⟩
    obtain ⟨f', rfl⟩ : ∃ f' : Nat, f = (f' : Int) := ⟨f.toNat, by omega⟩
    obtain ⟨d', rfl⟩ : ∃ d' : Nat, d = (d' : Int) := ⟨d.toNat, by omega⟩
    rw [Int.toNat_natCast] at h5 h6
    exact few_yes (c := ⟨n, f', L, d'⟩) hs (by dsimp only; omega) (by dsimp only; omega) h3 (by dsimp only; omega) h6 hL (by dsimp only; omega)
  · exact few_bad hs h
end Go.Proofs.Ytbfcfekpfgpfbaa
