/- What is certified, or decided, stays so; how many have voted. The walks. No condition. -/
import Derived.Test.YtghnahckopokhaaM4
import Derived.Test.YtghnahckopokhaaB1
namespace Go.Proofs.Ytghnahckopokhaa
open Go.RowKit
set_option linter.unusedVariables false
set_option linter.unusedSimpArgs false
set_option maxRecDepth 100000

theorem eqBlk (a b c d : Int) (w : World) : (Op.equal 35 (.agg #[.int .i64 a, .int .i64 b]) (.agg #[.int .i64 c, .int .i64 d])).run Try.prog w = .ok (decide (a = c ∧ b = d)) w := by
  unfold Op.equal Op.maxDepth
  rw [show (10000 : Nat) = 9998 + 1 + 1 from rfl, Op.equalIn]
  simp only [Sem.run_bind, run_underlying Try.underlying35, Result.andThen, Sem.run_pure]
  by_cases h1 : a = c <;> by_cases h2 : b = d <;> simp [h1, h2] <;> go_simp
theorem play_some {W : World} {k f : Int} {L : Nat} {sv : Value} {cs : List Sy} (hL : L < 4294967296) (hs : SlS FM 5 W sv cs) :
    Calls Try.prog 8 #[.int .i64 k, .int .i64 f, .int .u32 ((L : Nat) : Int), sv] W fun e w' => ∃ v, e = .returned v ∧ (∃ (a a' a'' a3 : Option Addr) (m c m' c' m'' c'' m3 c3 : Nat) (z : Int), v = .tuple #[.agg #[.slice a m c, .slice a' m' c', .slice a'' m'' c'', .slice a3 m3 c3], .int .i64 z]) ∧ Below W.heap.size W w' := by
  by_cases h : Valid k f L cs
  · obtain ⟨h1, h2, h3, h4, h5, h6⟩ := h
    obtain ⟨n, rfl⟩ : ∃ n : Nat, k = (n : Int) := ⟨k.toNat, by omega⟩
    obtain ⟨f', rfl⟩ : ∃ f' : Nat, f = (f' : Int) := ⟨f.toNat, by omega⟩
    rw [Int.toNat_natCast] at h5 h6
    refine (play_ok (c := ⟨n, n - f', L⟩) hs (by dsimp only; omega) (by dsimp only; omega) h3 (by dsimp only; omega) (by dsimp only; omega) h6 hL).mono fun e w' ⟨v, he, ⟨cv, bv, wv, dv, ds, hv, h1, h2, h3, h4, _⟩, hb⟩ => ⟨v, he, ?_, hb⟩
    obtain ⟨_, _, _, rfl⟩ := h1.isS
    obtain ⟨_, _, _, rfl⟩ := h2.isS
    obtain ⟨_, _, _, rfl⟩ := h3.isS
    obtain ⟨_, _, _, rfl⟩ := h4.isS
    exact ⟨_, _, _, _, _, _, _, _, _, _, _, _, _, hv⟩
  · exact (play_bad hs h).mono fun e w' ⟨v, he, ⟨z, _, hv⟩, hb⟩ => ⟨v, he, ⟨_, _, _, _, _, _, _, _, _, _, _, _, z, hv⟩, hb⟩
theorem front_bad {W : World} {k f : Int} {L : Nat} {sv : Value} {kk : Nat} {cs : List Sy} (hs : SlS FM 5 W sv cs) (hbad : ¬ Valid k f L cs) (hL : L < 4294967296) (hk : kk ≤ 255) :
    Calls Try.prog 4 #[.int .i64 k, .int .i64 f, .int .u32 ((L : Nat) : Int), sv, .int .u8 ((kk : Nat) : Int)] W fun e w' => e = .returned (.bool true) ∧ Below W.heap.size W w' := by
  have hk9 := hk
  have hkm := Nat.mod_lt kk (show 0 < cs.length + 1 by omega)
  have hm9 := sls_bd hs
  refine calls_pure (Gx.enter (l := []) Try.func4 rfl Try.ntmps4 rfl (Sat.start W) ?_)
  refine Gx.know (m' := [(0, .int .i64 k), (1, .int .i64 f), (2, .int .u32 ((L : Nat) : Int)), (3, sv), (4, .int .u8 ((kk : Nat) : Int))]) (.cons rfl (.cons rfl (.cons rfl (.cons rfl (.cons rfl .nil))))) ?_
  refine Gx.seq ?_
  refine Gx.region ?_
  refine Gx.val rfl rfl rfl (val_assign rfl rfl) ?_
  refine Gx.done ?_
  refine Gx.thenN ?_
  refine Gx.seq ?_
  refine Gx.region ?_
  refine Gx.val rfl rfl rfl (val_move rfl rfl) ?_
  refine Gx.val rfl rfl rfl (val_move rfl rfl) ?_
  refine Gx.val rfl rfl rfl (val_move rfl rfl) ?_
  refine Gx.val rfl rfl rfl (val_move rfl rfl) ?_
  refine Gx.eff rfl rfl rfl (eff_callE (vs := [.int .i64 k, .int .i64 f, .int .u32 ((L : Nat) : Int), sv]) rfl Try.fn8 rfl (R := fun v => ∃ z : Int, z ≠ 0 ∧ v = .tuple #[.agg #[.slice none 0 0, .slice none 0 0, .slice none 0 0, .slice none 0 0], .int .i64 z]) (fun w H => play_bad (hs.below H.below) hbad)) ?_
  rintro _ _ ⟨⟨zz1, hzz2, rfl⟩, rfl⟩
  refine Gx.val rfl rfl rfl (val_move rfl rfl) ?_
  refine Gx.val rfl rfl rfl (val_extract rfl rfl rfl) ?_
  refine Gx.val rfl rfl rfl (val_extract rfl rfl rfl) ?_
  refine Gx.eff rfl rfl rfl (eff_alloc rfl Try.ty28 (vs := [.slice none 0 0, .slice none 0 0, .slice none 0 0, .slice none 0 0]) rfl) ?_
  rintro _ _ ⟨b3, rfl, rfl⟩
  refine Gx.eff0 rfl rfl (eff_store rfl Try.ty28 rfl rfl (us := [.slice none 0 0, .slice none 0 0, .slice none 0 0, .slice none 0 0]) rfl rfl rfl (k := 0) rfl (rfl) (vs' := [.slice none 0 0, .slice none 0 0, .slice none 0 0, .slice none 0 0]) (rfl) (l' := [Hp.rec_ b3 [.slice none 0 0, .slice none 0 0, .slice none 0 0, .slice none 0 0]]) rfl) ?_
  rintro _ _ rfl
  refine Gx.val rfl rfl rfl (val_assign rfl rfl) ?_
  refine Gx.done ?_
  refine Gx.thenN ?_
  refine Gx.seq ?_
  refine Gx.region ?_
  refine Gx.val rfl rfl rfl (val_move rfl rfl) ?_
  refine Gx.val rfl rfl rfl (val_conv rfl Try.underlying5 Try.underlying3 rfl (r := ((kk : Nat) : Int)) (w64 rfl (by omega))) ?_
  refine Gx.val rfl rfl rfl (val_move rfl rfl) ?_
  refine Gx.val rfl rfl rfl (val_len rfl Try.underlying23 rfl (len_base hs)) ?_
  refine Gx.val rfl rfl rfl (val_add rfl rfl rfl (r := ((cs.length + 1 : Nat) : Int)) (w64 (by omega) (by omega))) ?_
  refine Gx.val rfl rfl rfl (val_rem rfl rfl rfl (r := ((kk % (cs.length + 1) : Nat) : Int)) (by omega) (rfl)) ?_
  refine Gx.val rfl rfl rfl (val_assign rfl rfl) ?_
  refine Gx.done ?_
  refine Gx.thenN ?_
  refine Gx.seq ?_
  refine Gx.region ?_
  refine Gx.val rfl rfl rfl (val_move rfl rfl) ?_
  refine Gx.val rfl rfl rfl (val_move rfl rfl) ?_
  refine Gx.val rfl rfl rfl (val_move rfl rfl) ?_
  refine Gx.val rfl rfl rfl (val_move rfl rfl) ?_
  refine Gx.val rfl rfl rfl (val_move rfl rfl) ?_
  have hcut4 : SlS FM 5 W (sCut 5 0 (kk % (cs.length + 1)) sv) (cs.take (kk % (cs.length + 1))) := (hs).cut (lo := 0) (hi := kk % (cs.length + 1)) (by omega) (by omega)
  refine Gx.val rfl rfl rfl (val_cutTo (up := kk % (cs.length + 1)) rfl Try.underlying23 Try.ty42 rfl hs rfl (rfl) (by omega)) ?_
  refine Gx.eff rfl rfl rfl (eff_callE (vs := [.int .i64 k, .int .i64 f, .int .u32 ((L : Nat) : Int), sCut 5 0 (kk % (cs.length + 1)) sv]) rfl Try.fn8 rfl (R := fun v => ∃ (a a' a'' a3 : Option Addr) (m c m' c' m'' c'' m3 c3 : Nat) (z : Int), v = .tuple #[.agg #[.slice a m c, .slice a' m' c', .slice a'' m'' c'', .slice a3 m3 c3], .int .i64 z]) (fun w H => play_some hL (hcut4.below H.below))) ?_
  rintro _ _ ⟨⟨za6, za7, za8, za9, za10, za11, za12, za13, za14, za15, za16, za17, zz5, rfl⟩, rfl⟩
  refine Gx.val rfl rfl rfl (val_move rfl rfl) ?_
  refine Gx.val rfl rfl rfl (val_extract rfl rfl rfl) ?_
  refine Gx.val rfl rfl rfl (val_extract rfl rfl rfl) ?_
  refine Gx.eff rfl rfl rfl (eff_alloc rfl Try.ty28 (vs := [.slice none 0 0, .slice none 0 0, .slice none 0 0, .slice none 0 0]) rfl) ?_
  rintro _ _ ⟨b18, rfl, rfl⟩
  refine Gx.eff0 rfl rfl (eff_store rfl Try.ty28 rfl rfl (us := [.slice za6 za10 za11, .slice za7 za12 za13, .slice za8 za14 za15, .slice za9 za16 za17]) rfl rfl rfl (k := 0) rfl (rfl) (vs' := [.slice za6 za10 za11, .slice za7 za12 za13, .slice za8 za14 za15, .slice za9 za16 za17]) (rfl) (l' := [Hp.rec_ b18 [.slice za6 za10 za11, .slice za7 za12 za13, .slice za8 za14 za15, .slice za9 za16 za17], Hp.rec_ b3 [.slice none 0 0, .slice none 0 0, .slice none 0 0, .slice none 0 0]]) rfl) ?_
  rintro _ _ rfl
  refine Gx.val rfl rfl rfl (val_assign rfl rfl) ?_
  refine Gx.done ?_
  refine Gx.thenN ?_
  refine Gx.seq ?_
  refine Gx.seq ?_
  refine Gx.region ?_
  refine Gx.val rfl rfl rfl (val_move rfl rfl) ?_
  refine Gx.val rfl rfl rfl (val_neq rfl rfl rfl) ?_
  refine Gx.done ?_
  refine Gx.thenN ?_
  refine Gx.decT rfl (by omega) ?_
  refine Gx.seq ?_
  refine Gx.region ?_
  refine Gx.val rfl rfl rfl (val_assign rfl rfl) ?_
  refine Gx.done ?_
  refine Gx.thenN ?_
  refine Gx.ret ?_
  refine Gx.thenR ?_
  refine Gx.ret1 Try.results4 rfl ?_
  rfl

theorem front_yes {W : World} {c : MC} {f : Nat} {sv : Value} {kk : Nat} {cs : List Sy} (hs : SlS FM 5 W sv cs) (h1n : 1 ≤ c.n) (h7n : c.n ≤ 7) (hcl : cs.length ≤ 120) (hf : f ≤ (c.n - 1) / 3) (hfn : c.need + f = c.n) (hLn : c.L >>> c.n = 0) (hL : c.L < 4294967296) (hk : kk ≤ 255) :
    Calls Try.prog 4 #[.int .i64 ((c.n : Nat) : Int), .int .i64 ((f : Nat) : Int), .int .u32 ((c.L : Nat) : Int), sv, .int .u8 ((kk : Nat) : Int)] W fun e w' => e = .returned (.bool true) ∧ Below W.heap.size W w' := by
  have hk9 := hk
  have hkm := Nat.mod_lt kk (show 0 < cs.length + 1 by omega)
  have hm9 := sls_bd hs
  have ok : OkM c := ⟨h7n, by omega, hL⟩
  have bd := BdM.at_ ok cs
  have iv := InvM.run ok cs (BdM.start c) (InvM.start c)
  have hb40 := bd.b40
  have hpos := bd.pos
  have hlt : (cs.take (kk % (cs.length + 1))).length = kk % (cs.length + 1) := by rw [List.length_take]; omega
  have bd2 := BdM.at_ ok (cs.take (kk % (cs.length + 1)))
  have hle : (stM c (ms0 c.n) (cs.take (kk % (cs.length + 1)))).bl.length ≤ (stM c (ms0 c.n) cs).bl.length ∧ (∀ b, b < (stM c (ms0 c.n) (cs.take (kk % (cs.length + 1)))).bl.length → (stM c (ms0 c.n) cs).bl[b]? = (stM c (ms0 c.n) (cs.take (kk % (cs.length + 1)))).bl[b]?) ∧ (∀ b, certM c (stM c (ms0 c.n) (cs.take (kk % (cs.length + 1)))) b = true → certM c (stM c (ms0 c.n) cs) b = true) := by
    have := run_keep ok (cs.drop (kk % (cs.length + 1))) bd2
    rwa [← stM_app, List.take_append_drop] at this
  have hle1 := hle.1
  refine calls_pure (Gx.enter (l := []) Try.func4 rfl Try.ntmps4 rfl (Sat.start W) ?_)
  refine Gx.know (m' := [(0, .int .i64 ((c.n : Nat) : Int)), (1, .int .i64 ((f : Nat) : Int)), (2, .int .u32 ((c.L : Nat) : Int)), (3, sv), (4, .int .u8 ((kk : Nat) : Int))]) (.cons rfl (.cons rfl (.cons rfl (.cons rfl (.cons rfl .nil))))) ?_
  refine Gx.seq ?_
  refine Gx.region ?_
  refine Gx.val rfl rfl rfl (val_assign rfl rfl) ?_
  refine Gx.done ?_
  refine Gx.thenN ?_
  refine Gx.seq ?_
  refine Gx.region ?_
  refine Gx.val rfl rfl rfl (val_move rfl rfl) ?_
  refine Gx.val rfl rfl rfl (val_move rfl rfl) ?_
  refine Gx.val rfl rfl rfl (val_move rfl rfl) ?_
  refine Gx.val rfl rfl rfl (val_move rfl rfl) ?_
  refine Gx.callB rfl rfl rfl (vs := [.int .i64 ((c.n : Nat) : Int), .int .i64 ((f : Nat) : Int), .int .u32 ((c.L : Nat) : Int), sv]) rfl Try.fn8 rfl (R := fun v w' => ∃ (cv bv wv dv : Value) (ds : List Bool), v = .tuple #[.agg #[cv, bv, wv, dv], .int .i64 0] ∧ SlS FZ 1 w' cv (codesM c (ms0 c.n) cs) ∧ SlS FK 2 w' bv (stM c (ms0 c.n) cs).bl ∧ SlS FB 1 w' wv (certL c (stM c (ms0 c.n) cs)) ∧ SlS FB 1 w' dv ds ∧ Chn.IsDec (blsP (stM c (ms0 c.n) cs).bl) (certL c (stM c (ms0 c.n) cs)) (stM c (ms0 c.n) cs).bl.length ds) (fun w H => play_ok (hs.below H.below) h1n h7n (by omega) hf hfn hLn hL) ?_
  rintro _ W7 ⟨cv1, bv2, wv3, dv4, ds5, rfl, hcv1, hbv2, hwv3, hdv4, hds6⟩ H8
  have hW9 := H8.below
  have hs10 := hs.below H8.below
  have hclcv1 : (codesM c (ms0 c.n) cs).length = (cs).length := codesM_len ..
  have hwlcv1 : (certL c (stM c (ms0 c.n) cs)).length = (stM c (ms0 c.n) cs).bl.length := by unfold certL; rw [List.length_map, List.length_range]
  have hdlcv1 : ds5.length = (stM c (ms0 c.n) cs).bl.length := by rw [hds6.1, List.length_map]
  obtain ⟨sa11, sn12, sc13, rfl⟩ := hcv1.isS
  obtain ⟨sa14, sn15, sc16, rfl⟩ := hbv2.isS
  obtain ⟨sa17, sn18, sc19, rfl⟩ := hwv3.isS
  obtain ⟨sa20, sn21, sc22, rfl⟩ := hdv4.isS
  refine Gx.val rfl rfl rfl (val_move rfl rfl) ?_
  refine Gx.val rfl rfl rfl (val_extract rfl rfl rfl) ?_
  refine Gx.val rfl rfl rfl (val_extract rfl rfl rfl) ?_
  refine Gx.eff rfl rfl rfl (eff_alloc rfl Try.ty28 (vs := [.slice none 0 0, .slice none 0 0, .slice none 0 0, .slice none 0 0]) rfl) ?_
  rintro _ _ ⟨b23, rfl, rfl⟩
  refine Gx.eff0 rfl rfl (eff_store rfl Try.ty28 rfl rfl (us := [.slice sa11 sn12 sc13, .slice sa14 sn15 sc16, .slice sa17 sn18 sc19, .slice sa20 sn21 sc22]) rfl rfl rfl (k := 0) rfl (rfl) (vs' := [.slice sa11 sn12 sc13, .slice sa14 sn15 sc16, .slice sa17 sn18 sc19, .slice sa20 sn21 sc22]) (rfl) (l' := [Hp.rec_ b23 [.slice sa11 sn12 sc13, .slice sa14 sn15 sc16, .slice sa17 sn18 sc19, .slice sa20 sn21 sc22]]) rfl) ?_
  rintro _ _ rfl
  refine Gx.val rfl rfl rfl (val_assign rfl rfl) ?_
  refine Gx.done ?_
  refine Gx.thenN ?_
  refine Gx.seq ?_
  refine Gx.region ?_
  refine Gx.val rfl rfl rfl (val_move rfl rfl) ?_
  refine Gx.val rfl rfl rfl (val_conv rfl Try.underlying5 Try.underlying3 rfl (r := ((kk : Nat) : Int)) (w64 rfl (by omega))) ?_
  refine Gx.val rfl rfl rfl (val_move rfl rfl) ?_
  refine Gx.val rfl rfl rfl (val_len rfl Try.underlying23 rfl (len_base hs10)) ?_
  refine Gx.val rfl rfl rfl (val_add rfl rfl rfl (r := ((cs.length + 1 : Nat) : Int)) (w64 (by omega) (by omega))) ?_
  refine Gx.val rfl rfl rfl (val_rem rfl rfl rfl (r := ((kk % (cs.length + 1) : Nat) : Int)) (by omega) (rfl)) ?_
  refine Gx.val rfl rfl rfl (val_assign rfl rfl) ?_
  refine Gx.done ?_
  refine Gx.thenN ?_
  refine Gx.seq ?_
  refine Gx.region ?_
  refine Gx.val rfl rfl rfl (val_move rfl rfl) ?_
  refine Gx.val rfl rfl rfl (val_move rfl rfl) ?_
  refine Gx.val rfl rfl rfl (val_move rfl rfl) ?_
  refine Gx.val rfl rfl rfl (val_move rfl rfl) ?_
  refine Gx.val rfl rfl rfl (val_move rfl rfl) ?_
  have hcut24 : SlS FM 5 W7 (sCut 5 0 (kk % (cs.length + 1)) sv) (cs.take (kk % (cs.length + 1))) := (hs10).cut (lo := 0) (hi := kk % (cs.length + 1)) (by omega) (by omega)
  refine Gx.val rfl rfl rfl (val_cutTo (up := kk % (cs.length + 1)) rfl Try.underlying23 Try.ty42 rfl hs10 rfl (rfl) (by omega)) ?_
  refine Gx.callB rfl rfl rfl (vs := [.int .i64 ((c.n : Nat) : Int), .int .i64 ((f : Nat) : Int), .int .u32 ((c.L : Nat) : Int), sCut 5 0 (kk % (cs.length + 1)) sv]) rfl Try.fn8 rfl (R := fun v w' => ∃ (cv bv wv dv : Value) (ds : List Bool), v = .tuple #[.agg #[cv, bv, wv, dv], .int .i64 0] ∧ SlS FZ 1 w' cv (codesM c (ms0 c.n) (cs.take (kk % (cs.length + 1)))) ∧ SlS FK 2 w' bv (stM c (ms0 c.n) (cs.take (kk % (cs.length + 1)))).bl ∧ SlS FB 1 w' wv (certL c (stM c (ms0 c.n) (cs.take (kk % (cs.length + 1))))) ∧ SlS FB 1 w' dv ds ∧ Chn.IsDec (blsP (stM c (ms0 c.n) (cs.take (kk % (cs.length + 1)))).bl) (certL c (stM c (ms0 c.n) (cs.take (kk % (cs.length + 1))))) (stM c (ms0 c.n) (cs.take (kk % (cs.length + 1)))).bl.length ds) (fun w H => play_ok (hcut24.below H.below) h1n h7n (by rw [List.length_take]; omega) hf hfn hLn hL) ?_
  rintro _ W31 ⟨cv25, bv26, wv27, dv28, ds29, rfl, hcv25, hbv26, hwv27, hdv28, hds30⟩ H32
  have hW33 := hW9.trans (H32.below.mono hW9.size)
  have hs34 := hs10.below H32.below
  have hs35 := hcv1.below H32.below
  have hs36 := hbv2.below H32.below
  have hs37 := hwv3.below H32.below
  have hs38 := hdv4.below H32.below
  have hs39 := hcut24.below H32.below
  have hb40 := (H32.at_ (k := 0) rfl).rec_.1
  have hc41 := (H32.at_ (k := 0) rfl).cell 0 (u := .slice sa11 sn12 sc13) rfl
  have hc42 := (H32.at_ (k := 0) rfl).cell 1 (u := .slice sa14 sn15 sc16) rfl
  have hc43 := (H32.at_ (k := 0) rfl).cell 2 (u := .slice sa17 sn18 sc19) rfl
  have hc44 := (H32.at_ (k := 0) rfl).cell 3 (u := .slice sa20 sn21 sc22) rfl
  have hclcv25 : (codesM c (ms0 c.n) (cs.take (kk % (cs.length + 1)))).length = ((cs.take (kk % (cs.length + 1)))).length := codesM_len ..
  have hwlcv25 : (certL c (stM c (ms0 c.n) (cs.take (kk % (cs.length + 1))))).length = (stM c (ms0 c.n) (cs.take (kk % (cs.length + 1)))).bl.length := by unfold certL; rw [List.length_map, List.length_range]
  have hdlcv25 : ds29.length = (stM c (ms0 c.n) (cs.take (kk % (cs.length + 1)))).bl.length := by rw [hds30.1, List.length_map]
  obtain ⟨sa45, sn46, sc47, rfl⟩ := hcv25.isS
  obtain ⟨sa48, sn49, sc50, rfl⟩ := hbv26.isS
  obtain ⟨sa51, sn52, sc53, rfl⟩ := hwv27.isS
  obtain ⟨sa54, sn55, sc56, rfl⟩ := hdv28.isS
  refine Gx.val rfl rfl rfl (val_move rfl rfl) ?_
  refine Gx.val rfl rfl rfl (val_extract rfl rfl rfl) ?_
  refine Gx.val rfl rfl rfl (val_extract rfl rfl rfl) ?_
  refine Gx.eff rfl rfl rfl (eff_alloc rfl Try.ty28 (vs := [.slice none 0 0, .slice none 0 0, .slice none 0 0, .slice none 0 0]) rfl) ?_
  rintro _ _ ⟨b57, rfl, rfl⟩
  refine Gx.eff0 rfl rfl (eff_store rfl Try.ty28 rfl rfl (us := [.slice sa45 sn46 sc47, .slice sa48 sn49 sc50, .slice sa51 sn52 sc53, .slice sa54 sn55 sc56]) rfl rfl rfl (k := 0) rfl (rfl) (vs' := [.slice sa45 sn46 sc47, .slice sa48 sn49 sc50, .slice sa51 sn52 sc53, .slice sa54 sn55 sc56]) (rfl) (l' := [Hp.rec_ b57 [.slice sa45 sn46 sc47, .slice sa48 sn49 sc50, .slice sa51 sn52 sc53, .slice sa54 sn55 sc56]]) rfl) ?_
  rintro _ _ rfl
  refine Gx.val rfl rfl rfl (val_assign rfl rfl) ?_
  refine Gx.done ?_
  refine Gx.thenN ?_
  refine Gx.seq ?_
  refine Gx.seq ?_
  refine Gx.region ?_
  refine Gx.val rfl rfl rfl (val_move rfl rfl) ?_
  refine Gx.val rfl rfl rfl (Val.cast (val_neq rfl rfl rfl) (v' := .bool false) rfl) ?_
  refine Gx.done ?_
  refine Gx.thenN ?_
  refine Gx.f rfl ?_
  refine Gx.skip ?_
  refine Gx.thenN ?_
  refine Gx.seq ?_
  refine Gx.seq ?_
  refine Gx.regionQ Try.mixed (by kernel_rfl) ?_
  refine Gq.val rfl rfl rfl (val_move rfl rfl) ?_
  refine Gq.val rfl rfl rfl (Val.cast (val_neq rfl rfl rfl) (v' := .bool false) rfl) ?_
  refine Gq.val rfl rfl rfl (val_move rfl rfl) ?_
  refine Gq.valg rfl rfl rfl rfl rfl (Val.cast (val_loadA rfl Try.ty28 rfl rfl (us := [.slice sa11 sn12 sc13, .slice sa14 sn15 sc16, .slice sa17 sn18 sc19, .slice sa20 sn21 sc22]) rfl (cells_cons (cell_old hb40 hc41) (cells_cons (cell_old hb40 hc42) (cells_cons (cell_old hb40 hc43) (cells_cons (cell_old hb40 hc44) cells_nil))))) (v' := .agg #[.slice sa11 sn12 sc13, .slice sa14 sn15 sc16, .slice sa17 sn18 sc19, .slice sa20 sn21 sc22]) rfl) ?_
  refine Gq.valg rfl rfl rfl rfl rfl (val_move rfl rfl) ?_
  refine Gq.valg rfl rfl rfl rfl rfl (val_call (vs := [.agg #[.slice sa11 sn12 sc13, .slice sa14 sn15 sc16, .slice sa17 sn18 sc19, .slice sa20 sn21 sc22], sv]) rfl Try.fn9 rfl (fun w H => met_yes (hs35.below H.below) (hs36.below H.below) (hs37.below H.below) (hs38.below H.below) (hs34.below H.below) (by omega) bd.okc (by omega) (by omega))) ?_
  refine Gq.valg rfl rfl rfl rfl rfl (Val.cast (val_not rfl rfl) (v' := .bool false) rfl) ?_
  refine Gq.val rfl rfl rfl (val_pickF rfl rfl rfl) ?_
  refine Gq.val rfl rfl rfl (val_move rfl rfl) ?_
  refine Gq.valg rfl rfl rfl rfl rfl (Val.cast (val_loadA rfl Try.ty28 rfl rfl rfl (cells_rec (k := 0) rfl)) (v' := .agg #[.slice sa45 sn46 sc47, .slice sa48 sn49 sc50, .slice sa51 sn52 sc53, .slice sa54 sn55 sc56]) rfl) ?_
  refine Gq.valg rfl rfl rfl rfl rfl (val_move rfl rfl) ?_
  refine Gq.valg rfl rfl rfl rfl rfl (val_move rfl rfl) ?_
  have hcut58 : SlS FM 5 W31 (sCut 5 0 (kk % (cs.length + 1)) sv) (cs.take (kk % (cs.length + 1))) := (hs34).cut (lo := 0) (hi := kk % (cs.length + 1)) (by omega) (by omega)
  refine Gq.valg rfl rfl rfl rfl rfl (val_cutTo (up := kk % (cs.length + 1)) rfl Try.underlying23 Try.ty42 rfl hs34 rfl (rfl) (by omega)) ?_
  refine Gq.valg rfl rfl rfl rfl rfl (val_call (vs := [.agg #[.slice sa45 sn46 sc47, .slice sa48 sn49 sc50, .slice sa51 sn52 sc53, .slice sa54 sn55 sc56], sCut 5 0 (kk % (cs.length + 1)) sv]) rfl Try.fn9 rfl (fun w H => met_yes (hcv25.below H.below) (hbv26.below H.below) (hwv27.below H.below) (hdv28.below H.below) (hcut58.below H.below) (by omega) bd2.okc (by omega) (by omega))) ?_
  refine Gq.valg rfl rfl rfl rfl rfl (Val.cast (val_not rfl rfl) (v' := .bool false) rfl) ?_
  refine Gq.val rfl rfl rfl (val_pickF rfl rfl rfl) ?_
  refine Gq.val rfl rfl rfl (val_move rfl rfl) ?_
  refine Gq.valg rfl rfl rfl rfl rfl (Val.cast (val_fieldAddr rfl Try.underlying28 rfl Try.ty25 rfl rfl) (v' := ptr b57 1) rfl) ?_
  refine Gq.valg rfl rfl rfl rfl rfl (val_load rfl Try.ty25 rfl rfl (cell_rec (k := 0) rfl rfl)) ?_
  refine Gq.valg rfl rfl rfl rfl rfl (val_len rfl Try.underlying25 rfl (len_base hbv26)) ?_
  refine Gq.valg rfl rfl rfl rfl rfl (Val.cast (val_fieldAddr rfl Try.underlying28 rfl Try.ty25 rfl rfl) (v' := ptr b23 1) rfl) ?_
  refine Gq.valg rfl rfl rfl rfl rfl (val_load rfl Try.ty25 rfl rfl (cell_old hb40 hc42)) ?_
  refine Gq.valg rfl rfl rfl rfl rfl (val_len rfl Try.underlying25 rfl (len_base hs36)) ?_
  refine Gq.valg rfl rfl rfl rfl rfl (val_gtr rfl rfl rfl) ?_
  refine Gq.val rfl rfl rfl (val_pickF rfl rfl rfl) ?_
  refine Gq.done ?_
  refine Gx.thenN ?_
  refine Gx.decF rfl (by omega) ?_
  refine Gx.skip ?_
  refine Gx.thenN ?_
  refine Gx.seq ?_
  refine Gx.seq ?_
  refine Gx.region ?_
  refine Gx.val rfl rfl rfl (val_assign rfl rfl) ?_
  refine Gx.done ?_
  refine Gx.thenN ?_
  refine Gx.block ?_
  refine Gx.loop (ι := Nat) (fun ξ => (ξ ≤ (stM c (ms0 c.n) (cs.take (kk % (cs.length + 1)))).bl.length)) (fun ξ => [(11, ptr b23 0), (14, ptr b57 0), (16, .int .i64 ((ξ : Nat) : Int))]) (fun ξ => [Hp.rec_ b57 [.slice sa45 sn46 sc47, .slice sa48 sn49 sc50, .slice sa51 sn52 sc53, .slice sa54 sn55 sc56]]) (fun ξ => (stM c (ms0 c.n) (cs.take (kk % (cs.length + 1)))).bl.length - ξ) 0 (by first | omega | (dsimp only; omega)) ((.cons rfl (.cons rfl (.cons rfl .nil)))) rfl ?_
  rintro i hi
  refine Gx.know (m' := [(11, ptr b23 0), (14, ptr b57 0), (16, .int .i64 ((i : Nat) : Int))]) (.cons rfl (.cons rfl (.cons rfl .nil))) (Gx.norm (l' := [Hp.rec_ b57 [.slice sa45 sn46 sc47, .slice sa48 sn49 sc50, .slice sa51 sn52 sc53, .slice sa54 sn55 sc56]]) rfl ?_)
  refine Gx.seq ?_
  refine Gx.seq ?_
  refine Gx.region ?_
  refine Gx.val rfl rfl rfl (val_move rfl rfl) ?_
  refine Gx.val rfl rfl rfl (Val.cast (val_fieldAddr rfl Try.underlying28 rfl Try.ty25 rfl rfl) (v' := ptr b57 1) rfl) ?_
  refine Gx.val rfl rfl rfl (val_load rfl Try.ty25 rfl rfl (cell_rec (k := 0) rfl rfl)) ?_
  refine Gx.val rfl rfl rfl (val_len rfl Try.underlying25 rfl (len_base hbv26)) ?_
  refine Gx.val rfl rfl rfl (val_lss rfl rfl rfl) ?_
  refine Gx.done ?_
  refine Gx.thenN ?_
  refine Gx.dec rfl (fun h59 => ?_) (fun h59 => ?_)
  · refine Gx.skip ?_
    refine Gx.thenN ?_
    refine Gx.seq ?_
    refine Gx.block ?_
    refine Gx.seq ?_
    obtain ⟨x, hx⟩ := get_of_lt (xs := (stM c (ms0 c.n) (cs.take (kk % (cs.length + 1)))).bl) (k := i) (by omega)
    have hx2 : (stM c (ms0 c.n) cs).bl[i]? = some x := by rw [hle.2.1 i (by omega)]; exact hx
    obtain ⟨y1, hy1⟩ := get_of_lt (xs := certL c (stM c (ms0 c.n) (cs.take (kk % (cs.length + 1))))) (k := i) (by omega)
    obtain ⟨y2, hy2⟩ := get_of_lt (xs := certL c (stM c (ms0 c.n) cs)) (k := i) (by omega)
    obtain ⟨z1, hz1⟩ := get_of_lt (xs := ds29) (k := i) (by omega)
    obtain ⟨z2, hz2⟩ := get_of_lt (xs := ds5) (k := i) (by omega)
    have hyy : y1 = true → y2 = true := fun h => by
      have h9 : Chn.On (certL c (stM c (ms0 c.n) cs)) i := on_cert.2 ⟨by omega, hle.2.2 i (cert_at hy1 h)⟩
      exact Option.some.inj (hy2.symm.trans h9)
    have hzz : z1 = true → z2 = true := fun h => by
      obtain ⟨k7, hk7, h7⟩ := (hds30.2 i).1 (show ds29[i]? = some true by rw [hz1, h])
      have h9 : Chn.On ds5 i := (hds6.2 i).2 ⟨k7, by omega, dec_up bd2 hle.1 hle.2.1 hle.2.2 hk7 h7⟩
      exact Option.some.inj (hz2.symm.trans h9)
    refine Gx.regionQ Try.mixed (by kernel_rfl) ?_
    refine Gq.val rfl rfl rfl (Val.cast (val_fieldAddr rfl Try.underlying28 rfl Try.ty25 rfl rfl) (v' := ptr b57 1) rfl) ?_
    refine Gq.val rfl rfl rfl (val_load rfl Try.ty25 rfl rfl (cell_rec (k := 0) rfl rfl)) ?_
    refine Gq.val rfl rfl rfl (val_move rfl rfl) ?_
    refine Gq.val rfl rfl rfl (val_ixa rfl Try.underlying25 Try.ty35 rfl rfl (j := i) (rfl) (reach_base hbv26 hx)) ?_
    refine Gq.val rfl rfl rfl (Val.cast (val_loadA rfl Try.ty35 rfl rfl rfl (cells_base hbv26 hx)) (v' := .agg #[.int .i64 x.par, .int .i64 ((x.rnd : Nat) : Int)]) rfl) ?_
    refine Gq.val rfl rfl rfl (Val.cast (val_fieldAddr rfl Try.underlying28 rfl Try.ty25 rfl rfl) (v' := ptr b23 1) rfl) ?_
    refine Gq.val rfl rfl rfl (val_load rfl Try.ty25 rfl rfl (cell_old hb40 hc42)) ?_
    refine Gq.val rfl rfl rfl (val_move rfl rfl) ?_
    refine Gq.val rfl rfl rfl (val_ixa rfl Try.underlying25 Try.ty35 rfl rfl (j := i) (rfl) (reach_base hs36 hx2)) ?_
    refine Gq.val rfl rfl rfl (Val.cast (val_loadA rfl Try.ty35 rfl rfl rfl (cells_base hs36 hx2)) (v' := .agg #[.int .i64 x.par, .int .i64 ((x.rnd : Nat) : Int)]) rfl) ?_
    refine Gq.val rfl rfl rfl (Val.cast (val_neqR rfl rfl rfl (by kernel_rfl) (fun w => eqBlk _ _ _ _ w)) (v' := .bool false) (by simp)) ?_
    refine Gq.val rfl rfl rfl (val_move rfl rfl) ?_
    refine Gq.valg rfl rfl rfl rfl rfl (Val.cast (val_fieldAddr rfl Try.underlying28 rfl Try.ty26 rfl rfl) (v' := ptr b57 2) rfl) ?_
    refine Gq.valg rfl rfl rfl rfl rfl (val_load rfl Try.ty26 rfl rfl (cell_rec (k := 0) rfl rfl)) ?_
    refine Gq.valg rfl rfl rfl rfl rfl (val_move rfl rfl) ?_
    refine Gq.valg rfl rfl rfl rfl rfl (val_ixa rfl Try.underlying26 Try.ty4 rfl rfl (j := i) (rfl) (reach_base hwv27 hy1)) ?_
    refine Gq.valg rfl rfl rfl rfl rfl (val_load rfl Try.ty4 rfl rfl (cell_base (i := 0) hwv27 hy1 rfl)) ?_
    refine Gq.valg rfl rfl rfl rfl rfl (val_move rfl rfl) ?_
    refine Gq.casesB (t := 92) rfl (fun h60 => ?_) (fun h60 => ?_)
    · refine Gq.valg rfl rfl rfl rfl rfl (Val.cast (val_fieldAddr rfl Try.underlying28 rfl Try.ty26 rfl rfl) (v' := ptr b23 2) rfl) ?_
      refine Gq.valg rfl rfl rfl rfl rfl (val_load rfl Try.ty26 rfl rfl (cell_old hb40 hc43)) ?_
      refine Gq.valg rfl rfl rfl rfl rfl (val_move rfl rfl) ?_
      refine Gq.valg rfl rfl rfl rfl rfl (val_ixa rfl Try.underlying26 Try.ty4 rfl rfl (j := i) (rfl) (reach_base hs37 hy2)) ?_
      refine Gq.valg rfl rfl rfl rfl rfl (val_load rfl Try.ty4 rfl rfl (cell_base (i := 0) hs37 hy2 rfl)) ?_
      refine Gq.valg rfl rfl rfl rfl rfl (val_not rfl rfl) ?_
      refine Gq.valg rfl rfl rfl rfl rfl (val_pickT rfl rfl rfl) ?_
      refine Gq.val rfl rfl rfl (val_pickF rfl rfl rfl) ?_
      refine Gq.val rfl rfl rfl (val_move rfl rfl) ?_
      refine Gq.slot (t := 101) (v := .bool false) (look_boolF rfl (by rw [hyy h60]; rfl)) ?_
      refine Gq.valg rfl rfl rfl rfl rfl (Val.cast (val_fieldAddr rfl Try.underlying28 rfl Try.ty26 rfl rfl) (v' := ptr b57 3) rfl) ?_
      refine Gq.valg rfl rfl rfl rfl rfl (val_load rfl Try.ty26 rfl rfl (cell_rec (k := 0) rfl rfl)) ?_
      refine Gq.valg rfl rfl rfl rfl rfl (val_move rfl rfl) ?_
      refine Gq.valg rfl rfl rfl rfl rfl (val_ixa rfl Try.underlying26 Try.ty4 rfl rfl (j := i) (rfl) (reach_base hdv28 hz1)) ?_
      refine Gq.valg rfl rfl rfl rfl rfl (val_load rfl Try.ty4 rfl rfl (cell_base (i := 0) hdv28 hz1 rfl)) ?_
      refine Gq.valg rfl rfl rfl rfl rfl (val_move rfl rfl) ?_
      refine Gq.casesB (t := 107) rfl (fun h61 => ?_) (fun h61 => ?_)
      · refine Gq.valg rfl rfl rfl rfl rfl (Val.cast (val_fieldAddr rfl Try.underlying28 rfl Try.ty26 rfl rfl) (v' := ptr b23 3) rfl) ?_
        refine Gq.valg rfl rfl rfl rfl rfl (val_load rfl Try.ty26 rfl rfl (cell_old hb40 hc44)) ?_
        refine Gq.valg rfl rfl rfl rfl rfl (val_move rfl rfl) ?_
        refine Gq.valg rfl rfl rfl rfl rfl (val_ixa rfl Try.underlying26 Try.ty4 rfl rfl (j := i) (rfl) (reach_base hs38 hz2)) ?_
        refine Gq.valg rfl rfl rfl rfl rfl (val_load rfl Try.ty4 rfl rfl (cell_base (i := 0) hs38 hz2 rfl)) ?_
        refine Gq.valg rfl rfl rfl rfl rfl (val_not rfl rfl) ?_
        refine Gq.valg rfl rfl rfl rfl rfl (val_pickT rfl rfl rfl) ?_
        refine Gq.val rfl rfl rfl (val_pickF rfl rfl rfl) ?_
        refine Gq.done ?_
        refine Gx.thenN ?_
        refine Gx.boolF rfl (by rw [hzz h61]; rfl) ?_
        refine Gx.skip ?_
        refine Gx.blkN ?_
        refine Gx.thenN ?_
        refine Gx.region ?_
        refine Gx.val rfl rfl rfl (val_move rfl rfl) ?_
        refine Gx.val rfl rfl rfl (val_add rfl rfl rfl (r := ((i + 1 : Nat) : Int)) (w64 (by omega) (by omega))) ?_
        refine Gx.val rfl rfl rfl (val_assign rfl rfl) ?_
        refine Gx.done ?_
        refine Gx.thenN ?_
        exact Gx.round (i + 1) (by first | omega | (dsimp only; omega)) (by first | omega | (dsimp only; omega)) ((.cons rfl (.cons rfl (.cons rfl .nil)))) rfl
      · refine Gq.skipg rfl rfl rfl rfl rfl rfl ?_
        refine Gq.skipg rfl rfl rfl rfl rfl rfl ?_
        refine Gq.skipg rfl rfl rfl rfl rfl rfl ?_
        refine Gq.skipg rfl rfl rfl rfl rfl rfl ?_
        refine Gq.skipg rfl rfl rfl rfl rfl rfl ?_
        refine Gq.skipg rfl rfl rfl rfl rfl rfl ?_
        refine Gq.valg rfl rfl rfl rfl rfl (val_pickF rfl rfl rfl) ?_
        refine Gq.val rfl rfl rfl (val_pickF rfl rfl rfl) ?_
        refine Gq.done ?_
        refine Gx.thenN ?_
        refine Gx.f rfl ?_
        refine Gx.skip ?_
        refine Gx.blkN ?_
        refine Gx.thenN ?_
        refine Gx.region ?_
        refine Gx.val rfl rfl rfl (val_move rfl rfl) ?_
        refine Gx.val rfl rfl rfl (val_add rfl rfl rfl (r := ((i + 1 : Nat) : Int)) (w64 (by omega) (by omega))) ?_
        refine Gx.val rfl rfl rfl (val_assign rfl rfl) ?_
        refine Gx.done ?_
        refine Gx.thenN ?_
        exact Gx.round (i + 1) (by first | omega | (dsimp only; omega)) (by first | omega | (dsimp only; omega)) ((.cons rfl (.cons rfl (.cons rfl .nil)))) rfl
    · refine Gq.skipg rfl rfl rfl rfl rfl rfl ?_
      refine Gq.skipg rfl rfl rfl rfl rfl rfl ?_
      refine Gq.skipg rfl rfl rfl rfl rfl rfl ?_
      refine Gq.skipg rfl rfl rfl rfl rfl rfl ?_
      refine Gq.skipg rfl rfl rfl rfl rfl rfl ?_
      refine Gq.skipg rfl rfl rfl rfl rfl rfl ?_
      refine Gq.valg rfl rfl rfl rfl rfl (val_pickF rfl rfl rfl) ?_
      refine Gq.val rfl rfl rfl (val_pickF rfl rfl rfl) ?_
      refine Gq.val rfl rfl rfl (val_move rfl rfl) ?_
      refine Gq.valg rfl rfl rfl rfl rfl (Val.cast (val_fieldAddr rfl Try.underlying28 rfl Try.ty26 rfl rfl) (v' := ptr b57 3) rfl) ?_
      refine Gq.valg rfl rfl rfl rfl rfl (val_load rfl Try.ty26 rfl rfl (cell_rec (k := 0) rfl rfl)) ?_
      refine Gq.valg rfl rfl rfl rfl rfl (val_move rfl rfl) ?_
      refine Gq.valg rfl rfl rfl rfl rfl (val_ixa rfl Try.underlying26 Try.ty4 rfl rfl (j := i) (rfl) (reach_base hdv28 hz1)) ?_
      refine Gq.valg rfl rfl rfl rfl rfl (val_load rfl Try.ty4 rfl rfl (cell_base (i := 0) hdv28 hz1 rfl)) ?_
      refine Gq.valg rfl rfl rfl rfl rfl (val_move rfl rfl) ?_
      refine Gq.casesB (t := 107) rfl (fun h62 => ?_) (fun h62 => ?_)
      · refine Gq.valg rfl rfl rfl rfl rfl (Val.cast (val_fieldAddr rfl Try.underlying28 rfl Try.ty26 rfl rfl) (v' := ptr b23 3) rfl) ?_
        refine Gq.valg rfl rfl rfl rfl rfl (val_load rfl Try.ty26 rfl rfl (cell_old hb40 hc44)) ?_
        refine Gq.valg rfl rfl rfl rfl rfl (val_move rfl rfl) ?_
        refine Gq.valg rfl rfl rfl rfl rfl (val_ixa rfl Try.underlying26 Try.ty4 rfl rfl (j := i) (rfl) (reach_base hs38 hz2)) ?_
        refine Gq.valg rfl rfl rfl rfl rfl (val_load rfl Try.ty4 rfl rfl (cell_base (i := 0) hs38 hz2 rfl)) ?_
        refine Gq.valg rfl rfl rfl rfl rfl (val_not rfl rfl) ?_
        refine Gq.valg rfl rfl rfl rfl rfl (val_pickT rfl rfl rfl) ?_
        refine Gq.val rfl rfl rfl (val_pickF rfl rfl rfl) ?_
        refine Gq.done ?_
        refine Gx.thenN ?_
        refine Gx.boolF rfl (by rw [hzz h62]; rfl) ?_
        refine Gx.skip ?_
        refine Gx.blkN ?_
        refine Gx.thenN ?_
        refine Gx.region ?_
        refine Gx.val rfl rfl rfl (val_move rfl rfl) ?_
        refine Gx.val rfl rfl rfl (val_add rfl rfl rfl (r := ((i + 1 : Nat) : Int)) (w64 (by omega) (by omega))) ?_
        refine Gx.val rfl rfl rfl (val_assign rfl rfl) ?_
        refine Gx.done ?_
        refine Gx.thenN ?_
        exact Gx.round (i + 1) (by first | omega | (dsimp only; omega)) (by first | omega | (dsimp only; omega)) ((.cons rfl (.cons rfl (.cons rfl .nil)))) rfl
      · refine Gq.skipg rfl rfl rfl rfl rfl rfl ?_
        refine Gq.skipg rfl rfl rfl rfl rfl rfl ?_
        refine Gq.skipg rfl rfl rfl rfl rfl rfl ?_
        refine Gq.skipg rfl rfl rfl rfl rfl rfl ?_
        refine Gq.skipg rfl rfl rfl rfl rfl rfl ?_
        refine Gq.skipg rfl rfl rfl rfl rfl rfl ?_
        refine Gq.valg rfl rfl rfl rfl rfl (val_pickF rfl rfl rfl) ?_
        refine Gq.val rfl rfl rfl (val_pickF rfl rfl rfl) ?_
        refine Gq.done ?_
        refine Gx.thenN ?_
        refine Gx.f rfl ?_
        refine Gx.skip ?_
        refine Gx.blkN ?_
        refine Gx.thenN ?_
        refine Gx.region ?_
        refine Gx.val rfl rfl rfl (val_move rfl rfl) ?_
        refine Gx.val rfl rfl rfl (val_add rfl rfl rfl (r := ((i + 1 : Nat) : Int)) (w64 (by omega) (by omega))) ?_
        refine Gx.val rfl rfl rfl (val_assign rfl rfl) ?_
        refine Gx.done ?_
        refine Gx.thenN ?_
        exact Gx.round (i + 1) (by first | omega | (dsimp only; omega)) (by first | omega | (dsimp only; omega)) ((.cons rfl (.cons rfl (.cons rfl .nil)))) rfl
  · refine Gx.exit ?_
    refine Gx.thenE ?_
    refine Gx.thenE ?_
    refine Gx.blkE ?_
    refine Gx.thenN ?_
    refine Gx.seq ?_
    refine Gx.region ?_
    refine Gx.val rfl rfl rfl (val_assign rfl rfl) ?_
    refine Gx.done ?_
    refine Gx.thenN ?_
    refine Gx.ret ?_
    refine Gx.ret1B hW33 Try.results4 rfl ?_
    rfl

theorem front_any {W : World} {k f z : Int} {sv : Value} {cs : List Sy} {y : Int} (h0 : 0 ≤ y) (h255 : y ≤ 255) (hz0 : 0 ≤ z) (hz1 : z < 4294967296) (hs : SlS FM 5 W sv cs) :
    Calls Try.prog 4 #[.int .i64 k, .int .i64 f, .int .u32 z, sv, .int .u8 y] W fun e w' => e = .returned (.bool true) ∧ Below W.heap.size W w' := by
  obtain ⟨L, rfl⟩ : ∃ L : Nat, z = (L : Int) := ⟨z.toNat, by omega⟩
  have hL : L < 4294967296 := by omega
  obtain ⟨kk, rfl⟩ : ∃ kk : Nat, y = (kk : Int) := ⟨y.toNat, by omega⟩
  by_cases h : Valid k f L cs
  · obtain ⟨h1, h2, h3, h4, h5, h6⟩ := h
    obtain ⟨n, rfl⟩ : ∃ n : Nat, k = (n : Int) := ⟨k.toNat, by omega⟩
    obtain ⟨f', rfl⟩ : ∃ f' : Nat, f = (f' : Int) := ⟨f.toNat, by omega⟩
    rw [Int.toNat_natCast] at h5 h6
    exact front_yes (c := ⟨n, n - f', L⟩) hs (by dsimp only; omega) (by dsimp only; omega) h3 (by dsimp only; omega) (by dsimp only; omega) h6 hL (by omega)
  · exact front_bad hs h hL (by omega)
end Go.Proofs.Ytghnahckopokhaa
