/- All the money is there; no pay is made twice. The walk. No condition. -/
import Derived.Test.YtkbggdocfklkkaaDoorK2
namespace Go.Proofs.YtkbggdocfklkkaaDoor
open Go.RowKit
set_option linter.unusedVariables false
set_option linter.unusedSimpArgs false
set_option maxRecDepth 100000

/-- all goes well -/
def Good (k f : Int) (L : Nat) (cs : List Mt.Sy) (money : List Int) (pays : List Row) : Prop := Mt.Valid k f L cs ∧ ∃ ds,
  Chn.IsDec (Mt.blsP (Mt.stM ⟨k.toNat, k.toNat - f.toNat, L⟩ (Mt.ms0 k.toNat) cs).bl) (Mt.certL ⟨k.toNat, k.toNat - f.toNat, L⟩ (Mt.stM ⟨k.toNat, k.toNat - f.toNat, L⟩ (Mt.ms0 k.toNat) cs)) (Mt.stM ⟨k.toNat, k.toNat - f.toNat, L⟩ (Mt.ms0 k.toNat) cs).bl.length ds ∧
  (paysB (Mt.stM ⟨k.toNat, k.toNat - f.toNat, L⟩ (Mt.ms0 k.toNat) cs).bl ds pays).length ≤ 60 ∧ Lg.OkL money (paysB (Mt.stM ⟨k.toNat, k.toNat - f.toNat, L⟩ (Mt.ms0 k.toNat) cs).bl ds pays).length
theorem book_no {W : World} {k f : Int} {L : Nat} {sv mv pv : Value} {cs : List Mt.Sy} {money : List Int} {pays : List Row} (hg : Lg.HG W) (hs : SlS Mt.FM 5 W sv cs) (hm : SlS Lg.FM 1 W mv money) (hp : SlS FW 1 W pv pays) (hrows : ∀ r ∈ pays, SlS Lg.FP 4 W (.slice r.a r.xs.length r.c) r.xs) (hsz : ∀ r ∈ pays, r.xs.length ≤ 1048576) (hL : L < 4294967296) (hbad : ¬ Good k f L cs money pays) :
    Calls Tryd.prog 5 #[.int .i64 k, .int .i64 f, .int .u32 ((L : Nat) : Int), sv, mv, pv] W fun e w' => ∃ v, e = .returned v ∧ (∃ z : Int, z ≠ 0 ∧ v = .tuple #[.agg #[.slice none 0 0, .slice none 0 0, .slice none 0 0, .slice none 0 0, .slice none 0 0, .slice none 0 0, .slice none 0 0], .int .i64 z]) ∧ Below W.heap.size W w' := by
  by_cases h : Mt.Valid k f L cs
  · have hv := h
    obtain ⟨h1, h2, h3, h4, h5, h6⟩ := h
    obtain ⟨n, rfl⟩ : ∃ n : Nat, k = (n : Int) := ⟨k.toNat, by omega⟩
    obtain ⟨f', rfl⟩ : ∃ f' : Nat, f = (f' : Int) := ⟨f.toNat, by omega⟩
    rw [Int.toNat_natCast] at h5 h6
    have ok : Mt.OkM ⟨n, n - f', L⟩ := ⟨by dsimp only; omega, by dsimp only; omega, hL⟩
    obtain ⟨ds, hds⟩ := Mt.dec_here (Mt.BdM.at_ ok cs)
    have hno : ¬ ((paysB (Mt.stM ⟨n, n - f', L⟩ (Mt.ms0 n) cs).bl ds pays).length ≤ 60 ∧ Lg.OkL money (paysB (Mt.stM ⟨n, n - f', L⟩ (Mt.ms0 n) cs).bl ds pays).length) := fun q => hbad ⟨hv, ds, by
      simp only [Int.toNat_natCast]
      exact ⟨hds, q.1, q.2⟩⟩
    by_cases hb : (paysB (Mt.stM ⟨n, n - f', L⟩ (Mt.ms0 n) cs).bl ds pays).length ≤ 60
    · exact book_mon (c := ⟨n, n - f', L⟩) hg hs (by dsimp only; omega) (by dsimp only; omega) h3 (by dsimp only; omega) (by dsimp only; omega) h6 hL hm hp hrows hsz hds hb (fun q => hno ⟨hb, q⟩)
    · exact (book_full (c := ⟨n, n - f', L⟩) hg hs (by dsimp only; omega) (by dsimp only; omega) h3 (by dsimp only; omega) (by dsimp only; omega) h6 hL hm hp hrows hsz hds (by dsimp only; omega)).mono fun e w' ⟨he, hb⟩ => ⟨_, he, ⟨7, by decide, rfl⟩, hb⟩
  · exact book_bad hs h
theorem sum_snoc {l : List Int} {i : Nat} {x : Int} (h : l[i]? = some x) : (l.take (i + 1)).sum = (l.take i).sum + x := by rw [Mt.take_snoc' h, List.sum_append]; simp
theorem sumA_snoc {l : List Lg.Acc} {i : Nat} {x : Lg.Acc} (h : l[i]? = some x) : Lg.sumA (l.take (i + 1)) = Lg.sumA (l.take i) + x.n := by unfold Lg.sumA; rw [Mt.take_snoc' h, List.map_append, List.sum_append]; simp
theorem money_bad {W : World} {k f : Int} {L : Nat} {sv mv pv : Value} {cs : List Mt.Sy} {money : List Int} {pays : List Row} (hg : Lg.HG W) (hs : SlS Mt.FM 5 W sv cs) (hm : SlS Lg.FM 1 W mv money) (hp : SlS FW 1 W pv pays) (hrows : ∀ r ∈ pays, SlS Lg.FP 4 W (.slice r.a r.xs.length r.c) r.xs) (hsz : ∀ r ∈ pays, r.xs.length ≤ 1048576) (hL : L < 4294967296) (hbad : ¬ Good k f L cs money pays) :
    Calls Tryd.prog 3 #[.int .i64 k, .int .i64 f, .int .u32 ((L : Nat) : Int), sv, mv, pv] W fun e w' => e = .returned (.bool true) ∧ Below W.heap.size W w' := by
  refine calls_pure (Gx.enter (l := []) Tryd.func3 rfl Tryd.ntmps3 rfl (Sat.start W) ?_)
  refine Gx.know (m' := [(0, .int .i64 k), (1, .int .i64 f), (2, .int .u32 ((L : Nat) : Int)), (3, sv), (4, mv), (5, pv)]) (.cons rfl (.cons rfl (.cons rfl (.cons rfl (.cons rfl (.cons rfl .nil)))))) ?_
  refine Gx.seq ?_
  refine Gx.region ?_
  refine Gx.val rfl rfl rfl (val_assign rfl rfl) ?_
  refine Gx.done ?_
  refine Gx.thenN ?_
  refine Gx.seq ?_
  refine Gx.region ?_
  refine Gx.val rfl rfl rfl (val_move rfl rfl) ?_
  refine Gx.val rfl rfl rfl (val_move rfl rfl) ?_
  refine Gx.val rfl rfl rfl (val_move rfl rfl) ?_
  refine Gx.val rfl rfl rfl (val_move rfl rfl) ?_
  refine Gx.val rfl rfl rfl (val_move rfl rfl) ?_
  refine Gx.val rfl rfl rfl (val_move rfl rfl) ?_
  refine Gx.eff rfl rfl rfl (eff_callE (vs := [.int .i64 k, .int .i64 f, .int .u32 ((L : Nat) : Int), sv, mv, pv]) rfl Tryd.fn5 rfl (R := fun v => ∃ z : Int, z ≠ 0 ∧ v = .tuple #[.agg #[.slice none 0 0, .slice none 0 0, .slice none 0 0, .slice none 0 0, .slice none 0 0, .slice none 0 0, .slice none 0 0], .int .i64 z]) (fun w H => book_no (hg.below H.below) (hs.below H.below) (hm.below H.below) (hp.below H.below) (fun r hr => (hrows r hr).below H.below) hsz hL hbad)) ?_
  rintro _ _ ⟨⟨zz1, hzz2, rfl⟩, rfl⟩
  refine Gx.val rfl rfl rfl (val_move rfl rfl) ?_
  refine Gx.val rfl rfl rfl (val_extract rfl rfl rfl) ?_
  refine Gx.val rfl rfl rfl (val_extract rfl rfl rfl) ?_
  refine Gx.eff rfl rfl rfl (eff_alloc rfl Tryd.ty34 (vs := [.slice none 0 0, .slice none 0 0, .slice none 0 0, .slice none 0 0, .slice none 0 0, .slice none 0 0, .slice none 0 0]) rfl) ?_
  rintro _ _ ⟨b3, rfl, rfl⟩
  refine Gx.eff0 rfl rfl (eff_store rfl Tryd.ty34 rfl rfl (us := [.slice none 0 0, .slice none 0 0, .slice none 0 0, .slice none 0 0, .slice none 0 0, .slice none 0 0, .slice none 0 0]) rfl rfl rfl (k := 0) rfl (rfl) (vs' := [.slice none 0 0, .slice none 0 0, .slice none 0 0, .slice none 0 0, .slice none 0 0, .slice none 0 0, .slice none 0 0]) (rfl) (l' := [Hp.rec_ b3 [.slice none 0 0, .slice none 0 0, .slice none 0 0, .slice none 0 0, .slice none 0 0, .slice none 0 0, .slice none 0 0]]) rfl) ?_
  rintro _ _ rfl
  refine Gx.val rfl rfl rfl (val_assign rfl rfl) ?_
  refine Gx.done ?_
  refine Gx.thenN ?_
  refine Gx.seq ?_
  refine Gx.seq ?_
  refine Gx.region ?_
  refine Gx.val rfl rfl rfl (val_move rfl rfl) ?_
  refine Gx.val rfl rfl rfl (val_neq rfl rfl rfl) ?_
  refine Gx.done ?_
  refine Gx.thenN ?_
  refine Gx.decT rfl (by omega) ?_
  refine Gx.seq ?_
  refine Gx.region ?_
  refine Gx.val rfl rfl rfl (Val.cast (val_fieldAddr rfl Tryd.underlying34 rfl Tryd.ty32 rfl rfl) (v' := ptr b3 6) rfl) ?_
  refine Gx.val rfl rfl rfl (val_load rfl Tryd.ty32 rfl rfl (cell_rec (k := 0) rfl rfl)) ?_
  refine Gx.val rfl rfl rfl (val_len rfl Tryd.underlying32 rfl len_lit) ?_
  refine Gx.val rfl rfl rfl (Val.cast (val_eql rfl rfl rfl) (v' := .bool true) rfl) ?_
  refine Gx.val rfl rfl rfl (val_assign rfl rfl) ?_
  refine Gx.done ?_
  refine Gx.thenN ?_
  refine Gx.ret ?_
  refine Gx.thenR ?_
  refine Gx.ret1 Tryd.results3 rfl ?_
  first | rfl | exact congrArg Value.bool (decide_eq_true rfl)

set_option maxHeartbeats 1000000 in
theorem money_yes {W : World} {c : Mt.MC} {f : Nat} {sv mv pv : Value} {cs : List Mt.Sy} {money : List Int} {pays : List Row} {ds : List Bool} (hg : Lg.HG W) (hs : SlS Mt.FM 5 W sv cs) (hm : SlS Lg.FM 1 W mv money) (hp : SlS FW 1 W pv pays) (hrows : ∀ r ∈ pays, SlS Lg.FP 4 W (.slice r.a r.xs.length r.c) r.xs) (hsz : ∀ r ∈ pays, r.xs.length ≤ 1048576) (h1n : 1 ≤ c.n) (h7n : c.n ≤ 7) (hcl : cs.length ≤ 120) (hf : f ≤ (c.n - 1) / 3) (hfn : c.need + f = c.n) (hLn : c.L >>> c.n = 0) (hL : c.L < 4294967296) (hds : Chn.IsDec (Mt.blsP (Mt.stM c (Mt.ms0 c.n) cs).bl) (Mt.certL c (Mt.stM c (Mt.ms0 c.n) cs)) (Mt.stM c (Mt.ms0 c.n) cs).bl.length ds) (hbig : (paysB (Mt.stM c (Mt.ms0 c.n) cs).bl ds pays).length ≤ 60) (hok : Lg.OkL money (paysB (Mt.stM c (Mt.ms0 c.n) cs).bl ds pays).length) :
    Calls Tryd.prog 3 #[.int .i64 ((c.n : Nat) : Int), .int .i64 ((f : Nat) : Int), .int .u32 ((c.L : Nat) : Int), sv, mv, pv] W fun e w' => e = .returned (.bool true) ∧ Below W.heap.size W w' := by
  have ok : Mt.OkM c := ⟨h7n, by omega, hL⟩
  have bd := Mt.BdM.at_ ok cs
  have iv := Mt.InvM.run ok cs (Mt.BdM.start c) (Mt.InvM.start c)
  have hb40 := bd.b40
  have hpos := bd.pos
  have hdl : ds.length = (Mt.stM c (Mt.ms0 c.n) cs).bl.length := by rw [hds.1, List.length_map]
  have hcdl : (Mt.codesM c (Mt.ms0 c.n) cs).length = cs.length := Mt.codesM_len ..
  have hwl : (Mt.certL c (Mt.stM c (Mt.ms0 c.n) cs)).length = (Mt.stM c (Mt.ms0 c.n) cs).bl.length := by unfold Mt.certL; rw [List.length_map, List.length_range]
  have hacl : (Lg.accsL (Lg.start0 money) (paysB (Mt.stM c (Mt.ms0 c.n) cs).bl ds pays)).length = money.length := by rw [Lg.accsL_len, Lg.start_len]
  have hcol : (Lg.codesL (Lg.start0 money) (paysB (Mt.stM c (Mt.ms0 c.n) cs).bl ds pays)).length = (paysB (Mt.stM c (Mt.ms0 c.n) cs).bl ds pays).length := Lg.codesL_len ..
  have hhigh := hok.high
  have hlow := hok.low
  have hm9 := sls_bd hm
  have hp9 := sls_bd hp
  refine calls_pure (Gx.enter (l := []) Tryd.func3 rfl Tryd.ntmps3 rfl (Sat.start W) ?_)
  refine Gx.know (m' := [(0, .int .i64 ((c.n : Nat) : Int)), (1, .int .i64 ((f : Nat) : Int)), (2, .int .u32 ((c.L : Nat) : Int)), (3, sv), (4, mv), (5, pv)]) (.cons rfl (.cons rfl (.cons rfl (.cons rfl (.cons rfl (.cons rfl .nil)))))) ?_
  refine Gx.seq ?_
  refine Gx.region ?_
  refine Gx.val rfl rfl rfl (val_assign rfl rfl) ?_
  refine Gx.done ?_
  refine Gx.thenN ?_
  refine Gx.seq ?_
  refine Gx.region ?_
  refine Gx.val rfl rfl rfl (val_move rfl rfl) ?_
  refine Gx.val rfl rfl rfl (val_move rfl rfl) ?_
  refine Gx.val rfl rfl rfl (val_move rfl rfl) ?_
  refine Gx.val rfl rfl rfl (val_move rfl rfl) ?_
  refine Gx.val rfl rfl rfl (val_move rfl rfl) ?_
  refine Gx.val rfl rfl rfl (val_move rfl rfl) ?_
  refine Gx.callB rfl rfl rfl (vs := [.int .i64 ((c.n : Nat) : Int), .int .i64 ((f : Nat) : Int), .int .u32 ((c.L : Nat) : Int), sv, mv, pv]) rfl Tryd.fn5 rfl (R := fun v w' => ∃ (cv bv wv dv qv zv av : Value), v = .tuple #[.agg #[cv, bv, wv, dv, qv, zv, av], .int .i64 0] ∧ SlS Mt.FZ 1 w' cv (Mt.codesM c (Mt.ms0 c.n) cs) ∧ SlS Mt.FK 2 w' bv (Mt.stM c (Mt.ms0 c.n) cs).bl ∧ SlS Mt.FB 1 w' wv (Mt.certL c (Mt.stM c (Mt.ms0 c.n) cs)) ∧ SlS Mt.FB 1 w' dv ds ∧ SlS Lg.FP 4 w' qv (paysB (Mt.stM c (Mt.ms0 c.n) cs).bl ds pays) ∧ SlS Lg.FZ 1 w' zv (Lg.codesL (Lg.start0 money) (paysB (Mt.stM c (Mt.ms0 c.n) cs).bl ds pays)) ∧ SlS Lg.FA 2 w' av (Lg.accsL (Lg.start0 money) (paysB (Mt.stM c (Mt.ms0 c.n) cs).bl ds pays))) (fun w H => book_yes (hg.below H.below) (hs.below H.below) h1n h7n hcl hf hfn hLn hL (hm.below H.below) (hp.below H.below) (fun r hr => (hrows r hr).below H.below) hsz hds hbig hok) ?_
  rintro _ W8 ⟨cv1, bv2, wv3, dv4, qv5, zv6, av7, rfl, hcv1, hbv2, hwv3, hdv4, hqv5, hzv6, hav7⟩ H9
  have hW10 := H9.below
  have hs11 := hs.below H9.below
  have hs12 := hm.below H9.below
  have hs13 := hp.below H9.below
  have hg14 := hg.below H9.below
  have hrw15 := fun r hr => (hrows r hr).below H9.below
  refine Gx.val rfl rfl rfl (val_move rfl rfl) ?_
  obtain ⟨sa16, sn17, sc18, rfl⟩ := hcv1.isS
  obtain ⟨sa19, sn20, sc21, rfl⟩ := hbv2.isS
  obtain ⟨sa22, sn23, sc24, rfl⟩ := hwv3.isS
  obtain ⟨sa25, sn26, sc27, rfl⟩ := hdv4.isS
  obtain ⟨sa28, sn29, sc30, rfl⟩ := hqv5.isS
  obtain ⟨sa31, sn32, sc33, rfl⟩ := hzv6.isS
  obtain ⟨sa34, sn35, sc36, rfl⟩ := hav7.isS
  refine Gx.val rfl rfl rfl (val_extract rfl rfl rfl) ?_
  refine Gx.val rfl rfl rfl (val_extract rfl rfl rfl) ?_
  refine Gx.eff rfl rfl rfl (eff_alloc rfl Tryd.ty34 (vs := [.slice none 0 0, .slice none 0 0, .slice none 0 0, .slice none 0 0, .slice none 0 0, .slice none 0 0, .slice none 0 0]) rfl) ?_
  rintro _ _ ⟨b37, rfl, rfl⟩
  refine Gx.eff0 rfl rfl (eff_store rfl Tryd.ty34 rfl rfl (us := [.slice sa16 sn17 sc18, .slice sa19 sn20 sc21, .slice sa22 sn23 sc24, .slice sa25 sn26 sc27, .slice sa28 sn29 sc30, .slice sa31 sn32 sc33, .slice sa34 sn35 sc36]) rfl rfl rfl (k := 0) rfl (rfl) (vs' := [.slice sa16 sn17 sc18, .slice sa19 sn20 sc21, .slice sa22 sn23 sc24, .slice sa25 sn26 sc27, .slice sa28 sn29 sc30, .slice sa31 sn32 sc33, .slice sa34 sn35 sc36]) (rfl) (l' := [Hp.rec_ b37 [.slice sa16 sn17 sc18, .slice sa19 sn20 sc21, .slice sa22 sn23 sc24, .slice sa25 sn26 sc27, .slice sa28 sn29 sc30, .slice sa31 sn32 sc33, .slice sa34 sn35 sc36]]) rfl) ?_
  rintro _ _ rfl
  refine Gx.val rfl rfl rfl (val_assign rfl rfl) ?_
  refine Gx.done ?_
  refine Gx.thenN ?_
  refine Gx.seq ?_
  refine Gx.seq ?_
  refine Gx.region ?_
  refine Gx.val rfl rfl rfl (val_move rfl rfl) ?_
  refine Gx.val rfl rfl rfl (Val.cast (val_neq rfl rfl rfl) (v' := .bool false) rfl) ?_
  refine Gx.done ?_
  refine Gx.thenN ?_
  refine Gx.f rfl ?_
  refine Gx.skip ?_
  refine Gx.thenN ?_
  refine Gx.seq ?_
  refine Gx.seq ?_
  refine Gx.region ?_
  refine Gx.val rfl rfl rfl (Val.cast (val_fieldAddr rfl Tryd.underlying34 rfl Tryd.ty32 rfl rfl) (v' := ptr b37 6) rfl) ?_
  refine Gx.val rfl rfl rfl (val_load rfl Tryd.ty32 rfl rfl (cell_rec (k := 0) rfl rfl)) ?_
  refine Gx.val rfl rfl rfl (val_len rfl Tryd.underlying32 rfl (len_base hav7)) ?_
  refine Gx.val rfl rfl rfl (val_move rfl rfl) ?_
  refine Gx.val rfl rfl rfl (val_len rfl Tryd.underlying24 rfl (len_base hs12)) ?_
  refine Gx.val rfl rfl rfl (val_neq rfl rfl rfl) ?_
  refine Gx.val rfl rfl rfl (val_move rfl rfl) ?_
  refine Gx.slot (t := 42) (v := .bool false) (look_decF rfl (by omega)) ?_
  refine Gx.valg rfl rfl rfl rfl rfl (Val.cast (val_fieldAddr rfl Tryd.underlying34 rfl Tryd.ty26 rfl rfl) (v' := ptr b37 5) rfl) ?_
  refine Gx.valg rfl rfl rfl rfl rfl (val_load rfl Tryd.ty26 rfl rfl (cell_rec (k := 0) rfl rfl)) ?_
  refine Gx.valg rfl rfl rfl rfl rfl (val_len rfl Tryd.underlying26 rfl (len_base hzv6)) ?_
  refine Gx.valg rfl rfl rfl rfl rfl (Val.cast (val_fieldAddr rfl Tryd.underlying34 rfl Tryd.ty31 rfl rfl) (v' := ptr b37 4) rfl) ?_
  refine Gx.valg rfl rfl rfl rfl rfl (val_load rfl Tryd.ty31 rfl rfl (cell_rec (k := 0) rfl rfl)) ?_
  refine Gx.valg rfl rfl rfl rfl rfl (val_len rfl Tryd.underlying31 rfl (len_base hqv5)) ?_
  refine Gx.valg rfl rfl rfl rfl rfl (val_neq rfl rfl rfl) ?_
  refine Gx.val rfl rfl rfl (val_pickF rfl rfl rfl) ?_
  refine Gx.done ?_
  refine Gx.thenN ?_
  refine Gx.decF rfl (by omega) ?_
  refine Gx.skip ?_
  refine Gx.thenN ?_
  refine Gx.seq ?_
  refine Gx.region ?_
  refine Gx.val rfl rfl rfl (val_assign rfl rfl) ?_
  refine Gx.done ?_
  refine Gx.thenN ?_
  refine Gx.seq ?_
  refine Gx.region ?_
  refine Gx.val rfl rfl rfl (val_assign rfl rfl) ?_
  refine Gx.done ?_
  refine Gx.thenN ?_
  refine Gx.seq ?_
  refine Gx.seq ?_
  have hall := hok.all
  have hfew := hok.few
  have hbd := Lg.BdA.run (paysB (Mt.stM c (Mt.ms0 c.n) cs).bl ds pays) (Lg.bd_start hok.all)
  refine Gx.region ?_
  refine Gx.val rfl rfl rfl (val_assign rfl rfl) ?_
  refine Gx.done ?_
  refine Gx.thenN ?_
  refine Gx.block ?_
  refine Gx.loop (ι := Nat × Int × Int) (fun ξ => (ξ.1 ≤ money.length) ∧ (ξ.2.1 = (money.take ξ.1).sum) ∧ (ξ.2.2 = Lg.sumA (List.take ξ.1 (Lg.accsL (Lg.start0 money) (paysB (Mt.stM c (Mt.ms0 c.n) cs).bl ds pays)))) ∧ (0 ≤ ξ.2.1 ∧ ξ.2.1 ≤ 1099511627776 * (ξ.1 : Int)) ∧ (0 ≤ ξ.2.2 ∧ ξ.2.2 ≤ 1099511627776 * (ξ.1 : Int))) (fun ξ => [(4, mv), (13, ptr b37 0), (15, .int .i64 ξ.2.1), (16, .int .i64 ξ.2.2), (17, .int .i64 ((ξ.1 : Nat) : Int))]) (fun ξ => [Hp.rec_ b37 [.slice sa16 sn17 sc18, .slice sa19 sn20 sc21, .slice sa22 sn23 sc24, .slice sa25 sn26 sc27, .slice sa28 sn29 sc30, .slice sa31 sn32 sc33, .slice sa34 sn35 sc36]]) (fun ξ => money.length - ξ.1) (0, 0, 0) ⟨by first | omega | (dsimp only; omega), rfl, rfl, by simp, by simp⟩ ((.cons rfl (.cons rfl (.cons rfl (.cons rfl (.cons rfl .nil)))))) rfl ?_
  rintro ⟨i, was, is⟩ ⟨hi, hw, his, hwb, hisb⟩
  dsimp only at hi hw his hwb hisb
  refine Gx.know (m' := [(4, mv), (13, ptr b37 0), (15, .int .i64 was), (16, .int .i64 is), (17, .int .i64 ((i : Nat) : Int))]) (.cons rfl (.cons rfl (.cons rfl (.cons rfl (.cons rfl .nil))))) (Gx.norm (l' := [Hp.rec_ b37 [.slice sa16 sn17 sc18, .slice sa19 sn20 sc21, .slice sa22 sn23 sc24, .slice sa25 sn26 sc27, .slice sa28 sn29 sc30, .slice sa31 sn32 sc33, .slice sa34 sn35 sc36]]) rfl ?_)
  refine Gx.seq ?_
  refine Gx.seq ?_
  refine Gx.region ?_
  refine Gx.val rfl rfl rfl (val_move rfl rfl) ?_
  refine Gx.val rfl rfl rfl (val_move rfl rfl) ?_
  refine Gx.val rfl rfl rfl (val_len rfl Tryd.underlying24 rfl (len_base hs12)) ?_
  refine Gx.val rfl rfl rfl (val_lss rfl rfl rfl) ?_
  refine Gx.done ?_
  refine Gx.thenN ?_
  refine Gx.dec rfl (fun h38 => ?_) (fun h38 => ?_)
  · refine Gx.skip ?_
    refine Gx.thenN ?_
    refine Gx.seq ?_
    refine Gx.block ?_
    refine Gx.seq ?_
    refine Gx.region ?_
    refine Gx.val rfl rfl rfl (val_move rfl rfl) ?_
    refine Gx.val rfl rfl rfl (val_move rfl rfl) ?_
    refine Gx.val rfl rfl rfl (val_move rfl rfl) ?_
    obtain ⟨x39, hx39⟩ := get_of_lt (xs := money) (k := i) (by omega)
    refine Gx.val rfl rfl rfl (val_ixa rfl Tryd.underlying24 Tryd.ty2 rfl rfl (j := i) (rfl) (reach_base hs12 hx39)) ?_
    refine Gx.val rfl rfl rfl (val_load rfl Tryd.ty2 rfl rfl (cell_base (i := 0) hs12 hx39 rfl)) ?_
    have hmx := hall x39 (List.mem_of_getElem? hx39)
    refine Gx.val rfl rfl rfl (val_add rfl rfl rfl (r := (was + x39)) (w64 rfl (by omega))) ?_
    refine Gx.val rfl rfl rfl (val_assign rfl rfl) ?_
    refine Gx.done ?_
    refine Gx.thenN ?_
    refine Gx.region ?_
    refine Gx.val rfl rfl rfl (val_move rfl rfl) ?_
    refine Gx.val rfl rfl rfl (Val.cast (val_fieldAddr rfl Tryd.underlying34 rfl Tryd.ty32 rfl rfl) (v' := ptr b37 6) rfl) ?_
    refine Gx.val rfl rfl rfl (val_load rfl Tryd.ty32 rfl rfl (cell_rec (k := 0) rfl rfl)) ?_
    refine Gx.val rfl rfl rfl (val_move rfl rfl) ?_
    obtain ⟨x40, hx40⟩ := get_of_lt (xs := (Lg.accsL (Lg.start0 money) (paysB (Mt.stM c (Mt.ms0 c.n) cs).bl ds pays))) (k := i) (by omega)
    refine Gx.val rfl rfl rfl (val_ixa rfl Tryd.underlying32 Tryd.ty39 rfl rfl (j := i) (rfl) (reach_base hav7 hx40)) ?_
    refine Gx.val rfl rfl rfl (Val.cast (val_fieldAddr rfl Tryd.underlying39 rfl Tryd.ty2 rfl rfl) (v' := ptr (sB (.slice sa34 sn35 sc36)) (sO (.slice sa34 sn35 sc36) + i * 2)) rfl) ?_
    refine Gx.val rfl rfl rfl (val_load rfl Tryd.ty2 rfl rfl (cell_base (i := 0) hav7 hx40 rfl)) ?_
    have hyy := hx40
    have hyb := hbd i x40 hx40
    refine Gx.val rfl rfl rfl (val_add rfl rfl rfl (r := (is + x40.n)) (w64 rfl (by omega))) ?_
    refine Gx.val rfl rfl rfl (val_assign rfl rfl) ?_
    refine Gx.done ?_
    refine Gx.blkN ?_
    refine Gx.thenN ?_
    refine Gx.region ?_
    refine Gx.val rfl rfl rfl (val_move rfl rfl) ?_
    refine Gx.val rfl rfl rfl (val_add rfl rfl rfl (r := ((i + 1 : Nat) : Int)) (w64 (by omega) (by omega))) ?_
    refine Gx.val rfl rfl rfl (val_assign rfl rfl) ?_
    refine Gx.done ?_
    refine Gx.thenN ?_
    exact Gx.round (i + 1, (was + x39), (is + x40.n)) ⟨by first | omega | (dsimp only; omega), by rw [sum_snoc hx39, hw], by rw [sumA_snoc hyy, his], by dsimp only; omega, by dsimp only; omega⟩ (by first | omega | (dsimp only; omega)) ((.cons rfl (.cons rfl (.cons rfl (.cons rfl (.cons rfl .nil)))))) rfl
  · refine Gx.exit ?_
    refine Gx.thenE ?_
    refine Gx.thenE ?_
    refine Gx.blkE ?_
    refine Gx.thenN ?_
    refine Gx.seq ?_
    refine Gx.seq ?_
    obtain rfl : i = money.length := by omega
    rw [List.take_length] at hw
    rw [List.take_of_length_le (by omega), Lg.sumA_run, Lg.sumA_start] at his
    obtain rfl : was = is := by omega
    refine Gx.region ?_
    refine Gx.val rfl rfl rfl (val_assign rfl rfl) ?_
    refine Gx.done ?_
    refine Gx.thenN ?_
    refine Gx.block ?_
    refine Gx.loop (ι := Nat) (fun ξ => (ξ ≤ (paysB (Mt.stM c (Mt.ms0 c.n) cs).bl ds pays).length)) (fun ξ => [(13, ptr b37 0), (15, .int .i64 was), (16, .int .i64 was), (18, .int .i64 ((ξ : Nat) : Int))]) (fun ξ => [Hp.rec_ b37 [.slice sa16 sn17 sc18, .slice sa19 sn20 sc21, .slice sa22 sn23 sc24, .slice sa25 sn26 sc27, .slice sa28 sn29 sc30, .slice sa31 sn32 sc33, .slice sa34 sn35 sc36]]) (fun ξ => (paysB (Mt.stM c (Mt.ms0 c.n) cs).bl ds pays).length - ξ) 0 (by first | omega | (dsimp only; omega)) ((.cons rfl (.cons rfl (.cons rfl (.cons rfl .nil))))) rfl ?_
    rintro q hq
    refine Gx.know (m' := [(13, ptr b37 0), (15, .int .i64 was), (16, .int .i64 was), (18, .int .i64 ((q : Nat) : Int))]) (.cons rfl (.cons rfl (.cons rfl (.cons rfl .nil)))) (Gx.norm (l' := [Hp.rec_ b37 [.slice sa16 sn17 sc18, .slice sa19 sn20 sc21, .slice sa22 sn23 sc24, .slice sa25 sn26 sc27, .slice sa28 sn29 sc30, .slice sa31 sn32 sc33, .slice sa34 sn35 sc36]]) rfl ?_)
    refine Gx.seq ?_
    refine Gx.seq ?_
    refine Gx.region ?_
    refine Gx.val rfl rfl rfl (val_move rfl rfl) ?_
    refine Gx.val rfl rfl rfl (Val.cast (val_fieldAddr rfl Tryd.underlying34 rfl Tryd.ty31 rfl rfl) (v' := ptr b37 4) rfl) ?_
    refine Gx.val rfl rfl rfl (val_load rfl Tryd.ty31 rfl rfl (cell_rec (k := 0) rfl rfl)) ?_
    refine Gx.val rfl rfl rfl (val_len rfl Tryd.underlying31 rfl (len_base hqv5)) ?_
    refine Gx.val rfl rfl rfl (val_lss rfl rfl rfl) ?_
    refine Gx.done ?_
    refine Gx.thenN ?_
    refine Gx.dec rfl (fun h41 => ?_) (fun h41 => ?_)
    · refine Gx.skip ?_
      refine Gx.thenN ?_
      refine Gx.seq ?_
      refine Gx.block ?_
      refine Gx.seq ?_
      refine Gx.region ?_
      refine Gx.val rfl rfl rfl (val_assign rfl rfl) ?_
      refine Gx.done ?_
      refine Gx.thenN ?_
      refine Gx.block ?_
      refine Gx.loop (ι := Nat) (fun ξ => (ξ ≤ q)) (fun ξ => [(13, ptr b37 0), (15, .int .i64 was), (16, .int .i64 was), (18, .int .i64 ((q : Nat) : Int)), (19, .int .i64 ((ξ : Nat) : Int))]) (fun ξ => [Hp.rec_ b37 [.slice sa16 sn17 sc18, .slice sa19 sn20 sc21, .slice sa22 sn23 sc24, .slice sa25 sn26 sc27, .slice sa28 sn29 sc30, .slice sa31 sn32 sc33, .slice sa34 sn35 sc36]]) (fun ξ => q - ξ) 0 (by first | omega | (dsimp only; omega)) ((.cons rfl (.cons rfl (.cons rfl (.cons rfl (.cons rfl .nil)))))) rfl ?_
      rintro j hj
      refine Gx.know (m' := [(13, ptr b37 0), (15, .int .i64 was), (16, .int .i64 was), (18, .int .i64 ((q : Nat) : Int)), (19, .int .i64 ((j : Nat) : Int))]) (.cons rfl (.cons rfl (.cons rfl (.cons rfl (.cons rfl .nil))))) (Gx.norm (l' := [Hp.rec_ b37 [.slice sa16 sn17 sc18, .slice sa19 sn20 sc21, .slice sa22 sn23 sc24, .slice sa25 sn26 sc27, .slice sa28 sn29 sc30, .slice sa31 sn32 sc33, .slice sa34 sn35 sc36]]) rfl ?_)
      refine Gx.seq ?_
      refine Gx.seq ?_
      refine Gx.region ?_
      refine Gx.val rfl rfl rfl (val_move rfl rfl) ?_
      refine Gx.val rfl rfl rfl (val_move rfl rfl) ?_
      refine Gx.val rfl rfl rfl (val_lss rfl rfl rfl) ?_
      refine Gx.done ?_
      refine Gx.thenN ?_
      refine Gx.dec rfl (fun h42 => ?_) (fun h42 => ?_)
      · refine Gx.skip ?_
        refine Gx.thenN ?_
        refine Gx.seq ?_
        refine Gx.block ?_
        refine Gx.seq ?_
        obtain ⟨p1, hp1⟩ := get_of_lt (xs := (paysB (Mt.stM c (Mt.ms0 c.n) cs).bl ds pays)) (k := q) (by omega)
        obtain ⟨e1, he1⟩ := get_of_lt (xs := (Lg.codesL (Lg.start0 money) (paysB (Mt.stM c (Mt.ms0 c.n) cs).bl ds pays))) (k := q) (by omega)
        obtain ⟨p2, hp2⟩ := get_of_lt (xs := (paysB (Mt.stM c (Mt.ms0 c.n) cs).bl ds pays)) (k := j) (by omega)
        obtain ⟨e2, he2⟩ := get_of_lt (xs := (Lg.codesL (Lg.start0 money) (paysB (Mt.stM c (Mt.ms0 c.n) cs).bl ds pays))) (k := j) (by omega)
        refine Gx.regionQ Tryd.mixed (by kernel_rfl) ?_
        refine Gq.val rfl rfl rfl (Val.cast (val_fieldAddr rfl Tryd.underlying34 rfl Tryd.ty26 rfl rfl) (v' := ptr b37 5) rfl) ?_
        refine Gq.val rfl rfl rfl (val_load rfl Tryd.ty26 rfl rfl (cell_rec (k := 0) rfl rfl)) ?_
        refine Gq.val rfl rfl rfl (val_move rfl rfl) ?_
        refine Gq.val rfl rfl rfl (val_ixa rfl Tryd.underlying26 Tryd.ty35 rfl rfl (j := q) (rfl) (reach_base hzv6 he1)) ?_
        refine Gq.val rfl rfl rfl (val_load rfl Tryd.ty35 rfl rfl (cell_base (i := 0) hzv6 he1 rfl)) ?_
        refine Gq.val rfl rfl rfl (val_eql rfl rfl rfl) ?_
        refine Gq.val rfl rfl rfl (val_move rfl rfl) ?_
        refine Gq.cases (t := 89) rfl (fun h43 => ?_) (fun h43 => ?_)
        · refine Gq.valg rfl rfl rfl rfl rfl (Val.cast (val_fieldAddr rfl Tryd.underlying34 rfl Tryd.ty26 rfl rfl) (v' := ptr b37 5) rfl) ?_
          refine Gq.valg rfl rfl rfl rfl rfl (val_load rfl Tryd.ty26 rfl rfl (cell_rec (k := 0) rfl rfl)) ?_
          refine Gq.valg rfl rfl rfl rfl rfl (val_move rfl rfl) ?_
          refine Gq.valg rfl rfl rfl rfl rfl (val_ixa rfl Tryd.underlying26 Tryd.ty35 rfl rfl (j := j) (rfl) (reach_base hzv6 he2)) ?_
          refine Gq.valg rfl rfl rfl rfl rfl (val_load rfl Tryd.ty35 rfl rfl (cell_base (i := 0) hzv6 he2 rfl)) ?_
          refine Gq.valg rfl rfl rfl rfl rfl (val_eql rfl rfl rfl) ?_
          refine Gq.val rfl rfl rfl (val_pickT rfl rfl rfl) ?_
          refine Gq.val rfl rfl rfl (val_move rfl rfl) ?_
          refine Gq.cases (t := 97) rfl (fun h44 => ?_) (fun h44 => ?_)
          · refine Gq.valg rfl rfl rfl rfl rfl (Val.cast (val_fieldAddr rfl Tryd.underlying34 rfl Tryd.ty31 rfl rfl) (v' := ptr b37 4) rfl) ?_
            refine Gq.valg rfl rfl rfl rfl rfl (val_load rfl Tryd.ty31 rfl rfl (cell_rec (k := 0) rfl rfl)) ?_
            refine Gq.valg rfl rfl rfl rfl rfl (val_move rfl rfl) ?_
            refine Gq.valg rfl rfl rfl rfl rfl (val_ixa rfl Tryd.underlying31 Tryd.ty41 rfl rfl (j := q) (rfl) (reach_base hqv5 hp1)) ?_
            refine Gq.valg rfl rfl rfl rfl rfl (Val.cast (val_fieldAddr rfl Tryd.underlying41 rfl Tryd.ty3 rfl rfl) (v' := ptr (sB (.slice sa28 sn29 sc30)) (sO (.slice sa28 sn29 sc30) + q * 4)) rfl) ?_
            refine Gq.valg rfl rfl rfl rfl rfl (val_load rfl Tryd.ty3 rfl rfl (cell_base (i := 0) hqv5 hp1 rfl)) ?_
            refine Gq.valg rfl rfl rfl rfl rfl (Val.cast (val_fieldAddr rfl Tryd.underlying34 rfl Tryd.ty31 rfl rfl) (v' := ptr b37 4) rfl) ?_
            refine Gq.valg rfl rfl rfl rfl rfl (val_load rfl Tryd.ty31 rfl rfl (cell_rec (k := 0) rfl rfl)) ?_
            refine Gq.valg rfl rfl rfl rfl rfl (val_move rfl rfl) ?_
            refine Gq.valg rfl rfl rfl rfl rfl (val_ixa rfl Tryd.underlying31 Tryd.ty41 rfl rfl (j := j) (rfl) (reach_base hqv5 hp2)) ?_
            refine Gq.valg rfl rfl rfl rfl rfl (Val.cast (val_fieldAddr rfl Tryd.underlying41 rfl Tryd.ty3 rfl rfl) (v' := ptr (sB (.slice sa28 sn29 sc30)) (sO (.slice sa28 sn29 sc30) + j * 4)) rfl) ?_
            refine Gq.valg rfl rfl rfl rfl rfl (val_load rfl Tryd.ty3 rfl rfl (cell_base (i := 0) hqv5 hp2 rfl)) ?_
            refine Gq.valg rfl rfl rfl rfl rfl (val_eql rfl rfl rfl) ?_
            refine Gq.val rfl rfl rfl (val_pickT rfl rfl rfl) ?_
            refine Gq.val rfl rfl rfl (val_move rfl rfl) ?_
            refine Gq.cases (t := 112) rfl (fun h45 => ?_) (fun h45 => ?_)
            · refine Gq.valg rfl rfl rfl rfl rfl (Val.cast (val_fieldAddr rfl Tryd.underlying34 rfl Tryd.ty31 rfl rfl) (v' := ptr b37 4) rfl) ?_
              refine Gq.valg rfl rfl rfl rfl rfl (val_load rfl Tryd.ty31 rfl rfl (cell_rec (k := 0) rfl rfl)) ?_
              refine Gq.valg rfl rfl rfl rfl rfl (val_move rfl rfl) ?_
              refine Gq.valg rfl rfl rfl rfl rfl (val_ixa rfl Tryd.underlying31 Tryd.ty41 rfl rfl (j := q) (rfl) (reach_base hqv5 hp1)) ?_
              refine Gq.valg rfl rfl rfl rfl rfl (Val.cast (val_fieldAddr rfl Tryd.underlying41 rfl Tryd.ty3 rfl rfl) (v' := ptr (sB (.slice sa28 sn29 sc30)) (sO (.slice sa28 sn29 sc30) + q * 4 + 2)) rfl) ?_
              refine Gq.valg rfl rfl rfl rfl rfl (val_load rfl Tryd.ty3 rfl rfl (cell_base (i := 2) hqv5 hp1 rfl)) ?_
              refine Gq.valg rfl rfl rfl rfl rfl (Val.cast (val_fieldAddr rfl Tryd.underlying34 rfl Tryd.ty31 rfl rfl) (v' := ptr b37 4) rfl) ?_
              refine Gq.valg rfl rfl rfl rfl rfl (val_load rfl Tryd.ty31 rfl rfl (cell_rec (k := 0) rfl rfl)) ?_
              refine Gq.valg rfl rfl rfl rfl rfl (val_move rfl rfl) ?_
              refine Gq.valg rfl rfl rfl rfl rfl (val_ixa rfl Tryd.underlying31 Tryd.ty41 rfl rfl (j := j) (rfl) (reach_base hqv5 hp2)) ?_
              refine Gq.valg rfl rfl rfl rfl rfl (Val.cast (val_fieldAddr rfl Tryd.underlying41 rfl Tryd.ty3 rfl rfl) (v' := ptr (sB (.slice sa28 sn29 sc30)) (sO (.slice sa28 sn29 sc30) + j * 4 + 2)) rfl) ?_
              refine Gq.valg rfl rfl rfl rfl rfl (val_load rfl Tryd.ty3 rfl rfl (cell_base (i := 2) hqv5 hp2 rfl)) ?_
              refine Gq.valg rfl rfl rfl rfl rfl (val_eql rfl rfl rfl) ?_
              refine Gq.val rfl rfl rfl (val_pickT rfl rfl rfl) ?_
              refine Gq.done ?_
              refine Gx.thenN ?_
              refine Gx.dec rfl (fun h46 => ?_) (fun h46 => ?_)
              · exfalso
                obtain rfl : e1 = 0 := by omega
                obtain rfl : e2 = 0 := by omega
                exact Lg.once (by omega) hp1 hp2 he1 he2 (by omega) (by omega)
              · refine Gx.skip ?_
                refine Gx.blkN ?_
                refine Gx.thenN ?_
                refine Gx.region ?_
                refine Gx.val rfl rfl rfl (val_move rfl rfl) ?_
                refine Gx.val rfl rfl rfl (val_add rfl rfl rfl (r := ((j + 1 : Nat) : Int)) (w64 (by omega) (by omega))) ?_
                refine Gx.val rfl rfl rfl (val_assign rfl rfl) ?_
                refine Gx.done ?_
                refine Gx.thenN ?_
                exact Gx.round (j + 1) (by first | omega | (dsimp only; omega)) (by first | omega | (dsimp only; omega)) ((.cons rfl (.cons rfl (.cons rfl (.cons rfl (.cons rfl .nil)))))) rfl
            · refine Gq.skipg rfl rfl rfl rfl rfl rfl ?_
              refine Gq.skipg rfl rfl rfl rfl rfl rfl ?_
              refine Gq.skipg rfl rfl rfl rfl rfl rfl ?_
              refine Gq.skipg rfl rfl rfl rfl rfl rfl ?_
              refine Gq.skipg rfl rfl rfl rfl rfl rfl ?_
              refine Gq.skipg rfl rfl rfl rfl rfl rfl ?_
              refine Gq.skipg rfl rfl rfl rfl rfl rfl ?_
              refine Gq.skipg rfl rfl rfl rfl rfl rfl ?_
              refine Gq.skipg rfl rfl rfl rfl rfl rfl ?_
              refine Gq.skipg rfl rfl rfl rfl rfl rfl ?_
              refine Gq.skipg rfl rfl rfl rfl rfl rfl ?_
              refine Gq.skipg rfl rfl rfl rfl rfl rfl ?_
              refine Gq.skipg rfl rfl rfl rfl rfl rfl ?_
              refine Gq.val rfl rfl rfl (val_pickF rfl rfl rfl) ?_
              refine Gq.done ?_
              refine Gx.thenN ?_
              refine Gx.f rfl ?_
              refine Gx.skip ?_
              refine Gx.blkN ?_
              refine Gx.thenN ?_
              refine Gx.region ?_
              refine Gx.val rfl rfl rfl (val_move rfl rfl) ?_
              refine Gx.val rfl rfl rfl (val_add rfl rfl rfl (r := ((j + 1 : Nat) : Int)) (w64 (by omega) (by omega))) ?_
              refine Gx.val rfl rfl rfl (val_assign rfl rfl) ?_
              refine Gx.done ?_
              refine Gx.thenN ?_
              exact Gx.round (j + 1) (by first | omega | (dsimp only; omega)) (by first | omega | (dsimp only; omega)) ((.cons rfl (.cons rfl (.cons rfl (.cons rfl (.cons rfl .nil)))))) rfl
          · refine Gq.skipg rfl rfl rfl rfl rfl rfl ?_
            refine Gq.skipg rfl rfl rfl rfl rfl rfl ?_
            refine Gq.skipg rfl rfl rfl rfl rfl rfl ?_
            refine Gq.skipg rfl rfl rfl rfl rfl rfl ?_
            refine Gq.skipg rfl rfl rfl rfl rfl rfl ?_
            refine Gq.skipg rfl rfl rfl rfl rfl rfl ?_
            refine Gq.skipg rfl rfl rfl rfl rfl rfl ?_
            refine Gq.skipg rfl rfl rfl rfl rfl rfl ?_
            refine Gq.skipg rfl rfl rfl rfl rfl rfl ?_
            refine Gq.skipg rfl rfl rfl rfl rfl rfl ?_
            refine Gq.skipg rfl rfl rfl rfl rfl rfl ?_
            refine Gq.skipg rfl rfl rfl rfl rfl rfl ?_
            refine Gq.skipg rfl rfl rfl rfl rfl rfl ?_
            refine Gq.val rfl rfl rfl (val_pickF rfl rfl rfl) ?_
            refine Gq.val rfl rfl rfl (val_move rfl rfl) ?_
            refine Gq.skipg rfl rfl rfl rfl rfl rfl ?_
            refine Gq.skipg rfl rfl rfl rfl rfl rfl ?_
            refine Gq.skipg rfl rfl rfl rfl rfl rfl ?_
            refine Gq.skipg rfl rfl rfl rfl rfl rfl ?_
            refine Gq.skipg rfl rfl rfl rfl rfl rfl ?_
            refine Gq.skipg rfl rfl rfl rfl rfl rfl ?_
            refine Gq.skipg rfl rfl rfl rfl rfl rfl ?_
            refine Gq.skipg rfl rfl rfl rfl rfl rfl ?_
            refine Gq.skipg rfl rfl rfl rfl rfl rfl ?_
            refine Gq.skipg rfl rfl rfl rfl rfl rfl ?_
            refine Gq.skipg rfl rfl rfl rfl rfl rfl ?_
            refine Gq.skipg rfl rfl rfl rfl rfl rfl ?_
            refine Gq.skipg rfl rfl rfl rfl rfl rfl ?_
            refine Gq.val rfl rfl rfl (val_pickF rfl rfl rfl) ?_
            refine Gq.done ?_
            refine Gx.thenN ?_
            refine Gx.f rfl ?_
            refine Gx.skip ?_
            refine Gx.blkN ?_
            refine Gx.thenN ?_
            refine Gx.region ?_
            refine Gx.val rfl rfl rfl (val_move rfl rfl) ?_
            refine Gx.val rfl rfl rfl (val_add rfl rfl rfl (r := ((j + 1 : Nat) : Int)) (w64 (by omega) (by omega))) ?_
            refine Gx.val rfl rfl rfl (val_assign rfl rfl) ?_
            refine Gx.done ?_
            refine Gx.thenN ?_
            exact Gx.round (j + 1) (by first | omega | (dsimp only; omega)) (by first | omega | (dsimp only; omega)) ((.cons rfl (.cons rfl (.cons rfl (.cons rfl (.cons rfl .nil)))))) rfl
        · refine Gq.skipg rfl rfl rfl rfl rfl rfl ?_
          refine Gq.skipg rfl rfl rfl rfl rfl rfl ?_
          refine Gq.skipg rfl rfl rfl rfl rfl rfl ?_
          refine Gq.skipg rfl rfl rfl rfl rfl rfl ?_
          refine Gq.skipg rfl rfl rfl rfl rfl rfl ?_
          refine Gq.skipg rfl rfl rfl rfl rfl rfl ?_
          refine Gq.val rfl rfl rfl (val_pickF rfl rfl rfl) ?_
          refine Gq.val rfl rfl rfl (val_move rfl rfl) ?_
          refine Gq.skipg rfl rfl rfl rfl rfl rfl ?_
          refine Gq.skipg rfl rfl rfl rfl rfl rfl ?_
          refine Gq.skipg rfl rfl rfl rfl rfl rfl ?_
          refine Gq.skipg rfl rfl rfl rfl rfl rfl ?_
          refine Gq.skipg rfl rfl rfl rfl rfl rfl ?_
          refine Gq.skipg rfl rfl rfl rfl rfl rfl ?_
          refine Gq.skipg rfl rfl rfl rfl rfl rfl ?_
          refine Gq.skipg rfl rfl rfl rfl rfl rfl ?_
          refine Gq.skipg rfl rfl rfl rfl rfl rfl ?_
          refine Gq.skipg rfl rfl rfl rfl rfl rfl ?_
          refine Gq.skipg rfl rfl rfl rfl rfl rfl ?_
          refine Gq.skipg rfl rfl rfl rfl rfl rfl ?_
          refine Gq.skipg rfl rfl rfl rfl rfl rfl ?_
          refine Gq.val rfl rfl rfl (val_pickF rfl rfl rfl) ?_
          refine Gq.val rfl rfl rfl (val_move rfl rfl) ?_
          refine Gq.skipg rfl rfl rfl rfl rfl rfl ?_
          refine Gq.skipg rfl rfl rfl rfl rfl rfl ?_
          refine Gq.skipg rfl rfl rfl rfl rfl rfl ?_
          refine Gq.skipg rfl rfl rfl rfl rfl rfl ?_
          refine Gq.skipg rfl rfl rfl rfl rfl rfl ?_
          refine Gq.skipg rfl rfl rfl rfl rfl rfl ?_
          refine Gq.skipg rfl rfl rfl rfl rfl rfl ?_
          refine Gq.skipg rfl rfl rfl rfl rfl rfl ?_
          refine Gq.skipg rfl rfl rfl rfl rfl rfl ?_
          refine Gq.skipg rfl rfl rfl rfl rfl rfl ?_
          refine Gq.skipg rfl rfl rfl rfl rfl rfl ?_
          refine Gq.skipg rfl rfl rfl rfl rfl rfl ?_
          refine Gq.skipg rfl rfl rfl rfl rfl rfl ?_
          refine Gq.val rfl rfl rfl (val_pickF rfl rfl rfl) ?_
          refine Gq.done ?_
          refine Gx.thenN ?_
          refine Gx.f rfl ?_
          refine Gx.skip ?_
          refine Gx.blkN ?_
          refine Gx.thenN ?_
          refine Gx.region ?_
          refine Gx.val rfl rfl rfl (val_move rfl rfl) ?_
          refine Gx.val rfl rfl rfl (val_add rfl rfl rfl (r := ((j + 1 : Nat) : Int)) (w64 (by omega) (by omega))) ?_
          refine Gx.val rfl rfl rfl (val_assign rfl rfl) ?_
          refine Gx.done ?_
          refine Gx.thenN ?_
          exact Gx.round (j + 1) (by first | omega | (dsimp only; omega)) (by first | omega | (dsimp only; omega)) ((.cons rfl (.cons rfl (.cons rfl (.cons rfl (.cons rfl .nil)))))) rfl
      · refine Gx.exit ?_
        refine Gx.thenE ?_
        refine Gx.thenE ?_
        refine Gx.blkE ?_
        refine Gx.blkN ?_
        refine Gx.thenN ?_
        refine Gx.region ?_
        refine Gx.val rfl rfl rfl (val_move rfl rfl) ?_
        refine Gx.val rfl rfl rfl (val_add rfl rfl rfl (r := ((q + 1 : Nat) : Int)) (w64 (by omega) (by omega))) ?_
        refine Gx.val rfl rfl rfl (val_assign rfl rfl) ?_
        refine Gx.done ?_
        refine Gx.thenN ?_
        exact Gx.round (q + 1) (by first | omega | (dsimp only; omega)) (by first | omega | (dsimp only; omega)) ((.cons rfl (.cons rfl (.cons rfl (.cons rfl .nil))))) rfl
    · refine Gx.exit ?_
      refine Gx.thenE ?_
      refine Gx.thenE ?_
      refine Gx.blkE ?_
      refine Gx.thenN ?_
      refine Gx.seq ?_
      refine Gx.region ?_
      refine Gx.val rfl rfl rfl (val_move rfl rfl) ?_
      refine Gx.val rfl rfl rfl (val_move rfl rfl) ?_
      refine Gx.val rfl rfl rfl (val_eql rfl rfl rfl) ?_
      refine Gx.val rfl rfl rfl (val_assign rfl rfl) ?_
      refine Gx.done ?_
      refine Gx.thenN ?_
      refine Gx.ret ?_
      refine Gx.ret1B hW10 Tryd.results3 rfl ?_
      first | rfl | exact congrArg Value.bool (decide_eq_true (by omega))

theorem money_any {W : World} {k f z : Int} {sv mv pv : Value} {cs : List Mt.Sy} {money : List Int} {pays : List Row} (hz0 : 0 ≤ z) (hz1 : z < 4294967296) (hg : Lg.HG W) (hs : SlS Mt.FM 5 W sv cs) (hm : SlS Lg.FM 1 W mv money) (hp : SlS FW 1 W pv pays) (hrows : ∀ r ∈ pays, SlS Lg.FP 4 W (.slice r.a r.xs.length r.c) r.xs) (hsz : ∀ r ∈ pays, r.xs.length ≤ 1048576) :
    Calls Tryd.prog 3 #[.int .i64 k, .int .i64 f, .int .u32 z, sv, mv, pv] W fun e w' => e = .returned (.bool true) ∧ Below W.heap.size W w' := by
  obtain ⟨L, rfl⟩ : ∃ L : Nat, z = (L : Int) := ⟨z.toNat, by omega⟩
  have hL : L < 4294967296 := by omega
  by_cases h : Good k f L cs money pays
  · obtain ⟨⟨h1, h2, h3, h4, h5, h6⟩, ds, h7, h8, h9⟩ := h
    obtain ⟨n, rfl⟩ : ∃ n : Nat, k = (n : Int) := ⟨k.toNat, by omega⟩
    obtain ⟨f', rfl⟩ : ∃ f' : Nat, f = (f' : Int) := ⟨f.toNat, by omega⟩
    simp only [Int.toNat_natCast] at h5 h6 h7 h8 h9
    exact money_yes (c := ⟨n, n - f', L⟩) hg hs hm hp hrows hsz (by dsimp only; omega) (by dsimp only; omega) h3 (by dsimp only; omega) (by dsimp only; omega) h6 hL h7 h8 h9
  · exact money_bad hg hs hm hp hrows hsz hL h
end Go.Proofs.YtkbggdocfklkkaaDoor
