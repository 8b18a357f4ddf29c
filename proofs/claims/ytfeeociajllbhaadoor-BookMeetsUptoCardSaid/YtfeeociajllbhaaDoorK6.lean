/- BookMeets. The walk. No condition. -/
import Derived.Test.YtfeeociajllbhaaDoorK5
namespace Go.Proofs.YtfeeociajllbhaaDoor
open Go.RowKit
set_option linter.unusedVariables false
set_option linter.unusedSimpArgs false
set_option maxRecDepth 100000

theorem meets_bad {W : World} {k f : Int} {L : Nat} {sv mv pv : Value} {cs : List Mt.Sy} {money : List Int} {pays : List Row} (hg : Lg.HG W) (hs : SlS Mt.FM 5 W sv cs) (hm : SlS Lg.FM 1 W mv money) (hp : SlS FW 1 W pv pays) (hrows : ∀ r ∈ pays, SlS Lg.FP 4 W (.slice r.a r.xs.length r.c) r.xs) (hsz : ∀ r ∈ pays, r.xs.length ≤ 1048576) (hL : L < 4294967296) (hbad : ¬ Mt.Valid k f L cs) :
    Calls Tryd.prog 3 #[.int .i64 k, .int .i64 f, .int .u32 ((L : Nat) : Int), sv, mv, pv] W fun e w' => e = .returned (.bool true) ∧ Below W.heap.size W w' := by
  have hnil := sls_nil FW 1 W
  have hrn : ∀ r ∈ ([] : List Row), SlS Lg.FP 4 W (.slice r.a r.xs.length r.c) r.xs := fun r h => by cases h
  have hzn : ∀ r ∈ ([] : List Row), r.xs.length ≤ 1048576 := fun r h => by cases h
  refine calls_pure (Gx.enter (l := []) Tryd.func3 rfl Tryd.ntmps3 rfl (Sat.start W) ?_)
  refine Gx.know (m' := [(0, .int .i64 k), (1, .int .i64 f), (2, .int .u32 ((L : Nat) : Int)), (3, sv), (4, mv), (5, pv)]) (.cons rfl (.cons rfl (.cons rfl (.cons rfl (.cons rfl (.cons rfl .nil)))))) ?_
  refine Gx.seq ?_
  refine Gx.region ?_
  refine Gx.val rfl rfl rfl (val_assign rfl rfl) ?_
  refine Gx.done ?_
  refine Gx.thenN ?_
  refine Gx.seq ?_
  refine Gx.region ?_
  refine Gx.val rfl rfl rfl (val_move rfl rfl) ?_
  refine Gx.val rfl rfl rfl (val_move rfl rfl) ?_
  refine Gx.val rfl rfl rfl (val_move rfl rfl) ?_
  refine Gx.val rfl rfl rfl (val_move rfl rfl) ?_
  refine Gx.val rfl rfl rfl (val_call (vs := [.int .i64 k, .int .i64 f, .int .u32 ((L : Nat) : Int), sv]) rfl Tryd.fn4 rfl (fun w H => play_at (hs.below H.below) hbad)) ?_
  refine Gx.val rfl rfl rfl (val_move rfl rfl) ?_
  refine Gx.val rfl rfl rfl (val_extract rfl rfl rfl) ?_
  refine Gx.val rfl rfl rfl (val_extract rfl rfl rfl) ?_
  refine Gx.eff rfl rfl rfl (eff_alloc rfl Tryd.ty30 (vs := [.slice none 0 0, .slice none 0 0, .slice none 0 0, .slice none 0 0]) rfl) ?_
  rintro _ _ ⟨b1, rfl, rfl⟩
  refine Gx.eff0 rfl rfl (eff_store rfl Tryd.ty30 rfl rfl (us := [.slice none 0 0, .slice none 0 0, .slice none 0 0, .slice none 0 0]) rfl rfl rfl (k := 0) rfl (rfl) (vs' := [.slice none 0 0, .slice none 0 0, .slice none 0 0, .slice none 0 0]) (rfl) (l' := [Hp.rec_ b1 [.slice none 0 0, .slice none 0 0, .slice none 0 0, .slice none 0 0]]) rfl) ?_
  rintro _ _ rfl
  refine Gx.val rfl rfl rfl (val_assign rfl rfl) ?_
  refine Gx.done ?_
  refine Gx.thenN ?_
  refine Gx.seq ?_
  refine Gx.region ?_
  refine Gx.val rfl rfl rfl (val_move rfl rfl) ?_
  refine Gx.val rfl rfl rfl (val_move rfl rfl) ?_
  refine Gx.val rfl rfl rfl (val_move rfl rfl) ?_
  refine Gx.val rfl rfl rfl (val_move rfl rfl) ?_
  refine Gx.val rfl rfl rfl (val_move rfl rfl) ?_
  refine Gx.val rfl rfl rfl (val_call (vs := [.int .i64 k, .int .i64 f, .int .u32 ((L : Nat) : Int), sv, mv, .slice none 0 0]) rfl Tryd.fn5 rfl (fun w H => book_at (hs.below H.below) hbad)) ?_
  refine Gx.val rfl rfl rfl (val_move rfl rfl) ?_
  refine Gx.val rfl rfl rfl (val_extract rfl rfl rfl) ?_
  refine Gx.val rfl rfl rfl (val_extract rfl rfl rfl) ?_
  refine Gx.eff rfl rfl rfl (eff_alloc rfl Tryd.ty37 (vs := [.slice none 0 0, .slice none 0 0, .slice none 0 0, .slice none 0 0, .slice none 0 0, .slice none 0 0, .slice none 0 0]) rfl) ?_
  rintro _ _ ⟨b2, rfl, rfl⟩
  refine Gx.eff0 rfl rfl (eff_store rfl Tryd.ty37 rfl rfl (us := [.slice none 0 0, .slice none 0 0, .slice none 0 0, .slice none 0 0, .slice none 0 0, .slice none 0 0, .slice none 0 0]) rfl rfl rfl (k := 0) rfl (rfl) (vs' := [.slice none 0 0, .slice none 0 0, .slice none 0 0, .slice none 0 0, .slice none 0 0, .slice none 0 0, .slice none 0 0]) (rfl) (l' := [Hp.rec_ b2 [.slice none 0 0, .slice none 0 0, .slice none 0 0, .slice none 0 0, .slice none 0 0, .slice none 0 0, .slice none 0 0], Hp.rec_ b1 [.slice none 0 0, .slice none 0 0, .slice none 0 0, .slice none 0 0]]) rfl) ?_
  rintro _ _ rfl
  refine Gx.val rfl rfl rfl (val_assign rfl rfl) ?_
  refine Gx.done ?_
  refine Gx.thenN ?_
  refine Gx.seq ?_
  refine Gx.region ?_
  refine Gx.val rfl rfl rfl (val_move rfl rfl) ?_
  refine Gx.val rfl rfl rfl (val_move rfl rfl) ?_
  refine Gx.val rfl rfl rfl (val_move rfl rfl) ?_
  refine Gx.val rfl rfl rfl (val_move rfl rfl) ?_
  refine Gx.val rfl rfl rfl (val_move rfl rfl) ?_
  refine Gx.val rfl rfl rfl (val_move rfl rfl) ?_
  refine Gx.val rfl rfl rfl (val_call (vs := [.int .i64 k, .int .i64 f, .int .u32 ((L : Nat) : Int), sv, mv, pv]) rfl Tryd.fn5 rfl (fun w H => book_at (hs.below H.below) hbad)) ?_
  refine Gx.val rfl rfl rfl (val_move rfl rfl) ?_
  refine Gx.val rfl rfl rfl (val_extract rfl rfl rfl) ?_
  refine Gx.val rfl rfl rfl (val_extract rfl rfl rfl) ?_
  refine Gx.eff rfl rfl rfl (eff_alloc rfl Tryd.ty37 (vs := [.slice none 0 0, .slice none 0 0, .slice none 0 0, .slice none 0 0, .slice none 0 0, .slice none 0 0, .slice none 0 0]) rfl) ?_
  rintro _ _ ⟨b3, rfl, rfl⟩
  refine Gx.eff0 rfl rfl (eff_store rfl Tryd.ty37 rfl rfl (us := [.slice none 0 0, .slice none 0 0, .slice none 0 0, .slice none 0 0, .slice none 0 0, .slice none 0 0, .slice none 0 0]) rfl rfl rfl (k := 0) rfl (rfl) (vs' := [.slice none 0 0, .slice none 0 0, .slice none 0 0, .slice none 0 0, .slice none 0 0, .slice none 0 0, .slice none 0 0]) (rfl) (l' := [Hp.rec_ b3 [.slice none 0 0, .slice none 0 0, .slice none 0 0, .slice none 0 0, .slice none 0 0, .slice none 0 0, .slice none 0 0], Hp.rec_ b2 [.slice none 0 0, .slice none 0 0, .slice none 0 0, .slice none 0 0, .slice none 0 0, .slice none 0 0, .slice none 0 0], Hp.rec_ b1 [.slice none 0 0, .slice none 0 0, .slice none 0 0, .slice none 0 0]]) rfl) ?_
  rintro _ _ rfl
  refine Gx.val rfl rfl rfl (val_assign rfl rfl) ?_
  refine Gx.done ?_
  refine Gx.thenN ?_
  refine Gx.seq ?_
  refine Gx.seq ?_
  refine Gx.region ?_
  refine Gx.val rfl rfl rfl (val_move rfl rfl) ?_
  refine Gx.val rfl rfl rfl (val_neq rfl rfl rfl) ?_
  refine Gx.done ?_
  refine Gx.thenN ?_
  refine Gx.decT rfl (codeM_ne _ _ _) ?_
  refine Gx.seq ?_
  refine Gx.region ?_
  refine Gx.val rfl rfl rfl (val_move rfl rfl) ?_
  refine Gx.val rfl rfl rfl (val_move rfl rfl) ?_
  refine Gx.val rfl rfl rfl (val_eql rfl rfl rfl) ?_
  refine Gx.val rfl rfl rfl (val_move rfl rfl) ?_
  refine Gx.slot (t := 52) (v := .bool true) (look_decT rfl (by first | rfl | simp)) ?_
  refine Gx.valg rfl rfl rfl rfl rfl (val_move rfl rfl) ?_
  refine Gx.valg rfl rfl rfl rfl rfl (val_move rfl rfl) ?_
  refine Gx.valg rfl rfl rfl rfl rfl (val_eql rfl rfl rfl) ?_
  refine Gx.val rfl rfl rfl (val_pickT rfl rfl rfl) ?_
  refine Gx.val rfl rfl rfl (val_assign rfl rfl) ?_
  refine Gx.done ?_
  refine Gx.thenN ?_
  refine Gx.ret ?_
  refine Gx.thenR ?_
  refine Gx.ret1 Tryd.results3 rfl ?_
  first | rfl | exact congrArg Value.bool (decide_eq_true rfl)

theorem meets_none {W : World} {c : Mt.MC} {f : Nat} {sv mv pv : Value} {cs : List Mt.Sy} {money : List Int} {pays : List Row} {ds : List Bool} (hg : Lg.HG W) (hs : SlS Mt.FM 5 W sv cs) (hm : SlS Lg.FM 1 W mv money) (hp : SlS FW 1 W pv pays) (hrows : ∀ r ∈ pays, SlS Lg.FP 4 W (.slice r.a r.xs.length r.c) r.xs) (hsz : ∀ r ∈ pays, r.xs.length ≤ 1048576) (h1n : 1 ≤ c.n) (h7n : c.n ≤ 7) (hcl : cs.length ≤ 120) (hf : f ≤ (c.n - 1) / 3) (hfn : c.need + f = c.n) (hLn : c.L >>> c.n = 0) (hL : c.L < 4294967296) (hds : Chn.IsDec (Mt.blsP (Mt.stM c (Mt.ms0 c.n) cs).bl) (Mt.certL c (Mt.stM c (Mt.ms0 c.n) cs)) (Mt.stM c (Mt.ms0 c.n) cs).bl.length ds) (hno : ¬ Lg.OkL money 0) :
    Calls Tryd.prog 3 #[.int .i64 ((c.n : Nat) : Int), .int .i64 ((f : Nat) : Int), .int .u32 ((c.L : Nat) : Int), sv, mv, pv] W fun e w' => e = .returned (.bool true) ∧ Below W.heap.size W w' := by
  have hnil := sls_nil FW 1 W
  have hrn : ∀ r ∈ ([] : List Row), SlS Lg.FP 4 W (.slice r.a r.xs.length r.c) r.xs := fun r h => by cases h
  have hzn : ∀ r ∈ ([] : List Row), r.xs.length ≤ 1048576 := fun r h => by cases h
  have ok : Mt.OkM c := ⟨h7n, by omega, hL⟩
  have bd := Mt.BdM.at_ ok cs
  have iv := Mt.InvM.run ok cs (Mt.BdM.start c) (Mt.InvM.start c)
  have hb40 := bd.b40
  have hpos := bd.pos
  have hdl : ds.length = (Mt.stM c (Mt.ms0 c.n) cs).bl.length := by rw [hds.1, List.length_map]
  have hcdl : (Mt.codesM c (Mt.ms0 c.n) cs).length = cs.length := Mt.codesM_len ..
  have hwl : (Mt.certL c (Mt.stM c (Mt.ms0 c.n) cs)).length = (Mt.stM c (Mt.ms0 c.n) cs).bl.length := by unfold Mt.certL; rw [List.length_map, List.length_range]
  have hm9 := sls_bd hm
  have hp9 := sls_bd hp
  refine calls_pure (Gx.enter (l := []) Tryd.func3 rfl Tryd.ntmps3 rfl (Sat.start W) ?_)
  refine Gx.know (m' := [(0, .int .i64 ((c.n : Nat) : Int)), (1, .int .i64 ((f : Nat) : Int)), (2, .int .u32 ((c.L : Nat) : Int)), (3, sv), (4, mv), (5, pv)]) (.cons rfl (.cons rfl (.cons rfl (.cons rfl (.cons rfl (.cons rfl .nil)))))) ?_
  refine Gx.seq ?_
  refine Gx.region ?_
  refine Gx.val rfl rfl rfl (val_assign rfl rfl) ?_
  refine Gx.done ?_
  refine Gx.thenN ?_
  refine Gx.seq ?_
  refine Gx.region ?_
  refine Gx.val rfl rfl rfl (val_move rfl rfl) ?_
  refine Gx.val rfl rfl rfl (val_move rfl rfl) ?_
  refine Gx.val rfl rfl rfl (val_move rfl rfl) ?_
  refine Gx.val rfl rfl rfl (val_move rfl rfl) ?_
  refine Gx.callB rfl rfl rfl (vs := [.int .i64 ((c.n : Nat) : Int), .int .i64 ((f : Nat) : Int), .int .u32 ((c.L : Nat) : Int), sv]) rfl Tryd.fn4 rfl (R := fun v w' => ∃ (cv bv wv dv : Value) (ds : List Bool), v = .tuple #[.agg #[cv, bv, wv, dv], .int .i64 0] ∧ SlS Mt.FZ 1 w' cv (Mt.codesM c (Mt.ms0 c.n) cs) ∧ SlS Mt.FK 2 w' bv (Mt.stM c (Mt.ms0 c.n) cs).bl ∧ SlS Mt.FB 1 w' wv (Mt.certL c (Mt.stM c (Mt.ms0 c.n) cs)) ∧ SlS Mt.FB 1 w' dv ds ∧ Chn.IsDec (Mt.blsP (Mt.stM c (Mt.ms0 c.n) cs).bl) (Mt.certL c (Mt.stM c (Mt.ms0 c.n) cs)) (Mt.stM c (Mt.ms0 c.n) cs).bl.length ds) (fun w H => Mt.play_ok (hs.below H.below) h1n h7n hcl hf hfn hLn hL) ?_
  rintro _ W1 ⟨m0, m1, m2, m3, ds', rfl, hm0, hm1, hm2, hm3, mdec⟩ H2
  have hW3 := H2.below
  have hs4 := hs.below H2.below
  have hs5 := hm.below H2.below
  have hs6 := hp.below H2.below
  have hs7 := hnil.below H2.below
  have hg8 := hg.below H2.below
  have hrw9 := fun r hr => (hrows r hr).below H2.below
  have hrw10 := fun r hr => (hrn r hr).below H2.below
  obtain rfl := Mt.dec_uniq hds mdec
  refine Gx.val rfl rfl rfl (val_move rfl rfl) ?_
  obtain ⟨sa11, sn12, sc13, rfl⟩ := hm0.isS
  obtain ⟨sa14, sn15, sc16, rfl⟩ := hm1.isS
  obtain ⟨sa17, sn18, sc19, rfl⟩ := hm2.isS
  obtain ⟨sa20, sn21, sc22, rfl⟩ := hm3.isS
  refine Gx.val rfl rfl rfl (val_extract rfl rfl rfl) ?_
  refine Gx.val rfl rfl rfl (val_extract rfl rfl rfl) ?_
  refine Gx.eff rfl rfl rfl (eff_alloc rfl Tryd.ty30 (vs := [.slice none 0 0, .slice none 0 0, .slice none 0 0, .slice none 0 0]) rfl) ?_
  rintro _ _ ⟨b23, rfl, rfl⟩
  refine Gx.eff0 rfl rfl (eff_store rfl Tryd.ty30 rfl rfl (us := [.slice sa11 sn12 sc13, .slice sa14 sn15 sc16, .slice sa17 sn18 sc19, .slice sa20 sn21 sc22]) rfl rfl rfl (k := 0) rfl (rfl) (vs' := [.slice sa11 sn12 sc13, .slice sa14 sn15 sc16, .slice sa17 sn18 sc19, .slice sa20 sn21 sc22]) (rfl) (l' := [Hp.rec_ b23 [.slice sa11 sn12 sc13, .slice sa14 sn15 sc16, .slice sa17 sn18 sc19, .slice sa20 sn21 sc22]]) rfl) ?_
  rintro _ _ rfl
  refine Gx.val rfl rfl rfl (val_assign rfl rfl) ?_
  refine Gx.done ?_
  refine Gx.thenN ?_
  refine Gx.seq ?_
  refine Gx.region ?_
  refine Gx.val rfl rfl rfl (val_move rfl rfl) ?_
  refine Gx.val rfl rfl rfl (val_move rfl rfl) ?_
  refine Gx.val rfl rfl rfl (val_move rfl rfl) ?_
  refine Gx.val rfl rfl rfl (val_move rfl rfl) ?_
  refine Gx.val rfl rfl rfl (val_move rfl rfl) ?_
  refine Gx.eff rfl rfl rfl (eff_callE (vs := [.int .i64 ((c.n : Nat) : Int), .int .i64 ((f : Nat) : Int), .int .u32 ((c.L : Nat) : Int), sv, mv, .slice none 0 0]) rfl Tryd.fn5 rfl (R := fun v => ∃ z : Int, z ≠ 0 ∧ v = .tuple #[.agg #[.slice none 0 0, .slice none 0 0, .slice none 0 0, .slice none 0 0, .slice none 0 0, .slice none 0 0, .slice none 0 0], .int .i64 z]) (fun w H => book_none (hg8.below H.below) (hs4.below H.below) (hs5.below H.below) (hs7.below H.below) (fun r hr => (hrw10 r hr).below H.below) hzn h1n h7n hcl hf hfn hLn hL hds hno)) ?_
  rintro _ _ ⟨⟨zz24, hzz25, rfl⟩, rfl⟩
  refine Gx.val rfl rfl rfl (val_move rfl rfl) ?_
  refine Gx.val rfl rfl rfl (val_extract rfl rfl rfl) ?_
  refine Gx.val rfl rfl rfl (val_extract rfl rfl rfl) ?_
  refine Gx.eff rfl rfl rfl (eff_alloc rfl Tryd.ty37 (vs := [.slice none 0 0, .slice none 0 0, .slice none 0 0, .slice none 0 0, .slice none 0 0, .slice none 0 0, .slice none 0 0]) rfl) ?_
  rintro _ _ ⟨b26, rfl, rfl⟩
  refine Gx.eff0 rfl rfl (eff_store rfl Tryd.ty37 rfl rfl (us := [.slice none 0 0, .slice none 0 0, .slice none 0 0, .slice none 0 0, .slice none 0 0, .slice none 0 0, .slice none 0 0]) rfl rfl rfl (k := 0) rfl (rfl) (vs' := [.slice none 0 0, .slice none 0 0, .slice none 0 0, .slice none 0 0, .slice none 0 0, .slice none 0 0, .slice none 0 0]) (rfl) (l' := [Hp.rec_ b26 [.slice none 0 0, .slice none 0 0, .slice none 0 0, .slice none 0 0, .slice none 0 0, .slice none 0 0, .slice none 0 0], Hp.rec_ b23 [.slice sa11 sn12 sc13, .slice sa14 sn15 sc16, .slice sa17 sn18 sc19, .slice sa20 sn21 sc22]]) rfl) ?_
  rintro _ _ rfl
  refine Gx.val rfl rfl rfl (val_assign rfl rfl) ?_
  refine Gx.done ?_
  refine Gx.thenN ?_
  refine Gx.seq ?_
  refine Gx.region ?_
  refine Gx.val rfl rfl rfl (val_move rfl rfl) ?_
  refine Gx.val rfl rfl rfl (val_move rfl rfl) ?_
  refine Gx.val rfl rfl rfl (val_move rfl rfl) ?_
  refine Gx.val rfl rfl rfl (val_move rfl rfl) ?_
  refine Gx.val rfl rfl rfl (val_move rfl rfl) ?_
  refine Gx.val rfl rfl rfl (val_move rfl rfl) ?_
  refine Gx.eff rfl rfl rfl (eff_callE (vs := [.int .i64 ((c.n : Nat) : Int), .int .i64 ((f : Nat) : Int), .int .u32 ((c.L : Nat) : Int), sv, mv, pv]) rfl Tryd.fn5 rfl (R := fun v => ∃ z : Int, z ≠ 0 ∧ v = .tuple #[.agg #[.slice none 0 0, .slice none 0 0, .slice none 0 0, .slice none 0 0, .slice none 0 0, .slice none 0 0, .slice none 0 0], .int .i64 z]) (fun w H => book_none (hg8.below H.below) (hs4.below H.below) (hs5.below H.below) (hs6.below H.below) (fun r hr => (hrw9 r hr).below H.below) hsz h1n h7n hcl hf hfn hLn hL hds hno)) ?_
  rintro _ _ ⟨⟨zz27, hzz28, rfl⟩, rfl⟩
  refine Gx.val rfl rfl rfl (val_move rfl rfl) ?_
  refine Gx.val rfl rfl rfl (val_extract rfl rfl rfl) ?_
  refine Gx.val rfl rfl rfl (val_extract rfl rfl rfl) ?_
  refine Gx.eff rfl rfl rfl (eff_alloc rfl Tryd.ty37 (vs := [.slice none 0 0, .slice none 0 0, .slice none 0 0, .slice none 0 0, .slice none 0 0, .slice none 0 0, .slice none 0 0]) rfl) ?_
  rintro _ _ ⟨b29, rfl, rfl⟩
  refine Gx.eff0 rfl rfl (eff_store rfl Tryd.ty37 rfl rfl (us := [.slice none 0 0, .slice none 0 0, .slice none 0 0, .slice none 0 0, .slice none 0 0, .slice none 0 0, .slice none 0 0]) rfl rfl rfl (k := 0) rfl (rfl) (vs' := [.slice none 0 0, .slice none 0 0, .slice none 0 0, .slice none 0 0, .slice none 0 0, .slice none 0 0, .slice none 0 0]) (rfl) (l' := [Hp.rec_ b29 [.slice none 0 0, .slice none 0 0, .slice none 0 0, .slice none 0 0, .slice none 0 0, .slice none 0 0, .slice none 0 0], Hp.rec_ b26 [.slice none 0 0, .slice none 0 0, .slice none 0 0, .slice none 0 0, .slice none 0 0, .slice none 0 0, .slice none 0 0], Hp.rec_ b23 [.slice sa11 sn12 sc13, .slice sa14 sn15 sc16, .slice sa17 sn18 sc19, .slice sa20 sn21 sc22]]) rfl) ?_
  rintro _ _ rfl
  refine Gx.val rfl rfl rfl (val_assign rfl rfl) ?_
  refine Gx.done ?_
  refine Gx.thenN ?_
  refine Gx.seq ?_
  refine Gx.seq ?_
  refine Gx.region ?_
  refine Gx.val rfl rfl rfl (val_move rfl rfl) ?_
  refine Gx.val rfl rfl rfl (Val.cast (val_neq rfl rfl rfl) (v' := .bool false) rfl) ?_
  refine Gx.done ?_
  refine Gx.thenN ?_
  refine Gx.f rfl ?_
  refine Gx.skip ?_
  refine Gx.thenN ?_
  refine Gx.seq ?_
  refine Gx.seq ?_
  refine Gx.region ?_
  refine Gx.val rfl rfl rfl (val_move rfl rfl) ?_
  refine Gx.val rfl rfl rfl (val_neq rfl rfl rfl) ?_
  refine Gx.done ?_
  refine Gx.thenN ?_
  refine Gx.decT rfl (by omega) ?_
  refine Gx.seq ?_
  refine Gx.region ?_
  refine Gx.val rfl rfl rfl (val_move rfl rfl) ?_
  refine Gx.eff rfl rfl rfl (eff_callE (vs := [mv, .int .i64 0]) rfl Tryd.fn6 rfl (R := fun u => ∃ c : Int, u = .int .i64 c ∧ (c = 0 ↔ Lg.OkL money 0)) (fun w H => Lg.lcheck_any 0 (hs5.below H.below))) ?_
  rintro _ _ ⟨⟨lc30, rfl, hlc31⟩, rfl⟩
  refine Gx.val rfl rfl rfl (val_neq rfl rfl rfl) ?_
  refine Gx.val rfl rfl rfl (val_assign rfl rfl) ?_
  refine Gx.done ?_
  refine Gx.thenN ?_
  refine Gx.ret ?_
  refine Gx.thenR ?_
  refine Gx.ret1B hW3 Tryd.results3 rfl ?_
  first | rfl | exact congrArg Value.bool (decide_eq_true (fun h => hno (by exact hlc31.1 h)))

set_option maxHeartbeats 2000000 in
theorem meets_yes {W : World} {c : Mt.MC} {f : Nat} {sv mv pv : Value} {cs : List Mt.Sy} {money : List Int} {pays : List Row} {ds : List Bool} (hg : Lg.HG W) (hs : SlS Mt.FM 5 W sv cs) (hm : SlS Lg.FM 1 W mv money) (hp : SlS FW 1 W pv pays) (hrows : ∀ r ∈ pays, SlS Lg.FP 4 W (.slice r.a r.xs.length r.c) r.xs) (hsz : ∀ r ∈ pays, r.xs.length ≤ 1048576) (h1n : 1 ≤ c.n) (h7n : c.n ≤ 7) (hcl : cs.length ≤ 120) (hf : f ≤ (c.n - 1) / 3) (hfn : c.need + f = c.n) (hLn : c.L >>> c.n = 0) (hL : c.L < 4294967296) (hds : Chn.IsDec (Mt.blsP (Mt.stM c (Mt.ms0 c.n) cs).bl) (Mt.certL c (Mt.stM c (Mt.ms0 c.n) cs)) (Mt.stM c (Mt.ms0 c.n) cs).bl.length ds) (hok : Lg.OkL money 0) :
    Calls Tryd.prog 3 #[.int .i64 ((c.n : Nat) : Int), .int .i64 ((f : Nat) : Int), .int .u32 ((c.L : Nat) : Int), sv, mv, pv] W fun e w' => e = .returned (.bool true) ∧ Below W.heap.size W w' := by
  have hnil := sls_nil FW 1 W
  have hrn : ∀ r ∈ ([] : List Row), SlS Lg.FP 4 W (.slice r.a r.xs.length r.c) r.xs := fun r h => by cases h
  have hzn : ∀ r ∈ ([] : List Row), r.xs.length ≤ 1048576 := fun r h => by cases h
  have ok : Mt.OkM c := ⟨h7n, by omega, hL⟩
  have bd := Mt.BdM.at_ ok cs
  have iv := Mt.InvM.run ok cs (Mt.BdM.start c) (Mt.InvM.start c)
  have hb40 := bd.b40
  have hpos := bd.pos
  have hdl : ds.length = (Mt.stM c (Mt.ms0 c.n) cs).bl.length := by rw [hds.1, List.length_map]
  have hcdl : (Mt.codesM c (Mt.ms0 c.n) cs).length = cs.length := Mt.codesM_len ..
  have hwl : (Mt.certL c (Mt.stM c (Mt.ms0 c.n) cs)).length = (Mt.stM c (Mt.ms0 c.n) cs).bl.length := by unfold Mt.certL; rw [List.length_map, List.length_range]
  have hm9 := sls_bd hm
  have hp9 := sls_bd hp
  have hacl0 : (Lg.accsL (Lg.start0 money) []).length = money.length := by rw [Lg.accsL_len, Lg.start_len]
  refine calls_pure (Gx.enter (l := []) Tryd.func3 rfl Tryd.ntmps3 rfl (Sat.start W) ?_)
  refine Gx.know (m' := [(0, .int .i64 ((c.n : Nat) : Int)), (1, .int .i64 ((f : Nat) : Int)), (2, .int .u32 ((c.L : Nat) : Int)), (3, sv), (4, mv), (5, pv)]) (.cons rfl (.cons rfl (.cons rfl (.cons rfl (.cons rfl (.cons rfl .nil)))))) ?_
  refine Gx.seq ?_
  refine Gx.region ?_
  refine Gx.val rfl rfl rfl (val_assign rfl rfl) ?_
  refine Gx.done ?_
  refine Gx.thenN ?_
  refine Gx.seq ?_
  refine Gx.region ?_
  refine Gx.val rfl rfl rfl (val_move rfl rfl) ?_
  refine Gx.val rfl rfl rfl (val_move rfl rfl) ?_
  refine Gx.val rfl rfl rfl (val_move rfl rfl) ?_
  refine Gx.val rfl rfl rfl (val_move rfl rfl) ?_
  refine Gx.callB rfl rfl rfl (vs := [.int .i64 ((c.n : Nat) : Int), .int .i64 ((f : Nat) : Int), .int .u32 ((c.L : Nat) : Int), sv]) rfl Tryd.fn4 rfl (R := fun v w' => ∃ (cv bv wv dv : Value) (ds : List Bool), v = .tuple #[.agg #[cv, bv, wv, dv], .int .i64 0] ∧ SlS Mt.FZ 1 w' cv (Mt.codesM c (Mt.ms0 c.n) cs) ∧ SlS Mt.FK 2 w' bv (Mt.stM c (Mt.ms0 c.n) cs).bl ∧ SlS Mt.FB 1 w' wv (Mt.certL c (Mt.stM c (Mt.ms0 c.n) cs)) ∧ SlS Mt.FB 1 w' dv ds ∧ Chn.IsDec (Mt.blsP (Mt.stM c (Mt.ms0 c.n) cs).bl) (Mt.certL c (Mt.stM c (Mt.ms0 c.n) cs)) (Mt.stM c (Mt.ms0 c.n) cs).bl.length ds) (fun w H => Mt.play_ok (hs.below H.below) h1n h7n hcl hf hfn hLn hL) ?_
  rintro _ W1 ⟨m0, m1, m2, m3, ds', rfl, hm0, hm1, hm2, hm3, mdec⟩ H2
  have hW3 := H2.below
  have hs4 := hs.below H2.below
  have hs5 := hm.below H2.below
  have hs6 := hp.below H2.below
  have hs7 := hnil.below H2.below
  have hg8 := hg.below H2.below
  have hrw9 := fun r hr => (hrows r hr).below H2.below
  have hrw10 := fun r hr => (hrn r hr).below H2.below
  obtain rfl := Mt.dec_uniq hds mdec
  refine Gx.val rfl rfl rfl (val_move rfl rfl) ?_
  obtain ⟨sa11, sn12, sc13, rfl⟩ := hm0.isS
  obtain ⟨sa14, sn15, sc16, rfl⟩ := hm1.isS
  obtain ⟨sa17, sn18, sc19, rfl⟩ := hm2.isS
  obtain ⟨sa20, sn21, sc22, rfl⟩ := hm3.isS
  refine Gx.val rfl rfl rfl (val_extract rfl rfl rfl) ?_
  refine Gx.val rfl rfl rfl (val_extract rfl rfl rfl) ?_
  refine Gx.eff rfl rfl rfl (eff_alloc rfl Tryd.ty30 (vs := [.slice none 0 0, .slice none 0 0, .slice none 0 0, .slice none 0 0]) rfl) ?_
  rintro _ _ ⟨b23, rfl, rfl⟩
  refine Gx.eff0 rfl rfl (eff_store rfl Tryd.ty30 rfl rfl (us := [.slice sa11 sn12 sc13, .slice sa14 sn15 sc16, .slice sa17 sn18 sc19, .slice sa20 sn21 sc22]) rfl rfl rfl (k := 0) rfl (rfl) (vs' := [.slice sa11 sn12 sc13, .slice sa14 sn15 sc16, .slice sa17 sn18 sc19, .slice sa20 sn21 sc22]) (rfl) (l' := [Hp.rec_ b23 [.slice sa11 sn12 sc13, .slice sa14 sn15 sc16, .slice sa17 sn18 sc19, .slice sa20 sn21 sc22]]) rfl) ?_
  rintro _ _ rfl
  refine Gx.val rfl rfl rfl (val_assign rfl rfl) ?_
  refine Gx.done ?_
  refine Gx.thenN ?_
  refine Gx.seq ?_
  refine Gx.region ?_
  refine Gx.val rfl rfl rfl (val_move rfl rfl) ?_
  refine Gx.val rfl rfl rfl (val_move rfl rfl) ?_
  refine Gx.val rfl rfl rfl (val_move rfl rfl) ?_
  refine Gx.val rfl rfl rfl (val_move rfl rfl) ?_
  refine Gx.val rfl rfl rfl (val_move rfl rfl) ?_
  refine Gx.callB rfl rfl rfl (vs := [.int .i64 ((c.n : Nat) : Int), .int .i64 ((f : Nat) : Int), .int .u32 ((c.L : Nat) : Int), sv, mv, .slice none 0 0]) rfl Tryd.fn5 rfl (R := fun v w' => ∃ (c0 c1 c2 c3 c4 c5 c6 : Value), v = .tuple #[.agg #[c0, c1, c2, c3, c4, c5, c6], .int .i64 0] ∧ SlS Mt.FZ 1 w' c0 (Mt.codesM c (Mt.ms0 c.n) cs) ∧ SlS Mt.FK 2 w' c1 (Mt.stM c (Mt.ms0 c.n) cs).bl ∧ SlS Mt.FB 1 w' c2 (Mt.certL c (Mt.stM c (Mt.ms0 c.n) cs)) ∧ SlS Mt.FB 1 w' c3 ds ∧ SlS Lg.FP 4 w' c4 ([] : List Lg.Py) ∧ SlS Lg.FZ 1 w' c5 (Lg.codesL (Lg.start0 money) ([] : List Lg.Py)) ∧ SlS Lg.FA 2 w' c6 (Lg.accsL (Lg.start0 money) ([] : List Lg.Py))) (fun w H => (by have q := book_yes (hg8.below H.below) (hs4.below H.below) h1n h7n hcl hf hfn hLn hL (hs5.below H.below) (hs7.below H.below) (fun r hr => (hrw10 r hr).below H.below) hzn hds (by rw [pays_nil]; exact Nat.zero_le _) (by rw [pays_nil]; exact hok); simp only [pays_nil] at q; exact q)) ?_
  rintro _ W24 ⟨zn0, zn1, zn2, zn3, zn4, zn5, zn6, rfl, hzn0, hzn1, hzn2, hzn3, hzn4, hzn5, hzn6⟩ H25
  have hW26 := hW3.trans (H25.below.mono hW3.size)
  have hs27 := hs4.below H25.below
  have hs28 := hs5.below H25.below
  have hs29 := hs6.below H25.below
  have hs30 := hs7.below H25.below
  have hs31 := hm0.below H25.below
  have hs32 := hm1.below H25.below
  have hs33 := hm2.below H25.below
  have hs34 := hm3.below H25.below
  have hb35 := (H25.at_ (k := 0) rfl).rec_.1
  have hc36 := (H25.at_ (k := 0) rfl).cell 0 (u := .slice sa11 sn12 sc13) rfl
  have hc37 := (H25.at_ (k := 0) rfl).cell 1 (u := .slice sa14 sn15 sc16) rfl
  have hc38 := (H25.at_ (k := 0) rfl).cell 2 (u := .slice sa17 sn18 sc19) rfl
  have hc39 := (H25.at_ (k := 0) rfl).cell 3 (u := .slice sa20 sn21 sc22) rfl
  have hg40 := hg8.below H25.below
  have hrw41 := fun r hr => (hrw9 r hr).below H25.below
  have hrw42 := fun r hr => (hrw10 r hr).below H25.below
  refine Gx.val rfl rfl rfl (val_move rfl rfl) ?_
  obtain ⟨sa43, sn44, sc45, rfl⟩ := hzn0.isS
  obtain ⟨sa46, sn47, sc48, rfl⟩ := hzn1.isS
  obtain ⟨sa49, sn50, sc51, rfl⟩ := hzn2.isS
  obtain ⟨sa52, sn53, sc54, rfl⟩ := hzn3.isS
  obtain ⟨sa55, sn56, sc57, rfl⟩ := hzn4.isS
  obtain ⟨sa58, sn59, sc60, rfl⟩ := hzn5.isS
  obtain ⟨sa61, sn62, sc63, rfl⟩ := hzn6.isS
  refine Gx.val rfl rfl rfl (val_extract rfl rfl rfl) ?_
  refine Gx.val rfl rfl rfl (val_extract rfl rfl rfl) ?_
  refine Gx.eff rfl rfl rfl (eff_alloc rfl Tryd.ty37 (vs := [.slice none 0 0, .slice none 0 0, .slice none 0 0, .slice none 0 0, .slice none 0 0, .slice none 0 0, .slice none 0 0]) rfl) ?_
  rintro _ _ ⟨b64, rfl, rfl⟩
  refine Gx.eff0 rfl rfl (eff_store rfl Tryd.ty37 rfl rfl (us := [.slice sa43 sn44 sc45, .slice sa46 sn47 sc48, .slice sa49 sn50 sc51, .slice sa52 sn53 sc54, .slice sa55 sn56 sc57, .slice sa58 sn59 sc60, .slice sa61 sn62 sc63]) rfl rfl rfl (k := 0) rfl (rfl) (vs' := [.slice sa43 sn44 sc45, .slice sa46 sn47 sc48, .slice sa49 sn50 sc51, .slice sa52 sn53 sc54, .slice sa55 sn56 sc57, .slice sa58 sn59 sc60, .slice sa61 sn62 sc63]) (rfl) (l' := [Hp.rec_ b64 [.slice sa43 sn44 sc45, .slice sa46 sn47 sc48, .slice sa49 sn50 sc51, .slice sa52 sn53 sc54, .slice sa55 sn56 sc57, .slice sa58 sn59 sc60, .slice sa61 sn62 sc63]]) rfl) ?_
  rintro _ _ rfl
  refine Gx.val rfl rfl rfl (val_assign rfl rfl) ?_
  refine Gx.done ?_
  refine Gx.thenN ?_
  refine Gx.seq ?_
  refine Gx.region ?_
  refine Gx.val rfl rfl rfl (val_move rfl rfl) ?_
  refine Gx.val rfl rfl rfl (val_move rfl rfl) ?_
  refine Gx.val rfl rfl rfl (val_move rfl rfl) ?_
  refine Gx.val rfl rfl rfl (val_move rfl rfl) ?_
  refine Gx.val rfl rfl rfl (val_move rfl rfl) ?_
  refine Gx.val rfl rfl rfl (val_move rfl rfl) ?_
  refine Gx.callB rfl rfl rfl (vs := [.int .i64 ((c.n : Nat) : Int), .int .i64 ((f : Nat) : Int), .int .u32 ((c.L : Nat) : Int), sv, mv, pv]) rfl Tryd.fn5 rfl (R := fun v w' => ∃ (c0 c1 c2 c3 c4 c5 c6 : Value) (z : Int), v = .tuple #[.agg #[c0, c1, c2, c3, c4, c5, c6], .int .i64 z] ∧ (IsS c0 ∧ IsS c1 ∧ IsS c2 ∧ IsS c3 ∧ IsS c4 ∧ IsS c5 ∧ IsS c6) ∧ (z = 7 ∨ z = 0 ∧ SlS Mt.FZ 1 w' c0 (Mt.codesM c (Mt.ms0 c.n) cs) ∧ SlS Mt.FK 2 w' c1 (Mt.stM c (Mt.ms0 c.n) cs).bl ∧ SlS Mt.FB 1 w' c2 (Mt.certL c (Mt.stM c (Mt.ms0 c.n) cs)) ∧ SlS Mt.FB 1 w' c3 ds ∧ SlS Lg.FP 4 w' c4 (paysB (Mt.stM c (Mt.ms0 c.n) cs).bl ds pays) ∧ SlS Lg.FZ 1 w' c5 (Lg.codesL (Lg.start0 money) (paysB (Mt.stM c (Mt.ms0 c.n) cs).bl ds pays)) ∧ SlS Lg.FA 2 w' c6 (Lg.accsL (Lg.start0 money) (paysB (Mt.stM c (Mt.ms0 c.n) cs).bl ds pays)))) (fun w H => book_two (hg40.below H.below) (hs27.below H.below) (hs28.below H.below) (hs29.below H.below) (fun r hr => (hrw41 r hr).below H.below) hsz h1n h7n hcl hf hfn hLn hL hds hok) ?_
  rintro _ W65 ⟨yn0, yn1, yn2, yn3, yn4, yn5, yn6, yz, rfl, ⟨iyn0, iyn1, iyn2, iyn3, iyn4, iyn5, iyn6⟩, hyz⟩ H66
  have hW67 := hW26.trans (H66.below.mono hW26.size)
  have hs68 := hs27.below H66.below
  have hs69 := hs28.below H66.below
  have hs70 := hs29.below H66.below
  have hs71 := hs30.below H66.below
  have hs72 := hs31.below H66.below
  have hs73 := hs32.below H66.below
  have hs74 := hs33.below H66.below
  have hs75 := hs34.below H66.below
  have hs76 := hzn0.below H66.below
  have hs77 := hzn1.below H66.below
  have hs78 := hzn2.below H66.below
  have hs79 := hzn3.below H66.below
  have hs80 := hzn4.below H66.below
  have hs81 := hzn5.below H66.below
  have hs82 := hzn6.below H66.below
  have hb83 := Nat.lt_of_lt_of_le hb35 H66.size
  have hc84 := (H66.below.cell (p := ⟨b23, 0, none⟩) hb35).trans hc36
  have hb85 := Nat.lt_of_lt_of_le hb35 H66.size
  have hc86 := (H66.below.cell (p := ⟨b23, 1, none⟩) hb35).trans hc37
  have hb87 := Nat.lt_of_lt_of_le hb35 H66.size
  have hc88 := (H66.below.cell (p := ⟨b23, 2, none⟩) hb35).trans hc38
  have hb89 := Nat.lt_of_lt_of_le hb35 H66.size
  have hc90 := (H66.below.cell (p := ⟨b23, 3, none⟩) hb35).trans hc39
  have hb91 := (H66.at_ (k := 0) rfl).rec_.1
  have hc92 := (H66.at_ (k := 0) rfl).cell 0 (u := .slice sa43 sn44 sc45) rfl
  have hc93 := (H66.at_ (k := 0) rfl).cell 1 (u := .slice sa46 sn47 sc48) rfl
  have hc94 := (H66.at_ (k := 0) rfl).cell 2 (u := .slice sa49 sn50 sc51) rfl
  have hc95 := (H66.at_ (k := 0) rfl).cell 3 (u := .slice sa52 sn53 sc54) rfl
  have hc96 := (H66.at_ (k := 0) rfl).cell 4 (u := .slice sa55 sn56 sc57) rfl
  have hc97 := (H66.at_ (k := 0) rfl).cell 5 (u := .slice sa58 sn59 sc60) rfl
  have hc98 := (H66.at_ (k := 0) rfl).cell 6 (u := .slice sa61 sn62 sc63) rfl
  have hg99 := hg40.below H66.below
  have hrw100 := fun r hr => (hrw41 r hr).below H66.below
  have hrw101 := fun r hr => (hrw42 r hr).below H66.below
  refine Gx.val rfl rfl rfl (val_move rfl rfl) ?_
  obtain ⟨sa102, sn103, sc104, rfl⟩ := iyn0
  obtain ⟨sa105, sn106, sc107, rfl⟩ := iyn1
  obtain ⟨sa108, sn109, sc110, rfl⟩ := iyn2
  obtain ⟨sa111, sn112, sc113, rfl⟩ := iyn3
  obtain ⟨sa114, sn115, sc116, rfl⟩ := iyn4
  obtain ⟨sa117, sn118, sc119, rfl⟩ := iyn5
  obtain ⟨sa120, sn121, sc122, rfl⟩ := iyn6
  refine Gx.val rfl rfl rfl (val_extract rfl rfl rfl) ?_
  refine Gx.val rfl rfl rfl (val_extract rfl rfl rfl) ?_
  refine Gx.eff rfl rfl rfl (eff_alloc rfl Tryd.ty37 (vs := [.slice none 0 0, .slice none 0 0, .slice none 0 0, .slice none 0 0, .slice none 0 0, .slice none 0 0, .slice none 0 0]) rfl) ?_
  rintro _ _ ⟨b123, rfl, rfl⟩
  refine Gx.eff0 rfl rfl (eff_store rfl Tryd.ty37 rfl rfl (us := [.slice sa102 sn103 sc104, .slice sa105 sn106 sc107, .slice sa108 sn109 sc110, .slice sa111 sn112 sc113, .slice sa114 sn115 sc116, .slice sa117 sn118 sc119, .slice sa120 sn121 sc122]) rfl rfl rfl (k := 0) rfl (rfl) (vs' := [.slice sa102 sn103 sc104, .slice sa105 sn106 sc107, .slice sa108 sn109 sc110, .slice sa111 sn112 sc113, .slice sa114 sn115 sc116, .slice sa117 sn118 sc119, .slice sa120 sn121 sc122]) (rfl) (l' := [Hp.rec_ b123 [.slice sa102 sn103 sc104, .slice sa105 sn106 sc107, .slice sa108 sn109 sc110, .slice sa111 sn112 sc113, .slice sa114 sn115 sc116, .slice sa117 sn118 sc119, .slice sa120 sn121 sc122]]) rfl) ?_
  rintro _ _ rfl
  refine Gx.val rfl rfl rfl (val_assign rfl rfl) ?_
  refine Gx.done ?_
  refine Gx.thenN ?_
  refine Gx.seq ?_
  refine Gx.seq ?_
  refine Gx.region ?_
  refine Gx.val rfl rfl rfl (val_move rfl rfl) ?_
  refine Gx.val rfl rfl rfl (Val.cast (val_neq rfl rfl rfl) (v' := .bool false) rfl) ?_
  refine Gx.done ?_
  refine Gx.thenN ?_
  refine Gx.f rfl ?_
  refine Gx.skip ?_
  refine Gx.thenN ?_
  refine Gx.seq ?_
  refine Gx.seq ?_
  refine Gx.region ?_
  refine Gx.val rfl rfl rfl (val_move rfl rfl) ?_
  refine Gx.val rfl rfl rfl (Val.cast (val_neq rfl rfl rfl) (v' := .bool false) rfl) ?_
  refine Gx.done ?_
  refine Gx.thenN ?_
  refine Gx.f rfl ?_
  refine Gx.skip ?_
  refine Gx.thenN ?_
  refine Gx.seq ?_
  refine Gx.seq ?_
  refine Gx.region ?_
  refine Gx.val rfl rfl rfl (Val.cast (val_fieldAddr rfl Tryd.underlying37 rfl Tryd.ty30 rfl rfl) (v' := ptr b64 0) rfl) ?_
  refine Gx.val rfl rfl rfl (Val.cast (val_loadA rfl Tryd.ty30 rfl rfl (us := [.slice sa43 sn44 sc45, .slice sa46 sn47 sc48, .slice sa49 sn50 sc51, .slice sa52 sn53 sc54]) rfl (cells_cons (cell_old hb91 hc92) (cells_cons (cell_old hb91 hc93) (cells_cons (cell_old hb91 hc94) (cells_cons (cell_old hb91 hc95) cells_nil))))) (v' := .agg #[.slice sa43 sn44 sc45, .slice sa46 sn47 sc48, .slice sa49 sn50 sc51, .slice sa52 sn53 sc54]) rfl) ?_
  refine Gx.val rfl rfl rfl (Val.cast (val_loadA rfl Tryd.ty30 rfl rfl (us := [.slice sa11 sn12 sc13, .slice sa14 sn15 sc16, .slice sa17 sn18 sc19, .slice sa20 sn21 sc22]) rfl (cells_cons (cell_old hb83 hc84) (cells_cons (cell_old hb85 hc86) (cells_cons (cell_old hb87 hc88) (cells_cons (cell_old hb89 hc90) cells_nil))))) (v' := .agg #[.slice sa11 sn12 sc13, .slice sa14 sn15 sc16, .slice sa17 sn18 sc19, .slice sa20 sn21 sc22]) rfl) ?_
  refine Gx.val rfl rfl rfl (val_call (vs := [.agg #[.slice sa43 sn44 sc45, .slice sa46 sn47 sc48, .slice sa49 sn50 sc51, .slice sa52 sn53 sc54], .agg #[.slice sa11 sn12 sc13, .slice sa14 sn15 sc16, .slice sa17 sn18 sc19, .slice sa20 sn21 sc22]]) rfl Tryd.fn7 rfl (fun w H => meet_yes (hs76.below H.below) (hs77.below H.below) (hs78.below H.below) (hs79.below H.below) (hs72.below H.below) (hs73.below H.below) (hs74.below H.below) (hs75.below H.below))) ?_
  refine Gx.val rfl rfl rfl (Val.cast (val_not rfl rfl) (v' := .bool false) rfl) ?_
  refine Gx.val rfl rfl rfl (val_move rfl rfl) ?_
  refine Gx.valg rfl rfl rfl rfl rfl (Val.cast (val_fieldAddr rfl Tryd.underlying37 rfl Tryd.ty34 rfl rfl) (v' := ptr b64 4) rfl) ?_
  refine Gx.valg rfl rfl rfl rfl rfl (val_load rfl Tryd.ty34 rfl rfl (cell_old hb91 hc96)) ?_
  refine Gx.valg rfl rfl rfl rfl rfl (val_len rfl Tryd.underlying34 rfl (len_base hs80)) ?_
  refine Gx.valg rfl rfl rfl rfl rfl (val_neq rfl rfl rfl) ?_
  refine Gx.val rfl rfl rfl (val_pickF rfl rfl rfl) ?_
  refine Gx.val rfl rfl rfl (val_move rfl rfl) ?_
  refine Gx.slot (t := 73) (v := .bool false) (look_decF rfl (by first | rfl | omega | (simp; done) | (simp [Lg.codesL]; done))) ?_
  refine Gx.valg rfl rfl rfl rfl rfl (Val.cast (val_fieldAddr rfl Tryd.underlying37 rfl Tryd.ty26 rfl rfl) (v' := ptr b64 5) rfl) ?_
  refine Gx.valg rfl rfl rfl rfl rfl (val_load rfl Tryd.ty26 rfl rfl (cell_old hb91 hc97)) ?_
  refine Gx.valg rfl rfl rfl rfl rfl (val_len rfl Tryd.underlying26 rfl (len_base hs81)) ?_
  refine Gx.valg rfl rfl rfl rfl rfl (val_neq rfl rfl rfl) ?_
  refine Gx.val rfl rfl rfl (val_pickF rfl rfl rfl) ?_
  refine Gx.val rfl rfl rfl (val_move rfl rfl) ?_
  refine Gx.slot (t := 79) (v := .bool false) (look_decF rfl (by first | rfl | omega | (simp; done) | (simp [Lg.codesL]; done))) ?_
  refine Gx.valg rfl rfl rfl rfl rfl (Val.cast (val_fieldAddr rfl Tryd.underlying37 rfl Tryd.ty35 rfl rfl) (v' := ptr b64 6) rfl) ?_
  refine Gx.valg rfl rfl rfl rfl rfl (val_load rfl Tryd.ty35 rfl rfl (cell_old hb91 hc98)) ?_
  refine Gx.valg rfl rfl rfl rfl rfl (val_len rfl Tryd.underlying35 rfl (len_base hs82)) ?_
  refine Gx.valg rfl rfl rfl rfl rfl (val_move rfl rfl) ?_
  refine Gx.valg rfl rfl rfl rfl rfl (val_len rfl Tryd.underlying24 rfl (len_base hs69)) ?_
  refine Gx.valg rfl rfl rfl rfl rfl (val_neq rfl rfl rfl) ?_
  refine Gx.val rfl rfl rfl (val_pickF rfl rfl rfl) ?_
  refine Gx.val rfl rfl rfl (val_move rfl rfl) ?_
  refine Gx.slot (t := 87) (v := .bool false) (look_decF rfl (by first | rfl | omega | (simp; done) | (simp [Lg.codesL]; done))) ?_
  refine Gx.valg rfl rfl rfl rfl rfl (val_move rfl rfl) ?_
  refine Gx.valg rfl rfl rfl rfl rfl (val_eql rfl rfl rfl) ?_
  refine Gx.valg rfl rfl rfl rfl rfl (val_move rfl rfl) ?_
  refine Gx.cases (t := 90) rfl (fun h124 => ?_) (fun h124 => ?_)
  · refine Gx.valg rfl rfl rfl rfl rfl (Val.cast (val_fieldAddr rfl Tryd.underlying37 rfl Tryd.ty30 rfl rfl) (v' := ptr b123 0) rfl) ?_
    refine Gx.valg rfl rfl rfl rfl rfl (Val.cast (val_loadA rfl Tryd.ty30 rfl rfl (us := [.slice sa102 sn103 sc104, .slice sa105 sn106 sc107, .slice sa108 sn109 sc110, .slice sa111 sn112 sc113]) rfl (cells_rec_at (k := 0) (i := 0) (n := 4) rfl rfl)) (v' := .agg #[.slice sa102 sn103 sc104, .slice sa105 sn106 sc107, .slice sa108 sn109 sc110, .slice sa111 sn112 sc113]) rfl) ?_
    refine Gx.valg rfl rfl rfl rfl rfl (Val.cast (val_loadA rfl Tryd.ty30 rfl rfl (us := [.slice sa11 sn12 sc13, .slice sa14 sn15 sc16, .slice sa17 sn18 sc19, .slice sa20 sn21 sc22]) rfl (cells_cons (cell_old hb83 hc84) (cells_cons (cell_old hb85 hc86) (cells_cons (cell_old hb87 hc88) (cells_cons (cell_old hb89 hc90) cells_nil))))) (v' := .agg #[.slice sa11 sn12 sc13, .slice sa14 sn15 sc16, .slice sa17 sn18 sc19, .slice sa20 sn21 sc22]) rfl) ?_
    refine Gx.valg rfl rfl rfl rfl rfl (val_call (vs := [.agg #[.slice sa102 sn103 sc104, .slice sa105 sn106 sc107, .slice sa108 sn109 sc110, .slice sa111 sn112 sc113], .agg #[.slice sa11 sn12 sc13, .slice sa14 sn15 sc16, .slice sa17 sn18 sc19, .slice sa20 sn21 sc22]]) rfl Tryd.fn7 rfl (fun w H => meet_yes ((hyz.resolve_left (by omega)).2.1.below H.below) ((hyz.resolve_left (by omega)).2.2.1.below H.below) ((hyz.resolve_left (by omega)).2.2.2.1.below H.below) ((hyz.resolve_left (by omega)).2.2.2.2.1.below H.below) (hs72.below H.below) (hs73.below H.below) (hs74.below H.below) (hs75.below H.below))) ?_
    refine Gx.valg rfl rfl rfl rfl rfl (Val.cast (val_not rfl rfl) (v' := .bool false) rfl) ?_
    refine Gx.valg rfl rfl rfl rfl rfl (val_pickT rfl rfl rfl) ?_
    refine Gx.val rfl rfl rfl (val_pickF rfl rfl rfl) ?_
    refine Gx.done ?_
    refine Gx.thenN ?_
    refine Gx.f rfl ?_
    refine Gx.skip ?_
    refine Gx.thenN ?_
    refine Gx.seq ?_
    refine Gx.seq ?_
    refine Gx.region ?_
    refine Gx.val rfl rfl rfl (val_assign rfl rfl) ?_
    refine Gx.done ?_
    refine Gx.thenN ?_
    refine Gx.block ?_
    refine Gx.loop (ι := Nat) (fun ξ => (ξ ≤ money.length)) (fun ξ => [(4, mv), (12, .bool false), (13, ptr b23 0), (15, ptr b64 0), (17, ptr b123 0), (19, .int .i64 ((ξ : Nat) : Int))]) (fun ξ => [Hp.rec_ b123 [.slice sa102 sn103 sc104, .slice sa105 sn106 sc107, .slice sa108 sn109 sc110, .slice sa111 sn112 sc113, .slice sa114 sn115 sc116, .slice sa117 sn118 sc119, .slice sa120 sn121 sc122]]) (fun ξ => money.length - ξ) 0 (by first | omega | (dsimp only; omega)) ((.cons rfl (.cons rfl (.cons rfl (.cons rfl (.cons rfl (.cons rfl .nil))))))) rfl ?_
    rintro i hi
    refine Gx.know (m' := [(4, mv), (12, .bool false), (13, ptr b23 0), (15, ptr b64 0), (17, ptr b123 0), (19, .int .i64 ((i : Nat) : Int))]) (.cons rfl (.cons rfl (.cons rfl (.cons rfl (.cons rfl (.cons rfl .nil)))))) (Gx.norm (l' := [Hp.rec_ b123 [.slice sa102 sn103 sc104, .slice sa105 sn106 sc107, .slice sa108 sn109 sc110, .slice sa111 sn112 sc113, .slice sa114 sn115 sc116, .slice sa117 sn118 sc119, .slice sa120 sn121 sc122]]) rfl ?_)
    refine Gx.seq ?_
    refine Gx.seq ?_
    refine Gx.region ?_
    refine Gx.val rfl rfl rfl (val_move rfl rfl) ?_
    refine Gx.val rfl rfl rfl (val_move rfl rfl) ?_
    refine Gx.val rfl rfl rfl (val_len rfl Tryd.underlying24 rfl (len_base hs69)) ?_
    refine Gx.val rfl rfl rfl (val_lss rfl rfl rfl) ?_
    refine Gx.done ?_
    refine Gx.thenN ?_
    refine Gx.dec rfl (fun h125 => ?_) (fun h125 => ?_)
    · refine Gx.skip ?_
      refine Gx.thenN ?_
      refine Gx.seq ?_
      refine Gx.block ?_
      refine Gx.seq ?_
      obtain ⟨x, hx⟩ := get_of_lt (xs := money) (k := i) (by omega)
      have hxa : (Lg.accsL (Lg.start0 money) [])[i]? = some ⟨x, 0⟩ := by show (Lg.start0 money)[i]? = _; unfold Lg.start0; rw [List.getElem?_map, hx]; rfl
      refine Gx.regionQ Tryd.mixed (by kernel_rfl) ?_
      refine Gq.val rfl rfl rfl (Val.cast (val_fieldAddr rfl Tryd.underlying37 rfl Tryd.ty35 rfl rfl) (v' := ptr b64 6) rfl) ?_
      refine Gq.val rfl rfl rfl (val_load rfl Tryd.ty35 rfl rfl (cell_old hb91 hc98)) ?_
      refine Gq.val rfl rfl rfl (val_move rfl rfl) ?_
      refine Gq.val rfl rfl rfl (val_ixa rfl Tryd.underlying35 Tryd.ty43 rfl rfl (j := i) (rfl) (reach_base hs82 hxa)) ?_
      refine Gq.val rfl rfl rfl (Val.cast (val_fieldAddr rfl Tryd.underlying43 rfl Tryd.ty2 rfl rfl) (v' := ptr (sB (.slice sa61 sn62 sc63)) (sO (.slice sa61 sn62 sc63) + i * 2)) rfl) ?_
      refine Gq.val rfl rfl rfl (val_load rfl Tryd.ty2 rfl rfl (cell_base (i := 0) hs82 hxa rfl)) ?_
      refine Gq.val rfl rfl rfl (val_move rfl rfl) ?_
      refine Gq.val rfl rfl rfl (val_move rfl rfl) ?_
      refine Gq.val rfl rfl rfl (val_ixa rfl Tryd.underlying24 Tryd.ty2 rfl rfl (j := i) (rfl) (reach_base hs69 hx)) ?_
      refine Gq.val rfl rfl rfl (val_load rfl Tryd.ty2 rfl rfl (cell_base (i := 0) hs69 hx rfl)) ?_
      refine Gq.val rfl rfl rfl (val_neq rfl rfl rfl) ?_
      refine Gq.val rfl rfl rfl (val_move rfl rfl) ?_
      refine Gq.slot (t := 115) (v := .bool false) (look_decF rfl (by first | rfl | omega | (simp; done) | (simp [Lg.codesL]; done))) ?_
      refine Gq.valg rfl rfl rfl rfl rfl (Val.cast (val_fieldAddr rfl Tryd.underlying37 rfl Tryd.ty35 rfl rfl) (v' := ptr b64 6) rfl) ?_
      refine Gq.valg rfl rfl rfl rfl rfl (val_load rfl Tryd.ty35 rfl rfl (cell_old hb91 hc98)) ?_
      refine Gq.valg rfl rfl rfl rfl rfl (val_move rfl rfl) ?_
      refine Gq.valg rfl rfl rfl rfl rfl (val_ixa rfl Tryd.underlying35 Tryd.ty43 rfl rfl (j := i) (rfl) (reach_base hs82 hxa)) ?_
      refine Gq.valg rfl rfl rfl rfl rfl (Val.cast (val_fieldAddr rfl Tryd.underlying43 rfl Tryd.ty3 rfl rfl) (v' := ptr (sB (.slice sa61 sn62 sc63)) (sO (.slice sa61 sn62 sc63) + i * 2 + 1)) rfl) ?_
      refine Gq.valg rfl rfl rfl rfl rfl (val_load rfl Tryd.ty3 rfl rfl (cell_base (i := 1) hs82 hxa rfl)) ?_
      refine Gq.valg rfl rfl rfl rfl rfl (val_neq rfl rfl rfl) ?_
      refine Gq.val rfl rfl rfl (val_pickF rfl rfl rfl) ?_
      refine Gq.done ?_
      refine Gx.thenN ?_
      refine Gx.decF rfl (by simp) ?_
      refine Gx.skip ?_
      refine Gx.blkN ?_
      refine Gx.thenN ?_
      refine Gx.region ?_
      refine Gx.val rfl rfl rfl (val_move rfl rfl) ?_
      refine Gx.val rfl rfl rfl (val_add rfl rfl rfl (r := ((i + 1 : Nat) : Int)) (w64 (by omega) (by omega))) ?_
      refine Gx.val rfl rfl rfl (val_assign rfl rfl) ?_
      refine Gx.done ?_
      refine Gx.thenN ?_
      exact Gx.round (i + 1) (by first | omega | (dsimp only; omega)) (by first | omega | (dsimp only; omega)) ((.cons rfl (.cons rfl (.cons rfl (.cons rfl (.cons rfl (.cons rfl .nil))))))) rfl
    · refine Gx.exit ?_
      refine Gx.thenE ?_
      refine Gx.thenE ?_
      refine Gx.blkE ?_
      refine Gx.thenN ?_
      refine Gx.seq ?_
      refine Gx.region ?_
      refine Gx.val rfl rfl rfl (val_assign rfl rfl) ?_
      refine Gx.done ?_
      refine Gx.thenN ?_
      refine Gx.ret ?_
      refine Gx.ret1B hW67 Tryd.results3 rfl ?_
      rfl
  · refine Gx.skipg rfl rfl rfl rfl rfl rfl ?_
    refine Gx.skipg rfl rfl rfl rfl rfl rfl ?_
    refine Gx.skipg rfl rfl rfl rfl rfl rfl ?_
    refine Gx.skipg rfl rfl rfl rfl rfl rfl ?_
    refine Gx.skipg rfl rfl rfl rfl rfl rfl ?_
    refine Gx.valg rfl rfl rfl rfl rfl (val_pickF rfl rfl rfl) ?_
    refine Gx.val rfl rfl rfl (val_pickF rfl rfl rfl) ?_
    refine Gx.done ?_
    refine Gx.thenN ?_
    refine Gx.f rfl ?_
    refine Gx.skip ?_
    refine Gx.thenN ?_
    refine Gx.seq ?_
    refine Gx.seq ?_
    refine Gx.region ?_
    refine Gx.val rfl rfl rfl (val_assign rfl rfl) ?_
    refine Gx.done ?_
    refine Gx.thenN ?_
    refine Gx.block ?_
    refine Gx.loop (ι := Nat) (fun ξ => (ξ ≤ money.length)) (fun ξ => [(4, mv), (12, .bool false), (13, ptr b23 0), (15, ptr b64 0), (17, ptr b123 0), (19, .int .i64 ((ξ : Nat) : Int))]) (fun ξ => [Hp.rec_ b123 [.slice sa102 sn103 sc104, .slice sa105 sn106 sc107, .slice sa108 sn109 sc110, .slice sa111 sn112 sc113, .slice sa114 sn115 sc116, .slice sa117 sn118 sc119, .slice sa120 sn121 sc122]]) (fun ξ => money.length - ξ) 0 (by first | omega | (dsimp only; omega)) ((.cons rfl (.cons rfl (.cons rfl (.cons rfl (.cons rfl (.cons rfl .nil))))))) rfl ?_
    rintro i hi
    refine Gx.know (m' := [(4, mv), (12, .bool false), (13, ptr b23 0), (15, ptr b64 0), (17, ptr b123 0), (19, .int .i64 ((i : Nat) : Int))]) (.cons rfl (.cons rfl (.cons rfl (.cons rfl (.cons rfl (.cons rfl .nil)))))) (Gx.norm (l' := [Hp.rec_ b123 [.slice sa102 sn103 sc104, .slice sa105 sn106 sc107, .slice sa108 sn109 sc110, .slice sa111 sn112 sc113, .slice sa114 sn115 sc116, .slice sa117 sn118 sc119, .slice sa120 sn121 sc122]]) rfl ?_)
    refine Gx.seq ?_
    refine Gx.seq ?_
    refine Gx.region ?_
    refine Gx.val rfl rfl rfl (val_move rfl rfl) ?_
    refine Gx.val rfl rfl rfl (val_move rfl rfl) ?_
    refine Gx.val rfl rfl rfl (val_len rfl Tryd.underlying24 rfl (len_base hs69)) ?_
    refine Gx.val rfl rfl rfl (val_lss rfl rfl rfl) ?_
    refine Gx.done ?_
    refine Gx.thenN ?_
    refine Gx.dec rfl (fun h126 => ?_) (fun h126 => ?_)
    · refine Gx.skip ?_
      refine Gx.thenN ?_
      refine Gx.seq ?_
      refine Gx.block ?_
      refine Gx.seq ?_
      obtain ⟨x, hx⟩ := get_of_lt (xs := money) (k := i) (by omega)
      have hxa : (Lg.accsL (Lg.start0 money) [])[i]? = some ⟨x, 0⟩ := by show (Lg.start0 money)[i]? = _; unfold Lg.start0; rw [List.getElem?_map, hx]; rfl
      refine Gx.regionQ Tryd.mixed (by kernel_rfl) ?_
      refine Gq.val rfl rfl rfl (Val.cast (val_fieldAddr rfl Tryd.underlying37 rfl Tryd.ty35 rfl rfl) (v' := ptr b64 6) rfl) ?_
      refine Gq.val rfl rfl rfl (val_load rfl Tryd.ty35 rfl rfl (cell_old hb91 hc98)) ?_
      refine Gq.val rfl rfl rfl (val_move rfl rfl) ?_
      refine Gq.val rfl rfl rfl (val_ixa rfl Tryd.underlying35 Tryd.ty43 rfl rfl (j := i) (rfl) (reach_base hs82 hxa)) ?_
      refine Gq.val rfl rfl rfl (Val.cast (val_fieldAddr rfl Tryd.underlying43 rfl Tryd.ty2 rfl rfl) (v' := ptr (sB (.slice sa61 sn62 sc63)) (sO (.slice sa61 sn62 sc63) + i * 2)) rfl) ?_
      refine Gq.val rfl rfl rfl (val_load rfl Tryd.ty2 rfl rfl (cell_base (i := 0) hs82 hxa rfl)) ?_
      refine Gq.val rfl rfl rfl (val_move rfl rfl) ?_
      refine Gq.val rfl rfl rfl (val_move rfl rfl) ?_
      refine Gq.val rfl rfl rfl (val_ixa rfl Tryd.underlying24 Tryd.ty2 rfl rfl (j := i) (rfl) (reach_base hs69 hx)) ?_
      refine Gq.val rfl rfl rfl (val_load rfl Tryd.ty2 rfl rfl (cell_base (i := 0) hs69 hx rfl)) ?_
      refine Gq.val rfl rfl rfl (val_neq rfl rfl rfl) ?_
      refine Gq.val rfl rfl rfl (val_move rfl rfl) ?_
      refine Gq.slot (t := 115) (v := .bool false) (look_decF rfl (by first | rfl | omega | (simp; done) | (simp [Lg.codesL]; done))) ?_
      refine Gq.valg rfl rfl rfl rfl rfl (Val.cast (val_fieldAddr rfl Tryd.underlying37 rfl Tryd.ty35 rfl rfl) (v' := ptr b64 6) rfl) ?_
      refine Gq.valg rfl rfl rfl rfl rfl (val_load rfl Tryd.ty35 rfl rfl (cell_old hb91 hc98)) ?_
      refine Gq.valg rfl rfl rfl rfl rfl (val_move rfl rfl) ?_
      refine Gq.valg rfl rfl rfl rfl rfl (val_ixa rfl Tryd.underlying35 Tryd.ty43 rfl rfl (j := i) (rfl) (reach_base hs82 hxa)) ?_
      refine Gq.valg rfl rfl rfl rfl rfl (Val.cast (val_fieldAddr rfl Tryd.underlying43 rfl Tryd.ty3 rfl rfl) (v' := ptr (sB (.slice sa61 sn62 sc63)) (sO (.slice sa61 sn62 sc63) + i * 2 + 1)) rfl) ?_
      refine Gq.valg rfl rfl rfl rfl rfl (val_load rfl Tryd.ty3 rfl rfl (cell_base (i := 1) hs82 hxa rfl)) ?_
      refine Gq.valg rfl rfl rfl rfl rfl (val_neq rfl rfl rfl) ?_
      refine Gq.val rfl rfl rfl (val_pickF rfl rfl rfl) ?_
      refine Gq.done ?_
      refine Gx.thenN ?_
      refine Gx.decF rfl (by simp) ?_
      refine Gx.skip ?_
      refine Gx.blkN ?_
      refine Gx.thenN ?_
      refine Gx.region ?_
      refine Gx.val rfl rfl rfl (val_move rfl rfl) ?_
      refine Gx.val rfl rfl rfl (val_add rfl rfl rfl (r := ((i + 1 : Nat) : Int)) (w64 (by omega) (by omega))) ?_
      refine Gx.val rfl rfl rfl (val_assign rfl rfl) ?_
      refine Gx.done ?_
      refine Gx.thenN ?_
      exact Gx.round (i + 1) (by first | omega | (dsimp only; omega)) (by first | omega | (dsimp only; omega)) ((.cons rfl (.cons rfl (.cons rfl (.cons rfl (.cons rfl (.cons rfl .nil))))))) rfl
    · refine Gx.exit ?_
      refine Gx.thenE ?_
      refine Gx.thenE ?_
      refine Gx.blkE ?_
      refine Gx.thenN ?_
      refine Gx.seq ?_
      refine Gx.region ?_
      refine Gx.val rfl rfl rfl (val_assign rfl rfl) ?_
      refine Gx.done ?_
      refine Gx.thenN ?_
      refine Gx.ret ?_
      refine Gx.ret1B hW67 Tryd.results3 rfl ?_
      rfl

theorem meets_any {W : World} {k f z : Int} {sv mv pv : Value} {cs : List Mt.Sy} {money : List Int} {pays : List Row} (hz0 : 0 ≤ z) (hz1 : z < 4294967296) (hg : Lg.HG W) (hs : SlS Mt.FM 5 W sv cs) (hm : SlS Lg.FM 1 W mv money) (hp : SlS FW 1 W pv pays) (hrows : ∀ r ∈ pays, SlS Lg.FP 4 W (.slice r.a r.xs.length r.c) r.xs) (hsz : ∀ r ∈ pays, r.xs.length ≤ 1048576) :
    Calls Tryd.prog 3 #[.int .i64 k, .int .i64 f, .int .u32 z, sv, mv, pv] W fun e w' => e = .returned (.bool true) ∧ Below W.heap.size W w' := by
  obtain ⟨L, rfl⟩ : ∃ L : Nat, z = (L : Int) := ⟨z.toNat, by omega⟩
  have hL : L < 4294967296 := by omega
  by_cases h : Mt.Valid k f L cs
  · obtain ⟨h1, h2, h3, h4, h5, h6⟩ := h
    obtain ⟨n, rfl⟩ : ∃ n : Nat, k = (n : Int) := ⟨k.toNat, by omega⟩
    obtain ⟨f', rfl⟩ : ∃ f' : Nat, f = (f' : Int) := ⟨f.toNat, by omega⟩
    rw [Int.toNat_natCast] at h5 h6
    have ok : Mt.OkM ⟨n, n - f', L⟩ := ⟨by dsimp only; omega, by dsimp only; omega, hL⟩
    obtain ⟨ds, hds⟩ := Mt.dec_here (Mt.BdM.at_ ok cs)
    by_cases hok : Lg.OkL money 0
    · exact meets_yes (c := ⟨n, n - f', L⟩) hg hs hm hp hrows hsz (by dsimp only; omega) (by dsimp only; omega) h3 (by dsimp only; omega) (by dsimp only; omega) h6 hL hds hok
    · exact meets_none (c := ⟨n, n - f', L⟩) hg hs hm hp hrows hsz (by dsimp only; omega) (by dsimp only; omega) h3 (by dsimp only; omega) (by dsimp only; omega) h6 hL hds hok
  · exact meets_bad hg hs hm hp hrows hsz hL h
end Go.Proofs.YtfeeociajllbhaaDoor
