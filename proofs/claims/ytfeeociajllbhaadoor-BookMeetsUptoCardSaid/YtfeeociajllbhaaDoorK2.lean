/- The book: an assembly, and what it pays. The walk. No condition. -/
import Derived.Test.YtfeeociajllbhaaDoorK1
import Derived.Test.YtfeeociajllbhaaDoorMV1
import Derived.Test.YtfeeociajllbhaaDoorCA6
namespace Go.Proofs.YtfeeociajllbhaaDoor
open Go.RowKit
set_option linter.unusedVariables false
set_option linter.unusedSimpArgs false
set_option maxRecDepth 100000

/-- a block's pays -/
structure Row where
  a : Option Addr
  xs : List Lg.Py
  c : Nat
abbrev FW (e : Row) : List Value := [.slice e.a e.xs.length e.c]
theorem FW_len (e : Row) : (FW e).length = 1 := rfl
theorem FW_one (e : Row) (u : Value) (h : u ∈ FW e) : u.oneCell' = true := by simp [FW] at h; subst h; rfl
theorem Tryd.eW : Elem Tryd.prog 25 34 (.slice none 0 0) 1 24 := ⟨Tryd.underlying25, by kernel_rfl, rfl, by decide⟩
def paysAt (pays : List Row) (k : Nat) : List Lg.Py := ((pays[k]?).map Row.xs).getD []
def paidL (pays : List Row) (p : List Int) : List Lg.Py := p.flatMap fun k => paysAt pays k.toNat
/-- all that is paid -/
def paysB (bl : List Mt.Bk) (ds : List Bool) (pays : List Row) : List Lg.Py := match lastB bl ds ds.length with
  | none => []
  | some b => paidL pays (Chn.pathL (Mt.blsP bl) b)
theorem paid_snoc {pays : List Row} {p : List Int} {q : Nat} {x : Int} (h : p[q]? = some x) : paidL pays (p.take (q + 1)) = paidL pays (p.take q) ++ paysAt pays x.toNat := by
  unfold paidL
  rw [Mt.take_snoc' h, List.flatMap_append]
  simp
theorem paysAt_in {pays : List Row} {k : Nat} {r : Row} (h : pays[k]? = some r) : paysAt pays k = r.xs := by unfold paysAt; rw [h]; rfl
theorem paysAt_out {pays : List Row} {k : Nat} (h : pays.length ≤ k) : paysAt pays k = [] := by unfold paysAt; rw [List.getElem?_eq_none h]; rfl
theorem paid_len {pays : List Row} {m : Nat} (h : ∀ r ∈ pays, r.xs.length ≤ m) : ∀ (p : List Int), (paidL pays p).length ≤ p.length * m
  | [] => by simp [paidL]
  | x :: p => by
    have h1 := paid_len h p
    have h2 : (paysAt pays x.toNat).length ≤ m := by
      unfold paysAt
      cases e : pays[x.toNat]? with
      | none => exact Nat.zero_le _
      | some r => exact h r (List.mem_of_getElem? e)
    have e : paidL pays (x :: p) = paysAt pays x.toNat ++ paidL pays p := rfl
    rw [e, List.length_append, List.length_cons, Nat.add_mul]
    omega
theorem path_nat {l : List (Int × Int)} {b q : Nat} {x : Int} (h : (Chn.pathL l b)[q]? = some x) : ∃ k : Nat, x = (k : Int) := by
  have := List.mem_of_getElem? h
  unfold Chn.pathL Chn.nI at this
  rw [List.mem_reverse, List.mem_map] at this
  obtain ⟨k, _, rfl⟩ := this
  exact ⟨k, rfl⟩
theorem path_q {W : World} {v : Value} {l : List Mt.Bk} {b : Nat} (hok : Chn.OkC (Mt.blsP l)) (hb : b < l.length) (h : SlS Mt.FK 2 W v l) :
    Calls Tryd.prog 12 #[v, .int .i64 ((b : Nat) : Int)] W (Ret W fun u l' => ∃ q : Mt.Tq, u = .tuple #[.slice q.1 q.2.1 q.2.2, .int .i64 0] ∧ l' = [Hp.own Chn.SZ 1 (.slice q.1 q.2.1 q.2.2) (Chn.pathL (Mt.blsP l) b)]) := by
  refine (Chn.path_any ((b : Nat) : Int) (Mt.sls_toP h)).mono ?_
  rintro e w' ⟨⟨pv, c, rfl, hc, _, hp⟩, hb2⟩
  obtain rfl := hc.2 ⟨hok, by omega, by rw [List.length_map]; omega⟩
  have H := hp rfl
  rw [Int.toNat_natCast] at H
  obtain ⟨a, n, c, rfl⟩ := isS_own H
  exact ⟨_, _, rfl, ⟨(a, n, c), rfl, rfl⟩, H⟩
theorem book_bad {W : World} {k f : Int} {L : Nat} {sv mv pv : Value} {cs : List Mt.Sy} (hs : SlS Mt.FM 5 W sv cs) (hbad : ¬ Mt.Valid k f L cs) :
    Calls Tryd.prog 5 #[.int .i64 k, .int .i64 f, .int .u32 ((L : Nat) : Int), sv, mv, pv] W fun e w' => ∃ v, e = .returned v ∧ (∃ z : Int, z ≠ 0 ∧ v = .tuple #[.agg #[.slice none 0 0, .slice none 0 0, .slice none 0 0, .slice none 0 0, .slice none 0 0, .slice none 0 0, .slice none 0 0], .int .i64 z]) ∧ Below W.heap.size W w' := by
  refine calls_rel (R := fun v => ∃ z : Int, z ≠ 0 ∧ v = .tuple #[.agg #[.slice none 0 0, .slice none 0 0, .slice none 0 0, .slice none 0 0, .slice none 0 0, .slice none 0 0, .slice none 0 0], .int .i64 z]) (Gx.enter (l := []) Tryd.func5 rfl Tryd.ntmps5 rfl (Sat.start W) ?_)
  refine Gx.know (m' := [(0, .int .i64 k), (1, .int .i64 f), (2, .int .u32 ((L : Nat) : Int)), (3, sv), (4, mv), (5, pv)]) (.cons rfl (.cons rfl (.cons rfl (.cons rfl (.cons rfl (.cons rfl .nil)))))) ?_
  refine Gx.seq ?_
  refine Gx.region ?_
  refine Gx.eff rfl rfl rfl (eff_alloc rfl Tryd.ty37 (vs := [.slice none 0 0, .slice none 0 0, .slice none 0 0, .slice none 0 0, .slice none 0 0, .slice none 0 0, .slice none 0 0]) rfl) ?_
  rintro _ _ ⟨b1, rfl, rfl⟩
  refine Gx.val rfl rfl rfl (val_assign rfl rfl) ?_
  refine Gx.done ?_
  refine Gx.thenN ?_
  refine Gx.seq ?_
  refine Gx.region ?_
  refine Gx.val rfl rfl rfl (val_move rfl rfl) ?_
  refine Gx.val rfl rfl rfl (val_move rfl rfl) ?_
  refine Gx.val rfl rfl rfl (val_move rfl rfl) ?_
  refine Gx.val rfl rfl rfl (val_move rfl rfl) ?_
  refine Gx.eff rfl rfl rfl (eff_callE (vs := [.int .i64 k, .int .i64 f, .int .u32 ((L : Nat) : Int), sv]) rfl Tryd.fn4 rfl (R := fun v => ∃ z : Int, z ≠ 0 ∧ v = .tuple #[.agg #[.slice none 0 0, .slice none 0 0, .slice none 0 0, .slice none 0 0], .int .i64 z]) (fun w H => Mt.play_bad (hs.below H.below) hbad)) ?_
  rintro _ _ ⟨⟨zz, hzz, rfl⟩, rfl⟩
  refine Gx.val rfl rfl rfl (val_move rfl rfl) ?_
  refine Gx.val rfl rfl rfl (val_extract rfl rfl rfl) ?_
  refine Gx.val rfl rfl rfl (val_extract rfl rfl rfl) ?_
  refine Gx.eff rfl rfl rfl (eff_alloc rfl Tryd.ty30 (vs := [.slice none 0 0, .slice none 0 0, .slice none 0 0, .slice none 0 0]) rfl) ?_
  rintro _ _ ⟨b2, rfl, rfl⟩
  refine Gx.eff0 rfl rfl (eff_store rfl Tryd.ty30 rfl rfl (us := [.slice none 0 0, .slice none 0 0, .slice none 0 0, .slice none 0 0]) rfl rfl rfl (k := 0) rfl (rfl) (vs' := [.slice none 0 0, .slice none 0 0, .slice none 0 0, .slice none 0 0]) (rfl) (l' := [Hp.rec_ b2 [.slice none 0 0, .slice none 0 0, .slice none 0 0, .slice none 0 0], Hp.rec_ b1 [.slice none 0 0, .slice none 0 0, .slice none 0 0, .slice none 0 0, .slice none 0 0, .slice none 0 0, .slice none 0 0]]) rfl) ?_
  rintro _ _ rfl
  refine Gx.val rfl rfl rfl (val_assign rfl rfl) ?_
  refine Gx.done ?_
  refine Gx.thenN ?_
  refine Gx.seq ?_
  refine Gx.seq ?_
  refine Gx.region ?_
  refine Gx.val rfl rfl rfl (val_move rfl rfl) ?_
  refine Gx.val rfl rfl rfl (val_neq rfl rfl rfl) ?_
  refine Gx.done ?_
  refine Gx.thenN ?_
  refine Gx.decT rfl (by omega) ?_
  refine Gx.seq ?_
  refine Gx.region ?_
  refine Gx.val rfl rfl rfl (val_build rfl (qs := []) rfl rfl (fun w => by go_simp) (v := .agg #[.slice none 0 0, .slice none 0 0, .slice none 0 0, .slice none 0 0, .slice none 0 0, .slice none 0 0, .slice none 0 0])) ?_
  refine Gx.val rfl rfl rfl (val_move rfl rfl) ?_
  refine Gx.eff0 rfl rfl (eff_store rfl Tryd.ty37 rfl rfl (us := [.slice none 0 0, .slice none 0 0, .slice none 0 0, .slice none 0 0, .slice none 0 0, .slice none 0 0, .slice none 0 0]) rfl rfl rfl (k := 1) rfl (rfl) (vs' := [.slice none 0 0, .slice none 0 0, .slice none 0 0, .slice none 0 0, .slice none 0 0, .slice none 0 0, .slice none 0 0]) (rfl) (l' := [Hp.rec_ b2 [.slice none 0 0, .slice none 0 0, .slice none 0 0, .slice none 0 0], Hp.rec_ b1 [.slice none 0 0, .slice none 0 0, .slice none 0 0, .slice none 0 0, .slice none 0 0, .slice none 0 0, .slice none 0 0]]) rfl) ?_
  rintro _ _ rfl
  refine Gx.val rfl rfl rfl (val_assign rfl rfl) ?_
  refine Gx.done ?_
  refine Gx.thenN ?_
  refine Gx.ret ?_
  refine Gx.thenR ?_
  refine Gx.retC2d Tryd.results5 Tryd.ty37 rfl rfl (us := [.slice none 0 0, .slice none 0 0, .slice none 0 0, .slice none 0 0, .slice none 0 0, .slice none 0 0, .slice none 0 0]) rfl (k := 1) rfl rfl ?_
  exact ⟨_, by assumption, rfl⟩

set_option maxHeartbeats 1000000 in
theorem book_full {W : World} {c : Mt.MC} {f : Nat} {sv mv pv : Value} {cs : List Mt.Sy} {money : List Int} {pays : List Row} {ds : List Bool} (hg : Lg.HG W) (hs : SlS Mt.FM 5 W sv cs) (h1n : 1 ≤ c.n) (h7n : c.n ≤ 7) (hcl : cs.length ≤ 120) (hf : f ≤ (c.n - 1) / 3) (hfn : c.need + f = c.n) (hLn : c.L >>> c.n = 0) (hL : c.L < 4294967296) (hm : SlS Lg.FM 1 W mv money) (hp : SlS FW 1 W pv pays) (hrows : ∀ r ∈ pays, SlS Lg.FP 4 W (.slice r.a r.xs.length r.c) r.xs) (hsz : ∀ r ∈ pays, r.xs.length ≤ 1048576) (hds : Chn.IsDec (Mt.blsP (Mt.stM c (Mt.ms0 c.n) cs).bl) (Mt.certL c (Mt.stM c (Mt.ms0 c.n) cs)) (Mt.stM c (Mt.ms0 c.n) cs).bl.length ds) (hbig : 60 < (paysB (Mt.stM c (Mt.ms0 c.n) cs).bl ds pays).length) :
    Calls Tryd.prog 5 #[.int .i64 ((c.n : Nat) : Int), .int .i64 ((f : Nat) : Int), .int .u32 ((c.L : Nat) : Int), sv, mv, pv] W fun e w' => e = .returned (.tuple #[.agg #[.slice none 0 0, .slice none 0 0, .slice none 0 0, .slice none 0 0, .slice none 0 0, .slice none 0 0, .slice none 0 0], .int .i64 7]) ∧ Below W.heap.size W w' := by
  have ok : Mt.OkM c := ⟨h7n, by omega, hL⟩
  have bd := Mt.BdM.at_ ok cs
  have hb40 := bd.b40
  have hdl : ds.length = (Mt.stM c (Mt.ms0 c.n) cs).bl.length := by rw [hds.1, List.length_map]
  have hcdl : (Mt.codesM c (Mt.ms0 c.n) cs).length = cs.length := Mt.codesM_len ..
  have hp9 := sls_bd hp
  refine calls_pure (Gx.enter (l := []) Tryd.func5 rfl Tryd.ntmps5 rfl (Sat.start W) ?_)
  refine Gx.know (m' := [(0, .int .i64 ((c.n : Nat) : Int)), (1, .int .i64 ((f : Nat) : Int)), (2, .int .u32 ((c.L : Nat) : Int)), (3, sv), (4, mv), (5, pv)]) (.cons rfl (.cons rfl (.cons rfl (.cons rfl (.cons rfl (.cons rfl .nil)))))) ?_
  refine Gx.seq ?_
  refine Gx.region ?_
  refine Gx.eff rfl rfl rfl (eff_alloc rfl Tryd.ty37 (vs := [.slice none 0 0, .slice none 0 0, .slice none 0 0, .slice none 0 0, .slice none 0 0, .slice none 0 0, .slice none 0 0]) rfl) ?_
  rintro _ _ ⟨b1, rfl, rfl⟩
  refine Gx.val rfl rfl rfl (val_assign rfl rfl) ?_
  refine Gx.done ?_
  refine Gx.thenN ?_
  refine Gx.seq ?_
  refine Gx.region ?_
  refine Gx.val rfl rfl rfl (val_move rfl rfl) ?_
  refine Gx.val rfl rfl rfl (val_move rfl rfl) ?_
  refine Gx.val rfl rfl rfl (val_move rfl rfl) ?_
  refine Gx.val rfl rfl rfl (val_move rfl rfl) ?_
  refine Gx.eff rfl rfl rfl (eff_callN (vs := [.int .i64 ((c.n : Nat) : Int), .int .i64 ((f : Nat) : Int), .int .u32 ((c.L : Nat) : Int), sv]) rfl Tryd.fn4 rfl (fun w H => Mt.play_own (hs.below H.below) h1n h7n hcl hf hfn hLn hL)) ?_
  rintro _ _ ⟨_, ⟨a0, m0, c0, a1, m1, c1, a2, m2, c2, a3, m3, c3, P, rfl, rfl⟩, rfl⟩
  refine Gx.norm (l' := [Hp.own Mt.FZ 1 (.slice a0 m0 c0) (Mt.codesM c (Mt.ms0 c.n) cs), Hp.own Mt.FK 2 (.slice a1 m1 c1) ((Mt.stM c (Mt.ms0 c.n) cs).bl), Hp.own Mt.FB 1 (.slice a2 m2 c2) (Mt.certL c (Mt.stM c (Mt.ms0 c.n) cs)), Mt.decH (Mt.stM c (Mt.ms0 c.n) cs).bl (Mt.certL c (Mt.stM c (Mt.ms0 c.n) cs)) (.slice a3 m3 c3), P, Hp.rec_ b1 [.slice none 0 0, .slice none 0 0, .slice none 0 0, .slice none 0 0, .slice none 0 0, .slice none 0 0, .slice none 0 0]]) rfl ?_
  refine Gx.val rfl rfl rfl (val_move rfl rfl) ?_
  refine Gx.val rfl rfl rfl (val_extract rfl rfl rfl) ?_
  refine Gx.val rfl rfl rfl (val_extract rfl rfl rfl) ?_
  refine Gx.eff rfl rfl rfl (eff_alloc rfl Tryd.ty30 (vs := [.slice none 0 0, .slice none 0 0, .slice none 0 0, .slice none 0 0]) rfl) ?_
  rintro _ _ ⟨b2, rfl, rfl⟩
  refine Gx.eff0 rfl rfl (eff_store rfl Tryd.ty30 rfl rfl (us := [.slice a0 m0 c0, .slice a1 m1 c1, .slice a2 m2 c2, .slice a3 m3 c3]) rfl rfl rfl (k := 0) rfl (rfl) (vs' := [.slice a0 m0 c0, .slice a1 m1 c1, .slice a2 m2 c2, .slice a3 m3 c3]) (rfl) (l' := [Hp.rec_ b2 [.slice a0 m0 c0, .slice a1 m1 c1, .slice a2 m2 c2, .slice a3 m3 c3], Hp.own Mt.FZ 1 (.slice a0 m0 c0) (Mt.codesM c (Mt.ms0 c.n) cs), Hp.own Mt.FK 2 (.slice a1 m1 c1) ((Mt.stM c (Mt.ms0 c.n) cs).bl), Hp.own Mt.FB 1 (.slice a2 m2 c2) (Mt.certL c (Mt.stM c (Mt.ms0 c.n) cs)), Mt.decH (Mt.stM c (Mt.ms0 c.n) cs).bl (Mt.certL c (Mt.stM c (Mt.ms0 c.n) cs)) (.slice a3 m3 c3), P, Hp.rec_ b1 [.slice none 0 0, .slice none 0 0, .slice none 0 0, .slice none 0 0, .slice none 0 0, .slice none 0 0, .slice none 0 0]]) rfl) ?_
  rintro _ _ rfl
  refine Gx.val rfl rfl rfl (val_assign rfl rfl) ?_
  refine Gx.done ?_
  refine Gx.thenN ?_
  refine Gx.seq ?_
  refine Gx.seq ?_
  refine Gx.front 4 rfl ?_
  refine Gx.sat (l' := [Hp.own Mt.FB 1 (.slice a3 m3 c3) ds, Hp.rec_ b2 [.slice a0 m0 c0, .slice a1 m1 c1, .slice a2 m2 c2, .slice a3 m3 c3], Hp.own Mt.FZ 1 (.slice a0 m0 c0) (Mt.codesM c (Mt.ms0 c.n) cs), Hp.own Mt.FK 2 (.slice a1 m1 c1) ((Mt.stM c (Mt.ms0 c.n) cs).bl), Hp.own Mt.FB 1 (.slice a2 m2 c2) (Mt.certL c (Mt.stM c (Mt.ms0 c.n) cs)), P, Hp.rec_ b1 [.slice none 0 0, .slice none 0 0, .slice none 0 0, .slice none 0 0, .slice none 0 0, .slice none 0 0, .slice none 0 0]]) (fun w H => Mt.dec_own (R := sep [Hp.rec_ b2 [.slice a0 m0 c0, .slice a1 m1 c1, .slice a2 m2 c2, .slice a3 m3 c3], Hp.own Mt.FZ 1 (.slice a0 m0 c0) (Mt.codesM c (Mt.ms0 c.n) cs), Hp.own Mt.FK 2 (.slice a1 m1 c1) ((Mt.stM c (Mt.ms0 c.n) cs).bl), Hp.own Mt.FB 1 (.slice a2 m2 c2) (Mt.certL c (Mt.stM c (Mt.ms0 c.n) cs)), P, Hp.rec_ b1 [.slice none 0 0, .slice none 0 0, .slice none 0 0, .slice none 0 0, .slice none 0 0, .slice none 0 0, .slice none 0 0]]) hds H) ?_
  refine Gx.region ?_
  refine Gx.val rfl rfl rfl (val_move rfl rfl) ?_
  refine Gx.val rfl rfl rfl (Val.cast (val_neq rfl rfl rfl) (v' := .bool false) rfl) ?_
  refine Gx.done ?_
  refine Gx.thenN ?_
  refine Gx.f rfl ?_
  refine Gx.skip ?_
  refine Gx.thenN ?_
  refine Gx.seq ?_
  refine Gx.region ?_
  refine Gx.val rfl rfl rfl (Val.cast (val_loadA rfl Tryd.ty30 rfl rfl rfl (cells_rec (k := 1) rfl)) (v' := .agg #[.slice a0 m0 c0, .slice a1 m1 c1, .slice a2 m2 c2, .slice a3 m3 c3]) rfl) ?_
  refine Gx.val rfl rfl rfl (val_build rfl (qs := [(0, .agg #[.slice a0 m0 c0, .slice a1 m1 c1, .slice a2 m2 c2, .slice a3 m3 c3])]) rfl rfl (fun w => by go_simp) (v := .agg #[.slice a0 m0 c0, .slice a1 m1 c1, .slice a2 m2 c2, .slice a3 m3 c3])) ?_
  refine Gx.eff rfl rfl rfl (eff_alloc rfl Tryd.ty61 (vs := [.slice none 0 0, .slice none 0 0, .slice none 0 0, .slice none 0 0]) rfl) ?_
  rintro _ _ ⟨b3, rfl, rfl⟩
  refine Gx.eff0 rfl rfl (eff_store rfl Tryd.ty61 rfl rfl (us := [.slice a0 m0 c0, .slice a1 m1 c1, .slice a2 m2 c2, .slice a3 m3 c3]) rfl rfl rfl (k := 0) rfl (rfl) (vs' := [.slice a0 m0 c0, .slice a1 m1 c1, .slice a2 m2 c2, .slice a3 m3 c3]) (rfl) (l' := [Hp.rec_ b3 [.slice a0 m0 c0, .slice a1 m1 c1, .slice a2 m2 c2, .slice a3 m3 c3], Hp.own Mt.FB 1 (.slice a3 m3 c3) ds, Hp.rec_ b2 [.slice a0 m0 c0, .slice a1 m1 c1, .slice a2 m2 c2, .slice a3 m3 c3], Hp.own Mt.FZ 1 (.slice a0 m0 c0) (Mt.codesM c (Mt.ms0 c.n) cs), Hp.own Mt.FK 2 (.slice a1 m1 c1) ((Mt.stM c (Mt.ms0 c.n) cs).bl), Hp.own Mt.FB 1 (.slice a2 m2 c2) (Mt.certL c (Mt.stM c (Mt.ms0 c.n) cs)), P, Hp.rec_ b1 [.slice none 0 0, .slice none 0 0, .slice none 0 0, .slice none 0 0, .slice none 0 0, .slice none 0 0, .slice none 0 0]]) rfl) ?_
  rintro _ _ rfl
  refine Gx.done ?_
  refine Gx.thenN ?_
  refine Gx.seq ?_
  refine Gx.region ?_
  refine Gx.val rfl rfl rfl (Val.cast (val_loadA rfl Tryd.ty30 rfl rfl rfl (cells_rec (k := 2) rfl)) (v' := .agg #[.slice a0 m0 c0, .slice a1 m1 c1, .slice a2 m2 c2, .slice a3 m3 c3]) rfl) ?_
  refine Gx.val rfl rfl rfl (val_build rfl (qs := [(0, .agg #[.slice a0 m0 c0, .slice a1 m1 c1, .slice a2 m2 c2, .slice a3 m3 c3])]) rfl rfl (fun w => by go_simp) (v := .agg #[.slice a0 m0 c0, .slice a1 m1 c1, .slice a2 m2 c2, .slice a3 m3 c3, .slice none 0 0, .slice none 0 0, .slice none 0 0])) ?_
  refine Gx.eff rfl rfl rfl (eff_alloc rfl Tryd.ty37 (vs := [.slice none 0 0, .slice none 0 0, .slice none 0 0, .slice none 0 0, .slice none 0 0, .slice none 0 0, .slice none 0 0]) rfl) ?_
  rintro _ _ ⟨b4, rfl, rfl⟩
  refine Gx.eff0 rfl rfl (eff_store rfl Tryd.ty37 rfl rfl (us := [.slice a0 m0 c0, .slice a1 m1 c1, .slice a2 m2 c2, .slice a3 m3 c3, .slice none 0 0, .slice none 0 0, .slice none 0 0]) rfl rfl rfl (k := 0) rfl (rfl) (vs' := [.slice a0 m0 c0, .slice a1 m1 c1, .slice a2 m2 c2, .slice a3 m3 c3, .slice none 0 0, .slice none 0 0, .slice none 0 0]) (rfl) (l' := [Hp.rec_ b4 [.slice a0 m0 c0, .slice a1 m1 c1, .slice a2 m2 c2, .slice a3 m3 c3, .slice none 0 0, .slice none 0 0, .slice none 0 0], Hp.rec_ b3 [.slice a0 m0 c0, .slice a1 m1 c1, .slice a2 m2 c2, .slice a3 m3 c3], Hp.own Mt.FB 1 (.slice a3 m3 c3) ds, Hp.rec_ b2 [.slice a0 m0 c0, .slice a1 m1 c1, .slice a2 m2 c2, .slice a3 m3 c3], Hp.own Mt.FZ 1 (.slice a0 m0 c0) (Mt.codesM c (Mt.ms0 c.n) cs), Hp.own Mt.FK 2 (.slice a1 m1 c1) ((Mt.stM c (Mt.ms0 c.n) cs).bl), Hp.own Mt.FB 1 (.slice a2 m2 c2) (Mt.certL c (Mt.stM c (Mt.ms0 c.n) cs)), P, Hp.rec_ b1 [.slice none 0 0, .slice none 0 0, .slice none 0 0, .slice none 0 0, .slice none 0 0, .slice none 0 0, .slice none 0 0]]) rfl) ?_
  rintro _ _ rfl
  refine Gx.done ?_
  refine Gx.thenN ?_
  refine Gx.seq ?_
  refine Gx.seq ?_
  refine Gx.region ?_
  refine Gx.val rfl rfl rfl (Val.cast (val_loadA rfl Tryd.ty61 rfl rfl rfl (cells_rec (k := 1) rfl)) (v' := .agg #[.slice a0 m0 c0, .slice a1 m1 c1, .slice a2 m2 c2, .slice a3 m3 c3]) rfl) ?_
  refine Gx.val rfl rfl rfl (val_call (vs := [.agg #[.slice a0 m0 c0, .slice a1 m1 c1, .slice a2 m2 c2, .slice a3 m3 c3]]) rfl Tryd.fn11 rfl (fun w H => last_any ((H.at_ (k := 5) rfl).sls (by omega)) ((H.at_ (k := 2) rfl).sls (by omega)) hdl)) ?_
  refine Gx.val rfl rfl rfl (val_assign rfl rfl) ?_
  refine Gx.done ?_
  refine Gx.thenN ?_
  refine Gx.seq ?_
  rcases ho : lastB (Mt.stM c (Mt.ms0 c.n) cs).bl ds ds.length with _ | b
  · refine Gx.slot (t := 18) (v := .int .i64 (-1)) rfl ?_
    have hpb : paysB (Mt.stM c (Mt.ms0 c.n) cs).bl ds pays = [] := by unfold paysB; rw [ho]
    refine Gx.region ?_
    refine Gx.val rfl rfl rfl (val_move rfl rfl) ?_
    refine Gx.val rfl rfl rfl (Val.cast (val_geq rfl rfl rfl) (v' := .bool false) rfl) ?_
    refine Gx.done ?_
    refine Gx.thenN ?_
    refine Gx.f rfl ?_
    refine Gx.skip ?_
    refine Gx.thenN ?_
    refine Gx.seq ?_
    refine Gx.seq ?_
    refine Gx.ownNil Lg.FP 4 ?_
    refine Gx.norm (l' := [Hp.own Lg.FP 4 (.slice none 0 0) (paysB (Mt.stM c (Mt.ms0 c.n) cs).bl ds pays), Hp.rec_ b4 [.slice a0 m0 c0, .slice a1 m1 c1, .slice a2 m2 c2, .slice a3 m3 c3, .slice none 0 0, .slice none 0 0, .slice none 0 0], Hp.rec_ b3 [.slice a0 m0 c0, .slice a1 m1 c1, .slice a2 m2 c2, .slice a3 m3 c3], Hp.own Mt.FB 1 (.slice a3 m3 c3) ds, Hp.rec_ b2 [.slice a0 m0 c0, .slice a1 m1 c1, .slice a2 m2 c2, .slice a3 m3 c3], Hp.own Mt.FZ 1 (.slice a0 m0 c0) (Mt.codesM c (Mt.ms0 c.n) cs), Hp.own Mt.FK 2 (.slice a1 m1 c1) ((Mt.stM c (Mt.ms0 c.n) cs).bl), Hp.own Mt.FB 1 (.slice a2 m2 c2) (Mt.certL c (Mt.stM c (Mt.ms0 c.n) cs)), P, Hp.rec_ b1 [.slice none 0 0, .slice none 0 0, .slice none 0 0, .slice none 0 0, .slice none 0 0, .slice none 0 0, .slice none 0 0]]) (by rw [hpb] <;> rfl) ?_
    refine Gx.region ?_
    refine Gx.val rfl rfl rfl (Val.cast (val_fieldAddr rfl Tryd.underlying37 rfl Tryd.ty34 rfl rfl) (v' := ptr b4 4) rfl) ?_
    refine Gx.val rfl rfl rfl (val_load rfl Tryd.ty34 rfl rfl (cell_rec (k := 1) rfl rfl)) ?_
    refine Gx.val rfl rfl rfl (val_len rfl Tryd.underlying34 rfl (len_own (k := 0) rfl)) ?_
    refine Gx.val rfl rfl rfl (val_gtr rfl rfl rfl) ?_
    refine Gx.done ?_
    refine Gx.thenN ?_
    refine Gx.decT rfl (by omega) ?_
    refine Gx.seq ?_
    refine Gx.region ?_
    refine Gx.val rfl rfl rfl (val_build rfl (qs := []) rfl rfl (fun w => by go_simp) (v := .agg #[.slice none 0 0, .slice none 0 0, .slice none 0 0, .slice none 0 0, .slice none 0 0, .slice none 0 0, .slice none 0 0])) ?_
    refine Gx.eff0 rfl rfl (eff_store rfl Tryd.ty37 rfl rfl (us := [.slice none 0 0, .slice none 0 0, .slice none 0 0, .slice none 0 0, .slice none 0 0, .slice none 0 0, .slice none 0 0]) rfl rfl rfl (k := 9) rfl (rfl) (vs' := [.slice none 0 0, .slice none 0 0, .slice none 0 0, .slice none 0 0, .slice none 0 0, .slice none 0 0, .slice none 0 0]) (rfl) (l' := [Hp.own Lg.FP 4 (.slice none 0 0) (paysB (Mt.stM c (Mt.ms0 c.n) cs).bl ds pays), Hp.rec_ b4 [.slice a0 m0 c0, .slice a1 m1 c1, .slice a2 m2 c2, .slice a3 m3 c3, .slice none 0 0, .slice none 0 0, .slice none 0 0], Hp.rec_ b3 [.slice a0 m0 c0, .slice a1 m1 c1, .slice a2 m2 c2, .slice a3 m3 c3], Hp.own Mt.FB 1 (.slice a3 m3 c3) ds, Hp.rec_ b2 [.slice a0 m0 c0, .slice a1 m1 c1, .slice a2 m2 c2, .slice a3 m3 c3], Hp.own Mt.FZ 1 (.slice a0 m0 c0) (Mt.codesM c (Mt.ms0 c.n) cs), Hp.own Mt.FK 2 (.slice a1 m1 c1) ((Mt.stM c (Mt.ms0 c.n) cs).bl), Hp.own Mt.FB 1 (.slice a2 m2 c2) (Mt.certL c (Mt.stM c (Mt.ms0 c.n) cs)), P, Hp.rec_ b1 [.slice none 0 0, .slice none 0 0, .slice none 0 0, .slice none 0 0, .slice none 0 0, .slice none 0 0, .slice none 0 0]]) rfl) ?_
    rintro _ _ rfl
    refine Gx.val rfl rfl rfl (val_assign rfl rfl) ?_
    refine Gx.done ?_
    refine Gx.thenN ?_
    refine Gx.ret ?_
    refine Gx.thenR ?_
    refine Gx.retC2d Tryd.results5 Tryd.ty37 rfl rfl (us := [.slice none 0 0, .slice none 0 0, .slice none 0 0, .slice none 0 0, .slice none 0 0, .slice none 0 0, .slice none 0 0]) rfl (k := 9) rfl rfl ?_
    rfl
  · refine Gx.slot (t := 18) (v := .int .i64 ((b : Nat) : Int)) rfl ?_
    have hbl : b < (Mt.stM c (Mt.ms0 c.n) cs).bl.length := by have := (lastB_lt ho).1; omega
    have hple := Chn.pathL_le (Mt.blsP (Mt.stM c (Mt.ms0 c.n) cs).bl) b
    have hpb : paysB (Mt.stM c (Mt.ms0 c.n) cs).bl ds pays = paidL pays (Chn.pathL (Mt.blsP (Mt.stM c (Mt.ms0 c.n) cs).bl) b) := by unfold paysB; rw [ho]
    refine Gx.region ?_
    refine Gx.val rfl rfl rfl (val_move rfl rfl) ?_
    refine Gx.val rfl rfl rfl (val_geq rfl rfl rfl) ?_
    refine Gx.done ?_
    refine Gx.thenN ?_
    refine Gx.decT rfl (by omega) ?_
    refine Gx.seq ?_
    refine Gx.region ?_
    refine Gx.val rfl rfl rfl (Val.cast (val_fieldAddr rfl Tryd.underlying61 rfl Tryd.ty30 rfl rfl) (v' := ptr b3 0) rfl) ?_
    refine Gx.val rfl rfl rfl (Val.cast (val_fieldAddr rfl Tryd.underlying30 rfl Tryd.ty27 rfl rfl) (v' := ptr b3 1) rfl) ?_
    refine Gx.val rfl rfl rfl (val_load rfl Tryd.ty27 rfl rfl (cell_rec (k := 1) rfl rfl)) ?_
    refine Gx.val rfl rfl rfl (val_move rfl rfl) ?_
    refine Gx.eff rfl rfl rfl (eff_callN (vs := [.slice a1 m1 c1, .int .i64 ((b : Nat) : Int)]) rfl Tryd.fn12 rfl (fun w H => path_q bd.okc hbl ((H.at_ (k := 5) rfl).sls (by omega)))) ?_
    rintro _ _ ⟨_, ⟨q, rfl, rfl⟩, rfl⟩
    refine Gx.norm (l' := [Hp.own Chn.SZ 1 (.slice q.1 q.2.1 q.2.2) (Chn.pathL (Mt.blsP (Mt.stM c (Mt.ms0 c.n) cs).bl) b), Hp.rec_ b4 [.slice a0 m0 c0, .slice a1 m1 c1, .slice a2 m2 c2, .slice a3 m3 c3, .slice none 0 0, .slice none 0 0, .slice none 0 0], Hp.rec_ b3 [.slice a0 m0 c0, .slice a1 m1 c1, .slice a2 m2 c2, .slice a3 m3 c3], Hp.own Mt.FB 1 (.slice a3 m3 c3) ds, Hp.rec_ b2 [.slice a0 m0 c0, .slice a1 m1 c1, .slice a2 m2 c2, .slice a3 m3 c3], Hp.own Mt.FZ 1 (.slice a0 m0 c0) (Mt.codesM c (Mt.ms0 c.n) cs), Hp.own Mt.FK 2 (.slice a1 m1 c1) ((Mt.stM c (Mt.ms0 c.n) cs).bl), Hp.own Mt.FB 1 (.slice a2 m2 c2) (Mt.certL c (Mt.stM c (Mt.ms0 c.n) cs)), P, Hp.rec_ b1 [.slice none 0 0, .slice none 0 0, .slice none 0 0, .slice none 0 0, .slice none 0 0, .slice none 0 0, .slice none 0 0]]) rfl ?_
    refine Gx.val rfl rfl rfl (val_move rfl rfl) ?_
    refine Gx.val rfl rfl rfl (val_extract rfl rfl rfl) ?_
    refine Gx.val rfl rfl rfl (val_extract rfl rfl rfl) ?_
    refine Gx.val rfl rfl rfl (val_assign rfl rfl) ?_
    refine Gx.val rfl rfl rfl (val_assign rfl rfl) ?_
    refine Gx.done ?_
    refine Gx.thenN ?_
    refine Gx.seq ?_
    refine Gx.ownNil Lg.FP 4 ?_
    refine Gx.region ?_
    refine Gx.val rfl rfl rfl (val_move rfl rfl) ?_
    refine Gx.val rfl rfl rfl (val_len rfl Tryd.underlying63 rfl (len_own (k := 1) rfl)) ?_
    refine Gx.val rfl rfl rfl (val_move rfl rfl) ?_
    refine Gx.done ?_
    refine Gx.thenN ?_
    refine Gx.block ?_
    refine Gx.front 10 rfl ?_
    refine Gx.front 10 rfl ?_
    refine Gx.front 10 rfl ?_
    refine Gx.front 10 rfl ?_
    refine Gx.front 10 rfl ?_
    refine Gx.front 10 rfl ?_
    refine Gx.front 10 rfl ?_
    refine Gx.front 10 rfl ?_
    refine Gx.front 9 rfl ?_
    refine Gx.front 10 rfl ?_
    refine Gx.front 10 rfl ?_
    refine Gx.loop (ι := Nat × Value) (fun ξ => (ξ.1 ≤ (Chn.pathL (Mt.blsP (Mt.stM c (Mt.ms0 c.n) cs).bl) b).length) ∧ (IsS ξ.2)) (fun ξ => [(4, mv), (5, pv), (12, ptr b1 0), (16, ptr b3 0), (17, ptr b4 0), (51, .slice q.1 q.2.1 q.2.2), (52, .int .i64 (((Chn.pathL (Mt.blsP (Mt.stM c (Mt.ms0 c.n) cs).bl) b).length : Nat) : Int)), (53, .int .i64 ((ξ.1 : Nat) : Int))]) (fun ξ => [Hp.own Lg.FP 4 ξ.2 (paidL pays ((Chn.pathL (Mt.blsP (Mt.stM c (Mt.ms0 c.n) cs).bl) b).take ξ.1)), Hp.rec_ b4 [.slice a0 m0 c0, .slice a1 m1 c1, .slice a2 m2 c2, .slice a3 m3 c3, ξ.2, .slice none 0 0, .slice none 0 0], Hp.own Chn.SZ 1 (.slice q.1 q.2.1 q.2.2) (Chn.pathL (Mt.blsP (Mt.stM c (Mt.ms0 c.n) cs).bl) b), Hp.rec_ b3 [.slice a0 m0 c0, .slice a1 m1 c1, .slice a2 m2 c2, .slice a3 m3 c3], Hp.own Mt.FB 1 (.slice a3 m3 c3) ds, Hp.rec_ b2 [.slice a0 m0 c0, .slice a1 m1 c1, .slice a2 m2 c2, .slice a3 m3 c3], Hp.own Mt.FZ 1 (.slice a0 m0 c0) (Mt.codesM c (Mt.ms0 c.n) cs), Hp.own Mt.FK 2 (.slice a1 m1 c1) ((Mt.stM c (Mt.ms0 c.n) cs).bl), Hp.own Mt.FB 1 (.slice a2 m2 c2) (Mt.certL c (Mt.stM c (Mt.ms0 c.n) cs)), P, Hp.rec_ b1 [.slice none 0 0, .slice none 0 0, .slice none 0 0, .slice none 0 0, .slice none 0 0, .slice none 0 0, .slice none 0 0]]) (fun ξ => (Chn.pathL (Mt.blsP (Mt.stM c (Mt.ms0 c.n) cs).bl) b).length - ξ.1) (0, (.slice none 0 0)) ⟨by first | omega | (dsimp only; omega), ⟨none, 0, 0, rfl⟩⟩ ((.cons rfl (.cons rfl (.cons rfl (.cons rfl (.cons rfl (.cons rfl (.cons rfl (.cons rfl .nil))))))))) rfl ?_
    rintro ⟨i, qv⟩ ⟨hi, hiqv⟩
    dsimp only at hi hiqv
    refine Gx.know (m' := [(4, mv), (5, pv), (12, ptr b1 0), (16, ptr b3 0), (17, ptr b4 0), (51, .slice q.1 q.2.1 q.2.2), (52, .int .i64 (((Chn.pathL (Mt.blsP (Mt.stM c (Mt.ms0 c.n) cs).bl) b).length : Nat) : Int)), (53, .int .i64 ((i : Nat) : Int))]) (.cons rfl (.cons rfl (.cons rfl (.cons rfl (.cons rfl (.cons rfl (.cons rfl (.cons rfl .nil)))))))) (Gx.norm (l' := [Hp.own Lg.FP 4 qv (paidL pays ((Chn.pathL (Mt.blsP (Mt.stM c (Mt.ms0 c.n) cs).bl) b).take i)), Hp.rec_ b4 [.slice a0 m0 c0, .slice a1 m1 c1, .slice a2 m2 c2, .slice a3 m3 c3, qv, .slice none 0 0, .slice none 0 0], Hp.own Chn.SZ 1 (.slice q.1 q.2.1 q.2.2) (Chn.pathL (Mt.blsP (Mt.stM c (Mt.ms0 c.n) cs).bl) b), Hp.rec_ b3 [.slice a0 m0 c0, .slice a1 m1 c1, .slice a2 m2 c2, .slice a3 m3 c3], Hp.own Mt.FB 1 (.slice a3 m3 c3) ds, Hp.rec_ b2 [.slice a0 m0 c0, .slice a1 m1 c1, .slice a2 m2 c2, .slice a3 m3 c3], Hp.own Mt.FZ 1 (.slice a0 m0 c0) (Mt.codesM c (Mt.ms0 c.n) cs), Hp.own Mt.FK 2 (.slice a1 m1 c1) ((Mt.stM c (Mt.ms0 c.n) cs).bl), Hp.own Mt.FB 1 (.slice a2 m2 c2) (Mt.certL c (Mt.stM c (Mt.ms0 c.n) cs)), P, Hp.rec_ b1 [.slice none 0 0, .slice none 0 0, .slice none 0 0, .slice none 0 0, .slice none 0 0, .slice none 0 0, .slice none 0 0]]) rfl ?_)
    have hpt := paid_len hsz ((Chn.pathL (Mt.blsP (Mt.stM c (Mt.ms0 c.n) cs).bl) b).take i)
    have hpt2 : ((Chn.pathL (Mt.blsP (Mt.stM c (Mt.ms0 c.n) cs).bl) b).take i).length ≤ 40 := by rw [List.length_take]; omega
    have hpt3 : (paidL pays ((Chn.pathL (Mt.blsP (Mt.stM c (Mt.ms0 c.n) cs).bl) b).take i)).length ≤ 40 * 1048576 := Nat.le_trans hpt (Nat.mul_le_mul_right _ hpt2)
    refine Gx.seq ?_
    refine Gx.region ?_
    refine Gx.val rfl rfl rfl (val_lss rfl rfl rfl) ?_
    refine Gx.done ?_
    refine Gx.thenN ?_
    refine Gx.seq ?_
    refine Gx.dec rfl (fun h5 => ?_) (fun h5 => ?_)
    · refine Gx.skip ?_
      refine Gx.thenN ?_
      refine Gx.seq ?_
      refine Gx.block ?_
      refine Gx.seq ?_
      refine Gx.region ?_
      obtain ⟨x6, hx6⟩ := get_of_lt (xs := (Chn.pathL (Mt.blsP (Mt.stM c (Mt.ms0 c.n) cs).bl) b)) (k := i) (by first | omega | (simp; omega))
      refine Gx.val rfl rfl rfl (val_ixa rfl Tryd.underlying63 Tryd.ty3 rfl rfl (j := i) (rfl) (reach_own (k := 2) rfl hx6)) ?_
      refine Gx.val rfl rfl rfl (val_load rfl Tryd.ty3 rfl rfl (cell_own (i := 0) (k := 2) rfl hx6 rfl)) ?_
      refine Gx.val rfl rfl rfl (val_assign rfl rfl) ?_
      refine Gx.done ?_
      refine Gx.thenN ?_
      refine Gx.seq ?_
      obtain ⟨kk, hkk⟩ := path_nat hx6
      subst hkk
      have hxk := hx6
      refine Gx.slot (t := 22) (v := .int .i64 ((kk : Nat) : Int)) rfl ?_
      refine Gx.region ?_
      refine Gx.val rfl rfl rfl (val_move rfl rfl) ?_
      refine Gx.val rfl rfl rfl (val_move rfl rfl) ?_
      refine Gx.val rfl rfl rfl (val_len rfl Tryd.underlying25 rfl (len_base hp)) ?_
      refine Gx.val rfl rfl rfl (val_lss rfl rfl rfl) ?_
      refine Gx.done ?_
      refine Gx.thenN ?_
      refine Gx.dec rfl (fun h7 => ?_) (fun h7 => ?_)
      · obtain ⟨rk, hrk⟩ := get_of_lt (xs := pays) (k := kk) (by omega)
        have hrk9 := hsz _ (List.mem_of_getElem? hrk)
        refine Gx.regionO (fun j => false) 6 [0, 1, 2, 3, 4, 5] (fun _ => [Hp.own Lg.FP 4 qv (paidL pays ((Chn.pathL (Mt.blsP (Mt.stM c (Mt.ms0 c.n) cs).bl) b).take i)), Hp.rec_ b4 [.slice a0 m0 c0, .slice a1 m1 c1, .slice a2 m2 c2, .slice a3 m3 c3, qv, .slice none 0 0, .slice none 0 0], Hp.own Chn.SZ 1 (.slice q.1 q.2.1 q.2.2) (Chn.pathL (Mt.blsP (Mt.stM c (Mt.ms0 c.n) cs).bl) b), Hp.rec_ b3 [.slice a0 m0 c0, .slice a1 m1 c1, .slice a2 m2 c2, .slice a3 m3 c3], Hp.own Mt.FB 1 (.slice a3 m3 c3) ds, Hp.rec_ b2 [.slice a0 m0 c0, .slice a1 m1 c1, .slice a2 m2 c2, .slice a3 m3 c3], Hp.own Mt.FZ 1 (.slice a0 m0 c0) (Mt.codesM c (Mt.ms0 c.n) cs), Hp.own Mt.FK 2 (.slice a1 m1 c1) ((Mt.stM c (Mt.ms0 c.n) cs).bl), Hp.own Mt.FB 1 (.slice a2 m2 c2) (Mt.certL c (Mt.stM c (Mt.ms0 c.n) cs)), P, Hp.rec_ b1 [.slice none 0 0, .slice none 0 0, .slice none 0 0, .slice none 0 0, .slice none 0 0, .slice none 0 0, .slice none 0 0]]) Tryd.mixed (by kernel_rfl) rfl ?_
        refine Gw.val rfl rfl rfl rfl rfl (fun us => Val.cast (val_fieldAddr rfl Tryd.underlying37 rfl Tryd.ty34 rfl rfl) (v' := ptr b4 4) rfl) ?_
        refine Gw.val0 rfl rfl rfl (by kernel_rfl) rfl rfl (val_load rfl Tryd.ty34 rfl rfl (cell_rec (k := 1) rfl rfl)) ?_
        refine Gw.val rfl rfl rfl rfl rfl (fun us => val_move rfl rfl) ?_
        refine Gw.val rfl rfl rfl rfl rfl (fun us => val_move rfl rfl) ?_
        refine Gw.val rfl rfl rfl rfl rfl (fun us => val_ixa rfl Tryd.underlying25 Tryd.ty34 rfl rfl (j := kk) (rfl) (reach_base hp hrk)) ?_
        refine Gw.val rfl rfl rfl rfl rfl (fun us => val_load rfl Tryd.ty34 rfl rfl (cell_base (i := 0) hp hrk rfl)) ?_
        have hr8 := hrows _ (List.mem_of_getElem? hrk)
        refine Gw.done ?_
        refine Gx.norm (l' := [Hp.own Lg.FP 4 qv (paidL pays ((Chn.pathL (Mt.blsP (Mt.stM c (Mt.ms0 c.n) cs).bl) b).take i)), Hp.rec_ b4 [.slice a0 m0 c0, .slice a1 m1 c1, .slice a2 m2 c2, .slice a3 m3 c3, qv, .slice none 0 0, .slice none 0 0], Hp.own Chn.SZ 1 (.slice q.1 q.2.1 q.2.2) (Chn.pathL (Mt.blsP (Mt.stM c (Mt.ms0 c.n) cs).bl) b), Hp.rec_ b3 [.slice a0 m0 c0, .slice a1 m1 c1, .slice a2 m2 c2, .slice a3 m3 c3], Hp.own Mt.FB 1 (.slice a3 m3 c3) ds, Hp.rec_ b2 [.slice a0 m0 c0, .slice a1 m1 c1, .slice a2 m2 c2, .slice a3 m3 c3], Hp.own Mt.FZ 1 (.slice a0 m0 c0) (Mt.codesM c (Mt.ms0 c.n) cs), Hp.own Mt.FK 2 (.slice a1 m1 c1) ((Mt.stM c (Mt.ms0 c.n) cs).bl), Hp.own Mt.FB 1 (.slice a2 m2 c2) (Mt.certL c (Mt.stM c (Mt.ms0 c.n) cs)), P, Hp.rec_ b1 [.slice none 0 0, .slice none 0 0, .slice none 0 0, .slice none 0 0, .slice none 0 0, .slice none 0 0, .slice none 0 0]]) rfl ?_
        refine Gx.eff rfl rfl rfl (eff_pushAll (k := 0) (ys := rk.xs) rfl Lg.Tryd.eP Lg.FP_len Lg.FP_one rfl rfl (fun w H => hr8.below H.below) rfl (by omega) (by omega)) ?_
        rintro v9 _ ⟨hiv9, rfl⟩
        refine Gx.norm (l' := [Hp.own Lg.FP 4 v9 ((paidL pays ((Chn.pathL (Mt.blsP (Mt.stM c (Mt.ms0 c.n) cs).bl) b).take i)) ++ rk.xs), Hp.rec_ b4 [.slice a0 m0 c0, .slice a1 m1 c1, .slice a2 m2 c2, .slice a3 m3 c3, qv, .slice none 0 0, .slice none 0 0], Hp.own Chn.SZ 1 (.slice q.1 q.2.1 q.2.2) (Chn.pathL (Mt.blsP (Mt.stM c (Mt.ms0 c.n) cs).bl) b), Hp.rec_ b3 [.slice a0 m0 c0, .slice a1 m1 c1, .slice a2 m2 c2, .slice a3 m3 c3], Hp.own Mt.FB 1 (.slice a3 m3 c3) ds, Hp.rec_ b2 [.slice a0 m0 c0, .slice a1 m1 c1, .slice a2 m2 c2, .slice a3 m3 c3], Hp.own Mt.FZ 1 (.slice a0 m0 c0) (Mt.codesM c (Mt.ms0 c.n) cs), Hp.own Mt.FK 2 (.slice a1 m1 c1) ((Mt.stM c (Mt.ms0 c.n) cs).bl), Hp.own Mt.FB 1 (.slice a2 m2 c2) (Mt.certL c (Mt.stM c (Mt.ms0 c.n) cs)), P, Hp.rec_ b1 [.slice none 0 0, .slice none 0 0, .slice none 0 0, .slice none 0 0, .slice none 0 0, .slice none 0 0, .slice none 0 0]]) rfl ?_
        refine Gx.val rfl rfl rfl (Val.cast (val_fieldAddr rfl Tryd.underlying37 rfl Tryd.ty34 rfl rfl) (v' := ptr b4 4) rfl) ?_
        refine Gx.eff0 rfl rfl (eff_store rfl Tryd.ty34 rfl rfl (us := [v9]) hiv9.cellsL rfl hiv9.all (k := 1) rfl (rfl) (vs' := [.slice a0 m0 c0, .slice a1 m1 c1, .slice a2 m2 c2, .slice a3 m3 c3, v9, .slice none 0 0, .slice none 0 0]) (rfl) (l' := [Hp.own Lg.FP 4 v9 ((paidL pays ((Chn.pathL (Mt.blsP (Mt.stM c (Mt.ms0 c.n) cs).bl) b).take i)) ++ rk.xs), Hp.rec_ b4 [.slice a0 m0 c0, .slice a1 m1 c1, .slice a2 m2 c2, .slice a3 m3 c3, v9, .slice none 0 0, .slice none 0 0], Hp.own Chn.SZ 1 (.slice q.1 q.2.1 q.2.2) (Chn.pathL (Mt.blsP (Mt.stM c (Mt.ms0 c.n) cs).bl) b), Hp.rec_ b3 [.slice a0 m0 c0, .slice a1 m1 c1, .slice a2 m2 c2, .slice a3 m3 c3], Hp.own Mt.FB 1 (.slice a3 m3 c3) ds, Hp.rec_ b2 [.slice a0 m0 c0, .slice a1 m1 c1, .slice a2 m2 c2, .slice a3 m3 c3], Hp.own Mt.FZ 1 (.slice a0 m0 c0) (Mt.codesM c (Mt.ms0 c.n) cs), Hp.own Mt.FK 2 (.slice a1 m1 c1) ((Mt.stM c (Mt.ms0 c.n) cs).bl), Hp.own Mt.FB 1 (.slice a2 m2 c2) (Mt.certL c (Mt.stM c (Mt.ms0 c.n) cs)), P, Hp.rec_ b1 [.slice none 0 0, .slice none 0 0, .slice none 0 0, .slice none 0 0, .slice none 0 0, .slice none 0 0, .slice none 0 0]]) rfl) ?_
        rintro _ _ rfl
        refine Gx.done ?_
        refine Gx.blkN ?_
        refine Gx.thenN ?_
        refine Gx.region ?_
        refine Gx.val rfl rfl rfl (val_add rfl rfl rfl (r := ((i + 1 : Nat) : Int)) (w64 (by omega) (by omega))) ?_
        refine Gx.val rfl rfl rfl (val_move rfl rfl) ?_
        refine Gx.done ?_
        refine Gx.thenN ?_
        refine Gx.norm (l' := [Hp.own Lg.FP 4 v9 (paidL pays ((Chn.pathL (Mt.blsP (Mt.stM c (Mt.ms0 c.n) cs).bl) b).take (i + 1))), Hp.rec_ b4 [.slice a0 m0 c0, .slice a1 m1 c1, .slice a2 m2 c2, .slice a3 m3 c3, v9, .slice none 0 0, .slice none 0 0], Hp.own Chn.SZ 1 (.slice q.1 q.2.1 q.2.2) (Chn.pathL (Mt.blsP (Mt.stM c (Mt.ms0 c.n) cs).bl) b), Hp.rec_ b3 [.slice a0 m0 c0, .slice a1 m1 c1, .slice a2 m2 c2, .slice a3 m3 c3], Hp.own Mt.FB 1 (.slice a3 m3 c3) ds, Hp.rec_ b2 [.slice a0 m0 c0, .slice a1 m1 c1, .slice a2 m2 c2, .slice a3 m3 c3], Hp.own Mt.FZ 1 (.slice a0 m0 c0) (Mt.codesM c (Mt.ms0 c.n) cs), Hp.own Mt.FK 2 (.slice a1 m1 c1) ((Mt.stM c (Mt.ms0 c.n) cs).bl), Hp.own Mt.FB 1 (.slice a2 m2 c2) (Mt.certL c (Mt.stM c (Mt.ms0 c.n) cs)), P, Hp.rec_ b1 [.slice none 0 0, .slice none 0 0, .slice none 0 0, .slice none 0 0, .slice none 0 0, .slice none 0 0, .slice none 0 0]]) (by rw [paid_snoc hxk, Int.toNat_natCast, paysAt_in hrk] <;> rfl) ?_
        exact Gx.round (i + 1, v9) ⟨by first | omega | (dsimp only; omega), hiv9⟩ (by first | omega | (dsimp only; omega)) ((.cons rfl (.cons rfl (.cons rfl (.cons rfl (.cons rfl (.cons rfl (.cons rfl (.cons rfl .nil))))))))) rfl
      · refine Gx.skip ?_
        refine Gx.blkN ?_
        refine Gx.thenN ?_
        refine Gx.region ?_
        refine Gx.val rfl rfl rfl (val_add rfl rfl rfl (r := ((i + 1 : Nat) : Int)) (w64 (by omega) (by omega))) ?_
        refine Gx.val rfl rfl rfl (val_move rfl rfl) ?_
        refine Gx.done ?_
        refine Gx.thenN ?_
        refine Gx.norm (l' := [Hp.own Lg.FP 4 qv (paidL pays ((Chn.pathL (Mt.blsP (Mt.stM c (Mt.ms0 c.n) cs).bl) b).take (i + 1))), Hp.rec_ b4 [.slice a0 m0 c0, .slice a1 m1 c1, .slice a2 m2 c2, .slice a3 m3 c3, qv, .slice none 0 0, .slice none 0 0], Hp.own Chn.SZ 1 (.slice q.1 q.2.1 q.2.2) (Chn.pathL (Mt.blsP (Mt.stM c (Mt.ms0 c.n) cs).bl) b), Hp.rec_ b3 [.slice a0 m0 c0, .slice a1 m1 c1, .slice a2 m2 c2, .slice a3 m3 c3], Hp.own Mt.FB 1 (.slice a3 m3 c3) ds, Hp.rec_ b2 [.slice a0 m0 c0, .slice a1 m1 c1, .slice a2 m2 c2, .slice a3 m3 c3], Hp.own Mt.FZ 1 (.slice a0 m0 c0) (Mt.codesM c (Mt.ms0 c.n) cs), Hp.own Mt.FK 2 (.slice a1 m1 c1) ((Mt.stM c (Mt.ms0 c.n) cs).bl), Hp.own Mt.FB 1 (.slice a2 m2 c2) (Mt.certL c (Mt.stM c (Mt.ms0 c.n) cs)), P, Hp.rec_ b1 [.slice none 0 0, .slice none 0 0, .slice none 0 0, .slice none 0 0, .slice none 0 0, .slice none 0 0, .slice none 0 0]]) (by rw [paid_snoc hxk, Int.toNat_natCast, paysAt_out (by omega), List.append_nil] <;> rfl) ?_
        exact Gx.round (i + 1, qv) ⟨by first | omega | (dsimp only; omega), hiqv⟩ (by first | omega | (dsimp only; omega)) ((.cons rfl (.cons rfl (.cons rfl (.cons rfl (.cons rfl (.cons rfl (.cons rfl (.cons rfl .nil))))))))) rfl
    · refine Gx.exit ?_
      refine Gx.thenE ?_
      refine Gx.thenE ?_
      refine Gx.blkE ?_
      refine Gx.thenN ?_
      refine Gx.seq ?_
      refine Gx.seq ?_
      obtain rfl : i = (Chn.pathL (Mt.blsP (Mt.stM c (Mt.ms0 c.n) cs).bl) b).length := by omega
      rw [List.take_length] at hpt3
      refine Gx.norm (l' := [Hp.own Lg.FP 4 qv (paysB (Mt.stM c (Mt.ms0 c.n) cs).bl ds pays), Hp.rec_ b4 [.slice a0 m0 c0, .slice a1 m1 c1, .slice a2 m2 c2, .slice a3 m3 c3, qv, .slice none 0 0, .slice none 0 0], Hp.own Chn.SZ 1 (.slice q.1 q.2.1 q.2.2) (Chn.pathL (Mt.blsP (Mt.stM c (Mt.ms0 c.n) cs).bl) b), Hp.rec_ b3 [.slice a0 m0 c0, .slice a1 m1 c1, .slice a2 m2 c2, .slice a3 m3 c3], Hp.own Mt.FB 1 (.slice a3 m3 c3) ds, Hp.rec_ b2 [.slice a0 m0 c0, .slice a1 m1 c1, .slice a2 m2 c2, .slice a3 m3 c3], Hp.own Mt.FZ 1 (.slice a0 m0 c0) (Mt.codesM c (Mt.ms0 c.n) cs), Hp.own Mt.FK 2 (.slice a1 m1 c1) ((Mt.stM c (Mt.ms0 c.n) cs).bl), Hp.own Mt.FB 1 (.slice a2 m2 c2) (Mt.certL c (Mt.stM c (Mt.ms0 c.n) cs)), P, Hp.rec_ b1 [.slice none 0 0, .slice none 0 0, .slice none 0 0, .slice none 0 0, .slice none 0 0, .slice none 0 0, .slice none 0 0]]) (by rw [List.take_length, hpb] <;> rfl) ?_
      obtain ⟨sa10, sn11, sc12, rfl⟩ := hiqv
      refine Gx.region ?_
      refine Gx.val rfl rfl rfl (Val.cast (val_fieldAddr rfl Tryd.underlying37 rfl Tryd.ty34 rfl rfl) (v' := ptr b4 4) rfl) ?_
      refine Gx.val rfl rfl rfl (val_load rfl Tryd.ty34 rfl rfl (cell_rec (k := 1) rfl rfl)) ?_
      refine Gx.val rfl rfl rfl (val_len rfl Tryd.underlying34 rfl (len_own (k := 0) rfl)) ?_
      refine Gx.val rfl rfl rfl (val_gtr rfl rfl rfl) ?_
      refine Gx.done ?_
      refine Gx.thenN ?_
      refine Gx.decT rfl (by omega) ?_
      refine Gx.seq ?_
      refine Gx.region ?_
      refine Gx.val rfl rfl rfl (val_build rfl (qs := []) rfl rfl (fun w => by go_simp) (v := .agg #[.slice none 0 0, .slice none 0 0, .slice none 0 0, .slice none 0 0, .slice none 0 0, .slice none 0 0, .slice none 0 0])) ?_
      refine Gx.eff0 rfl rfl (eff_store rfl Tryd.ty37 rfl rfl (us := [.slice none 0 0, .slice none 0 0, .slice none 0 0, .slice none 0 0, .slice none 0 0, .slice none 0 0, .slice none 0 0]) rfl rfl rfl (k := 10) rfl (rfl) (vs' := [.slice none 0 0, .slice none 0 0, .slice none 0 0, .slice none 0 0, .slice none 0 0, .slice none 0 0, .slice none 0 0]) (rfl) (l' := [Hp.own Lg.FP 4 (.slice sa10 sn11 sc12) (paysB (Mt.stM c (Mt.ms0 c.n) cs).bl ds pays), Hp.rec_ b4 [.slice a0 m0 c0, .slice a1 m1 c1, .slice a2 m2 c2, .slice a3 m3 c3, .slice sa10 sn11 sc12, .slice none 0 0, .slice none 0 0], Hp.own Chn.SZ 1 (.slice q.1 q.2.1 q.2.2) (Chn.pathL (Mt.blsP (Mt.stM c (Mt.ms0 c.n) cs).bl) b), Hp.rec_ b3 [.slice a0 m0 c0, .slice a1 m1 c1, .slice a2 m2 c2, .slice a3 m3 c3], Hp.own Mt.FB 1 (.slice a3 m3 c3) ds, Hp.rec_ b2 [.slice a0 m0 c0, .slice a1 m1 c1, .slice a2 m2 c2, .slice a3 m3 c3], Hp.own Mt.FZ 1 (.slice a0 m0 c0) (Mt.codesM c (Mt.ms0 c.n) cs), Hp.own Mt.FK 2 (.slice a1 m1 c1) ((Mt.stM c (Mt.ms0 c.n) cs).bl), Hp.own Mt.FB 1 (.slice a2 m2 c2) (Mt.certL c (Mt.stM c (Mt.ms0 c.n) cs)), P, Hp.rec_ b1 [.slice none 0 0, .slice none 0 0, .slice none 0 0, .slice none 0 0, .slice none 0 0, .slice none 0 0, .slice none 0 0]]) rfl) ?_
      rintro _ _ rfl
      refine Gx.val rfl rfl rfl (val_assign rfl rfl) ?_
      refine Gx.done ?_
      refine Gx.thenN ?_
      refine Gx.ret ?_
      refine Gx.thenR ?_
      refine Gx.retC2d Tryd.results5 Tryd.ty37 rfl rfl (us := [.slice none 0 0, .slice none 0 0, .slice none 0 0, .slice none 0 0, .slice none 0 0, .slice none 0 0, .slice none 0 0]) rfl (k := 10) rfl rfl ?_
      rfl

set_option maxHeartbeats 1000000 in
theorem book_mon {W : World} {c : Mt.MC} {f : Nat} {sv mv pv : Value} {cs : List Mt.Sy} {money : List Int} {pays : List Row} {ds : List Bool} (hg : Lg.HG W) (hs : SlS Mt.FM 5 W sv cs) (h1n : 1 ≤ c.n) (h7n : c.n ≤ 7) (hcl : cs.length ≤ 120) (hf : f ≤ (c.n - 1) / 3) (hfn : c.need + f = c.n) (hLn : c.L >>> c.n = 0) (hL : c.L < 4294967296) (hm : SlS Lg.FM 1 W mv money) (hp : SlS FW 1 W pv pays) (hrows : ∀ r ∈ pays, SlS Lg.FP 4 W (.slice r.a r.xs.length r.c) r.xs) (hsz : ∀ r ∈ pays, r.xs.length ≤ 1048576) (hds : Chn.IsDec (Mt.blsP (Mt.stM c (Mt.ms0 c.n) cs).bl) (Mt.certL c (Mt.stM c (Mt.ms0 c.n) cs)) (Mt.stM c (Mt.ms0 c.n) cs).bl.length ds) (hbig : (paysB (Mt.stM c (Mt.ms0 c.n) cs).bl ds pays).length ≤ 60) (hno : ¬ Lg.OkL money (paysB (Mt.stM c (Mt.ms0 c.n) cs).bl ds pays).length) :
    Calls Tryd.prog 5 #[.int .i64 ((c.n : Nat) : Int), .int .i64 ((f : Nat) : Int), .int .u32 ((c.L : Nat) : Int), sv, mv, pv] W fun e w' => ∃ v, e = .returned v ∧ (∃ z : Int, z ≠ 0 ∧ v = .tuple #[.agg #[.slice none 0 0, .slice none 0 0, .slice none 0 0, .slice none 0 0, .slice none 0 0, .slice none 0 0, .slice none 0 0], .int .i64 z]) ∧ Below W.heap.size W w' := by
  have ok : Mt.OkM c := ⟨h7n, by omega, hL⟩
  have bd := Mt.BdM.at_ ok cs
  have hb40 := bd.b40
  have hdl : ds.length = (Mt.stM c (Mt.ms0 c.n) cs).bl.length := by rw [hds.1, List.length_map]
  have hcdl : (Mt.codesM c (Mt.ms0 c.n) cs).length = cs.length := Mt.codesM_len ..
  have hp9 := sls_bd hp
  refine calls_rel (R := fun v => ∃ z : Int, z ≠ 0 ∧ v = .tuple #[.agg #[.slice none 0 0, .slice none 0 0, .slice none 0 0, .slice none 0 0, .slice none 0 0, .slice none 0 0, .slice none 0 0], .int .i64 z]) (Gx.enter (l := []) Tryd.func5 rfl Tryd.ntmps5 rfl (Sat.start W) ?_)
  refine Gx.know (m' := [(0, .int .i64 ((c.n : Nat) : Int)), (1, .int .i64 ((f : Nat) : Int)), (2, .int .u32 ((c.L : Nat) : Int)), (3, sv), (4, mv), (5, pv)]) (.cons rfl (.cons rfl (.cons rfl (.cons rfl (.cons rfl (.cons rfl .nil)))))) ?_
  refine Gx.seq ?_
  refine Gx.region ?_
  refine Gx.eff rfl rfl rfl (eff_alloc rfl Tryd.ty37 (vs := [.slice none 0 0, .slice none 0 0, .slice none 0 0, .slice none 0 0, .slice none 0 0, .slice none 0 0, .slice none 0 0]) rfl) ?_
  rintro _ _ ⟨b1, rfl, rfl⟩
  refine Gx.val rfl rfl rfl (val_assign rfl rfl) ?_
  refine Gx.done ?_
  refine Gx.thenN ?_
  refine Gx.seq ?_
  refine Gx.region ?_
  refine Gx.val rfl rfl rfl (val_move rfl rfl) ?_
  refine Gx.val rfl rfl rfl (val_move rfl rfl) ?_
  refine Gx.val rfl rfl rfl (val_move rfl rfl) ?_
  refine Gx.val rfl rfl rfl (val_move rfl rfl) ?_
  refine Gx.eff rfl rfl rfl (eff_callN (vs := [.int .i64 ((c.n : Nat) : Int), .int .i64 ((f : Nat) : Int), .int .u32 ((c.L : Nat) : Int), sv]) rfl Tryd.fn4 rfl (fun w H => Mt.play_own (hs.below H.below) h1n h7n hcl hf hfn hLn hL)) ?_
  rintro _ _ ⟨_, ⟨a0, m0, c0, a1, m1, c1, a2, m2, c2, a3, m3, c3, P, rfl, rfl⟩, rfl⟩
  refine Gx.norm (l' := [Hp.own Mt.FZ 1 (.slice a0 m0 c0) (Mt.codesM c (Mt.ms0 c.n) cs), Hp.own Mt.FK 2 (.slice a1 m1 c1) ((Mt.stM c (Mt.ms0 c.n) cs).bl), Hp.own Mt.FB 1 (.slice a2 m2 c2) (Mt.certL c (Mt.stM c (Mt.ms0 c.n) cs)), Mt.decH (Mt.stM c (Mt.ms0 c.n) cs).bl (Mt.certL c (Mt.stM c (Mt.ms0 c.n) cs)) (.slice a3 m3 c3), P, Hp.rec_ b1 [.slice none 0 0, .slice none 0 0, .slice none 0 0, .slice none 0 0, .slice none 0 0, .slice none 0 0, .slice none 0 0]]) rfl ?_
  refine Gx.val rfl rfl rfl (val_move rfl rfl) ?_
  refine Gx.val rfl rfl rfl (val_extract rfl rfl rfl) ?_
  refine Gx.val rfl rfl rfl (val_extract rfl rfl rfl) ?_
  refine Gx.eff rfl rfl rfl (eff_alloc rfl Tryd.ty30 (vs := [.slice none 0 0, .slice none 0 0, .slice none 0 0, .slice none 0 0]) rfl) ?_
  rintro _ _ ⟨b2, rfl, rfl⟩
  refine Gx.eff0 rfl rfl (eff_store rfl Tryd.ty30 rfl rfl (us := [.slice a0 m0 c0, .slice a1 m1 c1, .slice a2 m2 c2, .slice a3 m3 c3]) rfl rfl rfl (k := 0) rfl (rfl) (vs' := [.slice a0 m0 c0, .slice a1 m1 c1, .slice a2 m2 c2, .slice a3 m3 c3]) (rfl) (l' := [Hp.rec_ b2 [.slice a0 m0 c0, .slice a1 m1 c1, .slice a2 m2 c2, .slice a3 m3 c3], Hp.own Mt.FZ 1 (.slice a0 m0 c0) (Mt.codesM c (Mt.ms0 c.n) cs), Hp.own Mt.FK 2 (.slice a1 m1 c1) ((Mt.stM c (Mt.ms0 c.n) cs).bl), Hp.own Mt.FB 1 (.slice a2 m2 c2) (Mt.certL c (Mt.stM c (Mt.ms0 c.n) cs)), Mt.decH (Mt.stM c (Mt.ms0 c.n) cs).bl (Mt.certL c (Mt.stM c (Mt.ms0 c.n) cs)) (.slice a3 m3 c3), P, Hp.rec_ b1 [.slice none 0 0, .slice none 0 0, .slice none 0 0, .slice none 0 0, .slice none 0 0, .slice none 0 0, .slice none 0 0]]) rfl) ?_
  rintro _ _ rfl
  refine Gx.val rfl rfl rfl (val_assign rfl rfl) ?_
  refine Gx.done ?_
  refine Gx.thenN ?_
  refine Gx.seq ?_
  refine Gx.seq ?_
  refine Gx.front 4 rfl ?_
  refine Gx.sat (l' := [Hp.own Mt.FB 1 (.slice a3 m3 c3) ds, Hp.rec_ b2 [.slice a0 m0 c0, .slice a1 m1 c1, .slice a2 m2 c2, .slice a3 m3 c3], Hp.own Mt.FZ 1 (.slice a0 m0 c0) (Mt.codesM c (Mt.ms0 c.n) cs), Hp.own Mt.FK 2 (.slice a1 m1 c1) ((Mt.stM c (Mt.ms0 c.n) cs).bl), Hp.own Mt.FB 1 (.slice a2 m2 c2) (Mt.certL c (Mt.stM c (Mt.ms0 c.n) cs)), P, Hp.rec_ b1 [.slice none 0 0, .slice none 0 0, .slice none 0 0, .slice none 0 0, .slice none 0 0, .slice none 0 0, .slice none 0 0]]) (fun w H => Mt.dec_own (R := sep [Hp.rec_ b2 [.slice a0 m0 c0, .slice a1 m1 c1, .slice a2 m2 c2, .slice a3 m3 c3], Hp.own Mt.FZ 1 (.slice a0 m0 c0) (Mt.codesM c (Mt.ms0 c.n) cs), Hp.own Mt.FK 2 (.slice a1 m1 c1) ((Mt.stM c (Mt.ms0 c.n) cs).bl), Hp.own Mt.FB 1 (.slice a2 m2 c2) (Mt.certL c (Mt.stM c (Mt.ms0 c.n) cs)), P, Hp.rec_ b1 [.slice none 0 0, .slice none 0 0, .slice none 0 0, .slice none 0 0, .slice none 0 0, .slice none 0 0, .slice none 0 0]]) hds H) ?_
  refine Gx.region ?_
  refine Gx.val rfl rfl rfl (val_move rfl rfl) ?_
  refine Gx.val rfl rfl rfl (Val.cast (val_neq rfl rfl rfl) (v' := .bool false) rfl) ?_
  refine Gx.done ?_
  refine Gx.thenN ?_
  refine Gx.f rfl ?_
  refine Gx.skip ?_
  refine Gx.thenN ?_
  refine Gx.seq ?_
  refine Gx.region ?_
  refine Gx.val rfl rfl rfl (Val.cast (val_loadA rfl Tryd.ty30 rfl rfl rfl (cells_rec (k := 1) rfl)) (v' := .agg #[.slice a0 m0 c0, .slice a1 m1 c1, .slice a2 m2 c2, .slice a3 m3 c3]) rfl) ?_
  refine Gx.val rfl rfl rfl (val_build rfl (qs := [(0, .agg #[.slice a0 m0 c0, .slice a1 m1 c1, .slice a2 m2 c2, .slice a3 m3 c3])]) rfl rfl (fun w => by go_simp) (v := .agg #[.slice a0 m0 c0, .slice a1 m1 c1, .slice a2 m2 c2, .slice a3 m3 c3])) ?_
  refine Gx.eff rfl rfl rfl (eff_alloc rfl Tryd.ty61 (vs := [.slice none 0 0, .slice none 0 0, .slice none 0 0, .slice none 0 0]) rfl) ?_
  rintro _ _ ⟨b3, rfl, rfl⟩
  refine Gx.eff0 rfl rfl (eff_store rfl Tryd.ty61 rfl rfl (us := [.slice a0 m0 c0, .slice a1 m1 c1, .slice a2 m2 c2, .slice a3 m3 c3]) rfl rfl rfl (k := 0) rfl (rfl) (vs' := [.slice a0 m0 c0, .slice a1 m1 c1, .slice a2 m2 c2, .slice a3 m3 c3]) (rfl) (l' := [Hp.rec_ b3 [.slice a0 m0 c0, .slice a1 m1 c1, .slice a2 m2 c2, .slice a3 m3 c3], Hp.own Mt.FB 1 (.slice a3 m3 c3) ds, Hp.rec_ b2 [.slice a0 m0 c0, .slice a1 m1 c1, .slice a2 m2 c2, .slice a3 m3 c3], Hp.own Mt.FZ 1 (.slice a0 m0 c0) (Mt.codesM c (Mt.ms0 c.n) cs), Hp.own Mt.FK 2 (.slice a1 m1 c1) ((Mt.stM c (Mt.ms0 c.n) cs).bl), Hp.own Mt.FB 1 (.slice a2 m2 c2) (Mt.certL c (Mt.stM c (Mt.ms0 c.n) cs)), P, Hp.rec_ b1 [.slice none 0 0, .slice none 0 0, .slice none 0 0, .slice none 0 0, .slice none 0 0, .slice none 0 0, .slice none 0 0]]) rfl) ?_
  rintro _ _ rfl
  refine Gx.done ?_
  refine Gx.thenN ?_
  refine Gx.seq ?_
  refine Gx.region ?_
  refine Gx.val rfl rfl rfl (Val.cast (val_loadA rfl Tryd.ty30 rfl rfl rfl (cells_rec (k := 2) rfl)) (v' := .agg #[.slice a0 m0 c0, .slice a1 m1 c1, .slice a2 m2 c2, .slice a3 m3 c3]) rfl) ?_
  refine Gx.val rfl rfl rfl (val_build rfl (qs := [(0, .agg #[.slice a0 m0 c0, .slice a1 m1 c1, .slice a2 m2 c2, .slice a3 m3 c3])]) rfl rfl (fun w => by go_simp) (v := .agg #[.slice a0 m0 c0, .slice a1 m1 c1, .slice a2 m2 c2, .slice a3 m3 c3, .slice none 0 0, .slice none 0 0, .slice none 0 0])) ?_
  refine Gx.eff rfl rfl rfl (eff_alloc rfl Tryd.ty37 (vs := [.slice none 0 0, .slice none 0 0, .slice none 0 0, .slice none 0 0, .slice none 0 0, .slice none 0 0, .slice none 0 0]) rfl) ?_
  rintro _ _ ⟨b4, rfl, rfl⟩
  refine Gx.eff0 rfl rfl (eff_store rfl Tryd.ty37 rfl rfl (us := [.slice a0 m0 c0, .slice a1 m1 c1, .slice a2 m2 c2, .slice a3 m3 c3, .slice none 0 0, .slice none 0 0, .slice none 0 0]) rfl rfl rfl (k := 0) rfl (rfl) (vs' := [.slice a0 m0 c0, .slice a1 m1 c1, .slice a2 m2 c2, .slice a3 m3 c3, .slice none 0 0, .slice none 0 0, .slice none 0 0]) (rfl) (l' := [Hp.rec_ b4 [.slice a0 m0 c0, .slice a1 m1 c1, .slice a2 m2 c2, .slice a3 m3 c3, .slice none 0 0, .slice none 0 0, .slice none 0 0], Hp.rec_ b3 [.slice a0 m0 c0, .slice a1 m1 c1, .slice a2 m2 c2, .slice a3 m3 c3], Hp.own Mt.FB 1 (.slice a3 m3 c3) ds, Hp.rec_ b2 [.slice a0 m0 c0, .slice a1 m1 c1, .slice a2 m2 c2, .slice a3 m3 c3], Hp.own Mt.FZ 1 (.slice a0 m0 c0) (Mt.codesM c (Mt.ms0 c.n) cs), Hp.own Mt.FK 2 (.slice a1 m1 c1) ((Mt.stM c (Mt.ms0 c.n) cs).bl), Hp.own Mt.FB 1 (.slice a2 m2 c2) (Mt.certL c (Mt.stM c (Mt.ms0 c.n) cs)), P, Hp.rec_ b1 [.slice none 0 0, .slice none 0 0, .slice none 0 0, .slice none 0 0, .slice none 0 0, .slice none 0 0, .slice none 0 0]]) rfl) ?_
  rintro _ _ rfl
  refine Gx.done ?_
  refine Gx.thenN ?_
  refine Gx.seq ?_
  refine Gx.seq ?_
  refine Gx.region ?_
  refine Gx.val rfl rfl rfl (Val.cast (val_loadA rfl Tryd.ty61 rfl rfl rfl (cells_rec (k := 1) rfl)) (v' := .agg #[.slice a0 m0 c0, .slice a1 m1 c1, .slice a2 m2 c2, .slice a3 m3 c3]) rfl) ?_
  refine Gx.val rfl rfl rfl (val_call (vs := [.agg #[.slice a0 m0 c0, .slice a1 m1 c1, .slice a2 m2 c2, .slice a3 m3 c3]]) rfl Tryd.fn11 rfl (fun w H => last_any ((H.at_ (k := 5) rfl).sls (by omega)) ((H.at_ (k := 2) rfl).sls (by omega)) hdl)) ?_
  refine Gx.val rfl rfl rfl (val_assign rfl rfl) ?_
  refine Gx.done ?_
  refine Gx.thenN ?_
  refine Gx.seq ?_
  rcases ho : lastB (Mt.stM c (Mt.ms0 c.n) cs).bl ds ds.length with _ | b
  · refine Gx.slot (t := 18) (v := .int .i64 (-1)) rfl ?_
    have hpb : paysB (Mt.stM c (Mt.ms0 c.n) cs).bl ds pays = [] := by unfold paysB; rw [ho]
    refine Gx.region ?_
    refine Gx.val rfl rfl rfl (val_move rfl rfl) ?_
    refine Gx.val rfl rfl rfl (Val.cast (val_geq rfl rfl rfl) (v' := .bool false) rfl) ?_
    refine Gx.done ?_
    refine Gx.thenN ?_
    refine Gx.f rfl ?_
    refine Gx.skip ?_
    refine Gx.thenN ?_
    refine Gx.seq ?_
    refine Gx.seq ?_
    refine Gx.ownNil Lg.FP 4 ?_
    refine Gx.norm (l' := [Hp.own Lg.FP 4 (.slice none 0 0) (paysB (Mt.stM c (Mt.ms0 c.n) cs).bl ds pays), Hp.rec_ b4 [.slice a0 m0 c0, .slice a1 m1 c1, .slice a2 m2 c2, .slice a3 m3 c3, .slice none 0 0, .slice none 0 0, .slice none 0 0], Hp.rec_ b3 [.slice a0 m0 c0, .slice a1 m1 c1, .slice a2 m2 c2, .slice a3 m3 c3], Hp.own Mt.FB 1 (.slice a3 m3 c3) ds, Hp.rec_ b2 [.slice a0 m0 c0, .slice a1 m1 c1, .slice a2 m2 c2, .slice a3 m3 c3], Hp.own Mt.FZ 1 (.slice a0 m0 c0) (Mt.codesM c (Mt.ms0 c.n) cs), Hp.own Mt.FK 2 (.slice a1 m1 c1) ((Mt.stM c (Mt.ms0 c.n) cs).bl), Hp.own Mt.FB 1 (.slice a2 m2 c2) (Mt.certL c (Mt.stM c (Mt.ms0 c.n) cs)), P, Hp.rec_ b1 [.slice none 0 0, .slice none 0 0, .slice none 0 0, .slice none 0 0, .slice none 0 0, .slice none 0 0, .slice none 0 0]]) (by rw [hpb] <;> rfl) ?_
    refine Gx.region ?_
    refine Gx.val rfl rfl rfl (Val.cast (val_fieldAddr rfl Tryd.underlying37 rfl Tryd.ty34 rfl rfl) (v' := ptr b4 4) rfl) ?_
    refine Gx.val rfl rfl rfl (val_load rfl Tryd.ty34 rfl rfl (cell_rec (k := 1) rfl rfl)) ?_
    refine Gx.val rfl rfl rfl (val_len rfl Tryd.underlying34 rfl (len_own (k := 0) rfl)) ?_
    refine Gx.val rfl rfl rfl (val_gtr rfl rfl rfl) ?_
    refine Gx.done ?_
    refine Gx.thenN ?_
    refine Gx.decF rfl (by omega) ?_
    refine Gx.skip ?_
    refine Gx.thenN ?_
    refine Gx.seq ?_
    refine Gx.seq ?_
    refine Gx.region ?_
    refine Gx.val rfl rfl rfl (val_move rfl rfl) ?_
    refine Gx.val rfl rfl rfl (Val.cast (val_fieldAddr rfl Tryd.underlying37 rfl Tryd.ty34 rfl rfl) (v' := ptr b4 4) rfl) ?_
    refine Gx.val rfl rfl rfl (val_load rfl Tryd.ty34 rfl rfl (cell_rec (k := 1) rfl rfl)) ?_
    refine Gx.eff rfl rfl rfl (eff_callE (vs := [mv, .slice none 0 0]) rfl Tryd.fn13 rfl (R := fun u => ∃ z : Int, u = .tuple #[.slice none 0 0, .slice none 0 0, .int .i64 z] ∧ z ≠ 0) (fun w H => Lg.play_no (hm.below H.below) ((H.at_ (k := 0) rfl).sls (by omega)) hno)) ?_
    rintro _ _ ⟨⟨zz, rfl, hzz⟩, rfl⟩
    refine Gx.val rfl rfl rfl (val_move rfl rfl) ?_
    refine Gx.val rfl rfl rfl (val_extract rfl rfl rfl) ?_
    refine Gx.val rfl rfl rfl (val_extract rfl rfl rfl) ?_
    refine Gx.val rfl rfl rfl (val_extract rfl rfl rfl) ?_
    refine Gx.val rfl rfl rfl (Val.cast (val_fieldAddr rfl Tryd.underlying37 rfl Tryd.ty35 rfl rfl) (v' := ptr b4 6) rfl) ?_
    refine Gx.eff0 rfl rfl (eff_store rfl Tryd.ty35 rfl rfl (us := [.slice none 0 0]) rfl rfl rfl (k := 1) rfl (rfl) (vs' := [.slice a0 m0 c0, .slice a1 m1 c1, .slice a2 m2 c2, .slice a3 m3 c3, .slice none 0 0, .slice none 0 0, .slice none 0 0]) (rfl) (l' := [Hp.own Lg.FP 4 (.slice none 0 0) (paysB (Mt.stM c (Mt.ms0 c.n) cs).bl ds pays), Hp.rec_ b4 [.slice a0 m0 c0, .slice a1 m1 c1, .slice a2 m2 c2, .slice a3 m3 c3, .slice none 0 0, .slice none 0 0, .slice none 0 0], Hp.rec_ b3 [.slice a0 m0 c0, .slice a1 m1 c1, .slice a2 m2 c2, .slice a3 m3 c3], Hp.own Mt.FB 1 (.slice a3 m3 c3) ds, Hp.rec_ b2 [.slice a0 m0 c0, .slice a1 m1 c1, .slice a2 m2 c2, .slice a3 m3 c3], Hp.own Mt.FZ 1 (.slice a0 m0 c0) (Mt.codesM c (Mt.ms0 c.n) cs), Hp.own Mt.FK 2 (.slice a1 m1 c1) ((Mt.stM c (Mt.ms0 c.n) cs).bl), Hp.own Mt.FB 1 (.slice a2 m2 c2) (Mt.certL c (Mt.stM c (Mt.ms0 c.n) cs)), P, Hp.rec_ b1 [.slice none 0 0, .slice none 0 0, .slice none 0 0, .slice none 0 0, .slice none 0 0, .slice none 0 0, .slice none 0 0]]) rfl) ?_
    rintro _ _ rfl
    refine Gx.val rfl rfl rfl (Val.cast (val_fieldAddr rfl Tryd.underlying37 rfl Tryd.ty26 rfl rfl) (v' := ptr b4 5) rfl) ?_
    refine Gx.eff0 rfl rfl (eff_store rfl Tryd.ty26 rfl rfl (us := [.slice none 0 0]) rfl rfl rfl (k := 1) rfl (rfl) (vs' := [.slice a0 m0 c0, .slice a1 m1 c1, .slice a2 m2 c2, .slice a3 m3 c3, .slice none 0 0, .slice none 0 0, .slice none 0 0]) (rfl) (l' := [Hp.own Lg.FP 4 (.slice none 0 0) (paysB (Mt.stM c (Mt.ms0 c.n) cs).bl ds pays), Hp.rec_ b4 [.slice a0 m0 c0, .slice a1 m1 c1, .slice a2 m2 c2, .slice a3 m3 c3, .slice none 0 0, .slice none 0 0, .slice none 0 0], Hp.rec_ b3 [.slice a0 m0 c0, .slice a1 m1 c1, .slice a2 m2 c2, .slice a3 m3 c3], Hp.own Mt.FB 1 (.slice a3 m3 c3) ds, Hp.rec_ b2 [.slice a0 m0 c0, .slice a1 m1 c1, .slice a2 m2 c2, .slice a3 m3 c3], Hp.own Mt.FZ 1 (.slice a0 m0 c0) (Mt.codesM c (Mt.ms0 c.n) cs), Hp.own Mt.FK 2 (.slice a1 m1 c1) ((Mt.stM c (Mt.ms0 c.n) cs).bl), Hp.own Mt.FB 1 (.slice a2 m2 c2) (Mt.certL c (Mt.stM c (Mt.ms0 c.n) cs)), P, Hp.rec_ b1 [.slice none 0 0, .slice none 0 0, .slice none 0 0, .slice none 0 0, .slice none 0 0, .slice none 0 0, .slice none 0 0]]) rfl) ?_
    rintro _ _ rfl
    refine Gx.val rfl rfl rfl (val_assign rfl rfl) ?_
    refine Gx.done ?_
    refine Gx.thenN ?_
    refine Gx.seq ?_
    refine Gx.region ?_
    refine Gx.val rfl rfl rfl (val_move rfl rfl) ?_
    refine Gx.val rfl rfl rfl (val_neq rfl rfl rfl) ?_
    refine Gx.done ?_
    refine Gx.thenN ?_
    refine Gx.decT rfl (by omega) ?_
    refine Gx.seq ?_
    refine Gx.region ?_
    refine Gx.val rfl rfl rfl (val_build rfl (qs := []) rfl rfl (fun w => by go_simp) (v := .agg #[.slice none 0 0, .slice none 0 0, .slice none 0 0, .slice none 0 0, .slice none 0 0, .slice none 0 0, .slice none 0 0])) ?_
    refine Gx.val rfl rfl rfl (val_move rfl rfl) ?_
    refine Gx.eff0 rfl rfl (eff_store rfl Tryd.ty37 rfl rfl (us := [.slice none 0 0, .slice none 0 0, .slice none 0 0, .slice none 0 0, .slice none 0 0, .slice none 0 0, .slice none 0 0]) rfl rfl rfl (k := 9) rfl (rfl) (vs' := [.slice none 0 0, .slice none 0 0, .slice none 0 0, .slice none 0 0, .slice none 0 0, .slice none 0 0, .slice none 0 0]) (rfl) (l' := [Hp.own Lg.FP 4 (.slice none 0 0) (paysB (Mt.stM c (Mt.ms0 c.n) cs).bl ds pays), Hp.rec_ b4 [.slice a0 m0 c0, .slice a1 m1 c1, .slice a2 m2 c2, .slice a3 m3 c3, .slice none 0 0, .slice none 0 0, .slice none 0 0], Hp.rec_ b3 [.slice a0 m0 c0, .slice a1 m1 c1, .slice a2 m2 c2, .slice a3 m3 c3], Hp.own Mt.FB 1 (.slice a3 m3 c3) ds, Hp.rec_ b2 [.slice a0 m0 c0, .slice a1 m1 c1, .slice a2 m2 c2, .slice a3 m3 c3], Hp.own Mt.FZ 1 (.slice a0 m0 c0) (Mt.codesM c (Mt.ms0 c.n) cs), Hp.own Mt.FK 2 (.slice a1 m1 c1) ((Mt.stM c (Mt.ms0 c.n) cs).bl), Hp.own Mt.FB 1 (.slice a2 m2 c2) (Mt.certL c (Mt.stM c (Mt.ms0 c.n) cs)), P, Hp.rec_ b1 [.slice none 0 0, .slice none 0 0, .slice none 0 0, .slice none 0 0, .slice none 0 0, .slice none 0 0, .slice none 0 0]]) rfl) ?_
    rintro _ _ rfl
    refine Gx.val rfl rfl rfl (val_assign rfl rfl) ?_
    refine Gx.done ?_
    refine Gx.thenN ?_
    refine Gx.ret ?_
    refine Gx.thenR ?_
    refine Gx.retC2d Tryd.results5 Tryd.ty37 rfl rfl (us := [.slice none 0 0, .slice none 0 0, .slice none 0 0, .slice none 0 0, .slice none 0 0, .slice none 0 0, .slice none 0 0]) rfl (k := 9) rfl rfl ?_
    exact ⟨_, by assumption, rfl⟩
  · refine Gx.slot (t := 18) (v := .int .i64 ((b : Nat) : Int)) rfl ?_
    have hbl : b < (Mt.stM c (Mt.ms0 c.n) cs).bl.length := by have := (lastB_lt ho).1; omega
    have hple := Chn.pathL_le (Mt.blsP (Mt.stM c (Mt.ms0 c.n) cs).bl) b
    have hpb : paysB (Mt.stM c (Mt.ms0 c.n) cs).bl ds pays = paidL pays (Chn.pathL (Mt.blsP (Mt.stM c (Mt.ms0 c.n) cs).bl) b) := by unfold paysB; rw [ho]
    refine Gx.region ?_
    refine Gx.val rfl rfl rfl (val_move rfl rfl) ?_
    refine Gx.val rfl rfl rfl (val_geq rfl rfl rfl) ?_
    refine Gx.done ?_
    refine Gx.thenN ?_
    refine Gx.decT rfl (by omega) ?_
    refine Gx.seq ?_
    refine Gx.region ?_
    refine Gx.val rfl rfl rfl (Val.cast (val_fieldAddr rfl Tryd.underlying61 rfl Tryd.ty30 rfl rfl) (v' := ptr b3 0) rfl) ?_
    refine Gx.val rfl rfl rfl (Val.cast (val_fieldAddr rfl Tryd.underlying30 rfl Tryd.ty27 rfl rfl) (v' := ptr b3 1) rfl) ?_
    refine Gx.val rfl rfl rfl (val_load rfl Tryd.ty27 rfl rfl (cell_rec (k := 1) rfl rfl)) ?_
    refine Gx.val rfl rfl rfl (val_move rfl rfl) ?_
    refine Gx.eff rfl rfl rfl (eff_callN (vs := [.slice a1 m1 c1, .int .i64 ((b : Nat) : Int)]) rfl Tryd.fn12 rfl (fun w H => path_q bd.okc hbl ((H.at_ (k := 5) rfl).sls (by omega)))) ?_
    rintro _ _ ⟨_, ⟨q, rfl, rfl⟩, rfl⟩
    refine Gx.norm (l' := [Hp.own Chn.SZ 1 (.slice q.1 q.2.1 q.2.2) (Chn.pathL (Mt.blsP (Mt.stM c (Mt.ms0 c.n) cs).bl) b), Hp.rec_ b4 [.slice a0 m0 c0, .slice a1 m1 c1, .slice a2 m2 c2, .slice a3 m3 c3, .slice none 0 0, .slice none 0 0, .slice none 0 0], Hp.rec_ b3 [.slice a0 m0 c0, .slice a1 m1 c1, .slice a2 m2 c2, .slice a3 m3 c3], Hp.own Mt.FB 1 (.slice a3 m3 c3) ds, Hp.rec_ b2 [.slice a0 m0 c0, .slice a1 m1 c1, .slice a2 m2 c2, .slice a3 m3 c3], Hp.own Mt.FZ 1 (.slice a0 m0 c0) (Mt.codesM c (Mt.ms0 c.n) cs), Hp.own Mt.FK 2 (.slice a1 m1 c1) ((Mt.stM c (Mt.ms0 c.n) cs).bl), Hp.own Mt.FB 1 (.slice a2 m2 c2) (Mt.certL c (Mt.stM c (Mt.ms0 c.n) cs)), P, Hp.rec_ b1 [.slice none 0 0, .slice none 0 0, .slice none 0 0, .slice none 0 0, .slice none 0 0, .slice none 0 0, .slice none 0 0]]) rfl ?_
    refine Gx.val rfl rfl rfl (val_move rfl rfl) ?_
    refine Gx.val rfl rfl rfl (val_extract rfl rfl rfl) ?_
    refine Gx.val rfl rfl rfl (val_extract rfl rfl rfl) ?_
    refine Gx.val rfl rfl rfl (val_assign rfl rfl) ?_
    refine Gx.val rfl rfl rfl (val_assign rfl rfl) ?_
    refine Gx.done ?_
    refine Gx.thenN ?_
    refine Gx.seq ?_
    refine Gx.ownNil Lg.FP 4 ?_
    refine Gx.region ?_
    refine Gx.val rfl rfl rfl (val_move rfl rfl) ?_
    refine Gx.val rfl rfl rfl (val_len rfl Tryd.underlying63 rfl (len_own (k := 1) rfl)) ?_
    refine Gx.val rfl rfl rfl (val_move rfl rfl) ?_
    refine Gx.done ?_
    refine Gx.thenN ?_
    refine Gx.block ?_
    refine Gx.front 10 rfl ?_
    refine Gx.front 10 rfl ?_
    refine Gx.front 10 rfl ?_
    refine Gx.front 10 rfl ?_
    refine Gx.front 10 rfl ?_
    refine Gx.front 10 rfl ?_
    refine Gx.front 10 rfl ?_
    refine Gx.front 10 rfl ?_
    refine Gx.front 9 rfl ?_
    refine Gx.front 10 rfl ?_
    refine Gx.front 10 rfl ?_
    refine Gx.loop (ι := Nat × Value) (fun ξ => (ξ.1 ≤ (Chn.pathL (Mt.blsP (Mt.stM c (Mt.ms0 c.n) cs).bl) b).length) ∧ (IsS ξ.2)) (fun ξ => [(4, mv), (5, pv), (12, ptr b1 0), (16, ptr b3 0), (17, ptr b4 0), (51, .slice q.1 q.2.1 q.2.2), (52, .int .i64 (((Chn.pathL (Mt.blsP (Mt.stM c (Mt.ms0 c.n) cs).bl) b).length : Nat) : Int)), (53, .int .i64 ((ξ.1 : Nat) : Int))]) (fun ξ => [Hp.own Lg.FP 4 ξ.2 (paidL pays ((Chn.pathL (Mt.blsP (Mt.stM c (Mt.ms0 c.n) cs).bl) b).take ξ.1)), Hp.rec_ b4 [.slice a0 m0 c0, .slice a1 m1 c1, .slice a2 m2 c2, .slice a3 m3 c3, ξ.2, .slice none 0 0, .slice none 0 0], Hp.own Chn.SZ 1 (.slice q.1 q.2.1 q.2.2) (Chn.pathL (Mt.blsP (Mt.stM c (Mt.ms0 c.n) cs).bl) b), Hp.rec_ b3 [.slice a0 m0 c0, .slice a1 m1 c1, .slice a2 m2 c2, .slice a3 m3 c3], Hp.own Mt.FB 1 (.slice a3 m3 c3) ds, Hp.rec_ b2 [.slice a0 m0 c0, .slice a1 m1 c1, .slice a2 m2 c2, .slice a3 m3 c3], Hp.own Mt.FZ 1 (.slice a0 m0 c0) (Mt.codesM c (Mt.ms0 c.n) cs), Hp.own Mt.FK 2 (.slice a1 m1 c1) ((Mt.stM c (Mt.ms0 c.n) cs).bl), Hp.own Mt.FB 1 (.slice a2 m2 c2) (Mt.certL c (Mt.stM c (Mt.ms0 c.n) cs)), P, Hp.rec_ b1 [.slice none 0 0, .slice none 0 0, .slice none 0 0, .slice none 0 0, .slice none 0 0, .slice none 0 0, .slice none 0 0]]) (fun ξ => (Chn.pathL (Mt.blsP (Mt.stM c (Mt.ms0 c.n) cs).bl) b).length - ξ.1) (0, (.slice none 0 0)) ⟨by first | omega | (dsimp only; omega), ⟨none, 0, 0, rfl⟩⟩ ((.cons rfl (.cons rfl (.cons rfl (.cons rfl (.cons rfl (.cons rfl (.cons rfl (.cons rfl .nil))))))))) rfl ?_
    rintro ⟨i, qv⟩ ⟨hi, hiqv⟩
    dsimp only at hi hiqv
    refine Gx.know (m' := [(4, mv), (5, pv), (12, ptr b1 0), (16, ptr b3 0), (17, ptr b4 0), (51, .slice q.1 q.2.1 q.2.2), (52, .int .i64 (((Chn.pathL (Mt.blsP (Mt.stM c (Mt.ms0 c.n) cs).bl) b).length : Nat) : Int)), (53, .int .i64 ((i : Nat) : Int))]) (.cons rfl (.cons rfl (.cons rfl (.cons rfl (.cons rfl (.cons rfl (.cons rfl (.cons rfl .nil)))))))) (Gx.norm (l' := [Hp.own Lg.FP 4 qv (paidL pays ((Chn.pathL (Mt.blsP (Mt.stM c (Mt.ms0 c.n) cs).bl) b).take i)), Hp.rec_ b4 [.slice a0 m0 c0, .slice a1 m1 c1, .slice a2 m2 c2, .slice a3 m3 c3, qv, .slice none 0 0, .slice none 0 0], Hp.own Chn.SZ 1 (.slice q.1 q.2.1 q.2.2) (Chn.pathL (Mt.blsP (Mt.stM c (Mt.ms0 c.n) cs).bl) b), Hp.rec_ b3 [.slice a0 m0 c0, .slice a1 m1 c1, .slice a2 m2 c2, .slice a3 m3 c3], Hp.own Mt.FB 1 (.slice a3 m3 c3) ds, Hp.rec_ b2 [.slice a0 m0 c0, .slice a1 m1 c1, .slice a2 m2 c2, .slice a3 m3 c3], Hp.own Mt.FZ 1 (.slice a0 m0 c0) (Mt.codesM c (Mt.ms0 c.n) cs), Hp.own Mt.FK 2 (.slice a1 m1 c1) ((Mt.stM c (Mt.ms0 c.n) cs).bl), Hp.own Mt.FB 1 (.slice a2 m2 c2) (Mt.certL c (Mt.stM c (Mt.ms0 c.n) cs)), P, Hp.rec_ b1 [.slice none 0 0, .slice none 0 0, .slice none 0 0, .slice none 0 0, .slice none 0 0, .slice none 0 0, .slice none 0 0]]) rfl ?_)
    have hpt := paid_len hsz ((Chn.pathL (Mt.blsP (Mt.stM c (Mt.ms0 c.n) cs).bl) b).take i)
    have hpt2 : ((Chn.pathL (Mt.blsP (Mt.stM c (Mt.ms0 c.n) cs).bl) b).take i).length ≤ 40 := by rw [List.length_take]; omega
    have hpt3 : (paidL pays ((Chn.pathL (Mt.blsP (Mt.stM c (Mt.ms0 c.n) cs).bl) b).take i)).length ≤ 40 * 1048576 := Nat.le_trans hpt (Nat.mul_le_mul_right _ hpt2)
    refine Gx.seq ?_
    refine Gx.region ?_
    refine Gx.val rfl rfl rfl (val_lss rfl rfl rfl) ?_
    refine Gx.done ?_
    refine Gx.thenN ?_
    refine Gx.seq ?_
    refine Gx.dec rfl (fun h5 => ?_) (fun h5 => ?_)
    · refine Gx.skip ?_
      refine Gx.thenN ?_
      refine Gx.seq ?_
      refine Gx.block ?_
      refine Gx.seq ?_
      refine Gx.region ?_
      obtain ⟨x6, hx6⟩ := get_of_lt (xs := (Chn.pathL (Mt.blsP (Mt.stM c (Mt.ms0 c.n) cs).bl) b)) (k := i) (by first | omega | (simp; omega))
      refine Gx.val rfl rfl rfl (val_ixa rfl Tryd.underlying63 Tryd.ty3 rfl rfl (j := i) (rfl) (reach_own (k := 2) rfl hx6)) ?_
      refine Gx.val rfl rfl rfl (val_load rfl Tryd.ty3 rfl rfl (cell_own (i := 0) (k := 2) rfl hx6 rfl)) ?_
      refine Gx.val rfl rfl rfl (val_assign rfl rfl) ?_
      refine Gx.done ?_
      refine Gx.thenN ?_
      refine Gx.seq ?_
      obtain ⟨kk, hkk⟩ := path_nat hx6
      subst hkk
      have hxk := hx6
      refine Gx.slot (t := 22) (v := .int .i64 ((kk : Nat) : Int)) rfl ?_
      refine Gx.region ?_
      refine Gx.val rfl rfl rfl (val_move rfl rfl) ?_
      refine Gx.val rfl rfl rfl (val_move rfl rfl) ?_
      refine Gx.val rfl rfl rfl (val_len rfl Tryd.underlying25 rfl (len_base hp)) ?_
      refine Gx.val rfl rfl rfl (val_lss rfl rfl rfl) ?_
      refine Gx.done ?_
      refine Gx.thenN ?_
      refine Gx.dec rfl (fun h7 => ?_) (fun h7 => ?_)
      · obtain ⟨rk, hrk⟩ := get_of_lt (xs := pays) (k := kk) (by omega)
        have hrk9 := hsz _ (List.mem_of_getElem? hrk)
        refine Gx.regionO (fun j => false) 6 [0, 1, 2, 3, 4, 5] (fun _ => [Hp.own Lg.FP 4 qv (paidL pays ((Chn.pathL (Mt.blsP (Mt.stM c (Mt.ms0 c.n) cs).bl) b).take i)), Hp.rec_ b4 [.slice a0 m0 c0, .slice a1 m1 c1, .slice a2 m2 c2, .slice a3 m3 c3, qv, .slice none 0 0, .slice none 0 0], Hp.own Chn.SZ 1 (.slice q.1 q.2.1 q.2.2) (Chn.pathL (Mt.blsP (Mt.stM c (Mt.ms0 c.n) cs).bl) b), Hp.rec_ b3 [.slice a0 m0 c0, .slice a1 m1 c1, .slice a2 m2 c2, .slice a3 m3 c3], Hp.own Mt.FB 1 (.slice a3 m3 c3) ds, Hp.rec_ b2 [.slice a0 m0 c0, .slice a1 m1 c1, .slice a2 m2 c2, .slice a3 m3 c3], Hp.own Mt.FZ 1 (.slice a0 m0 c0) (Mt.codesM c (Mt.ms0 c.n) cs), Hp.own Mt.FK 2 (.slice a1 m1 c1) ((Mt.stM c (Mt.ms0 c.n) cs).bl), Hp.own Mt.FB 1 (.slice a2 m2 c2) (Mt.certL c (Mt.stM c (Mt.ms0 c.n) cs)), P, Hp.rec_ b1 [.slice none 0 0, .slice none 0 0, .slice none 0 0, .slice none 0 0, .slice none 0 0, .slice none 0 0, .slice none 0 0]]) Tryd.mixed (by kernel_rfl) rfl ?_
        refine Gw.val rfl rfl rfl rfl rfl (fun us => Val.cast (val_fieldAddr rfl Tryd.underlying37 rfl Tryd.ty34 rfl rfl) (v' := ptr b4 4) rfl) ?_
        refine Gw.val0 rfl rfl rfl (by kernel_rfl) rfl rfl (val_load rfl Tryd.ty34 rfl rfl (cell_rec (k := 1) rfl rfl)) ?_
        refine Gw.val rfl rfl rfl rfl rfl (fun us => val_move rfl rfl) ?_
        refine Gw.val rfl rfl rfl rfl rfl (fun us => val_move rfl rfl) ?_
        refine Gw.val rfl rfl rfl rfl rfl (fun us => val_ixa rfl Tryd.underlying25 Tryd.ty34 rfl rfl (j := kk) (rfl) (reach_base hp hrk)) ?_
        refine Gw.val rfl rfl rfl rfl rfl (fun us => val_load rfl Tryd.ty34 rfl rfl (cell_base (i := 0) hp hrk rfl)) ?_
        have hr8 := hrows _ (List.mem_of_getElem? hrk)
        refine Gw.done ?_
        refine Gx.norm (l' := [Hp.own Lg.FP 4 qv (paidL pays ((Chn.pathL (Mt.blsP (Mt.stM c (Mt.ms0 c.n) cs).bl) b).take i)), Hp.rec_ b4 [.slice a0 m0 c0, .slice a1 m1 c1, .slice a2 m2 c2, .slice a3 m3 c3, qv, .slice none 0 0, .slice none 0 0], Hp.own Chn.SZ 1 (.slice q.1 q.2.1 q.2.2) (Chn.pathL (Mt.blsP (Mt.stM c (Mt.ms0 c.n) cs).bl) b), Hp.rec_ b3 [.slice a0 m0 c0, .slice a1 m1 c1, .slice a2 m2 c2, .slice a3 m3 c3], Hp.own Mt.FB 1 (.slice a3 m3 c3) ds, Hp.rec_ b2 [.slice a0 m0 c0, .slice a1 m1 c1, .slice a2 m2 c2, .slice a3 m3 c3], Hp.own Mt.FZ 1 (.slice a0 m0 c0) (Mt.codesM c (Mt.ms0 c.n) cs), Hp.own Mt.FK 2 (.slice a1 m1 c1) ((Mt.stM c (Mt.ms0 c.n) cs).bl), Hp.own Mt.FB 1 (.slice a2 m2 c2) (Mt.certL c (Mt.stM c (Mt.ms0 c.n) cs)), P, Hp.rec_ b1 [.slice none 0 0, .slice none 0 0, .slice none 0 0, .slice none 0 0, .slice none 0 0, .slice none 0 0, .slice none 0 0]]) rfl ?_
        refine Gx.eff rfl rfl rfl (eff_pushAll (k := 0) (ys := rk.xs) rfl Lg.Tryd.eP Lg.FP_len Lg.FP_one rfl rfl (fun w H => hr8.below H.below) rfl (by omega) (by omega)) ?_
        rintro v9 _ ⟨hiv9, rfl⟩
        refine Gx.norm (l' := [Hp.own Lg.FP 4 v9 ((paidL pays ((Chn.pathL (Mt.blsP (Mt.stM c (Mt.ms0 c.n) cs).bl) b).take i)) ++ rk.xs), Hp.rec_ b4 [.slice a0 m0 c0, .slice a1 m1 c1, .slice a2 m2 c2, .slice a3 m3 c3, qv, .slice none 0 0, .slice none 0 0], Hp.own Chn.SZ 1 (.slice q.1 q.2.1 q.2.2) (Chn.pathL (Mt.blsP (Mt.stM c (Mt.ms0 c.n) cs).bl) b), Hp.rec_ b3 [.slice a0 m0 c0, .slice a1 m1 c1, .slice a2 m2 c2, .slice a3 m3 c3], Hp.own Mt.FB 1 (.slice a3 m3 c3) ds, Hp.rec_ b2 [.slice a0 m0 c0, .slice a1 m1 c1, .slice a2 m2 c2, .slice a3 m3 c3], Hp.own Mt.FZ 1 (.slice a0 m0 c0) (Mt.codesM c (Mt.ms0 c.n) cs), Hp.own Mt.FK 2 (.slice a1 m1 c1) ((Mt.stM c (Mt.ms0 c.n) cs).bl), Hp.own Mt.FB 1 (.slice a2 m2 c2) (Mt.certL c (Mt.stM c (Mt.ms0 c.n) cs)), P, Hp.rec_ b1 [.slice none 0 0, .slice none 0 0, .slice none 0 0, .slice none 0 0, .slice none 0 0, .slice none 0 0, .slice none 0 0]]) rfl ?_
        refine Gx.val rfl rfl rfl (Val.cast (val_fieldAddr rfl Tryd.underlying37 rfl Tryd.ty34 rfl rfl) (v' := ptr b4 4) rfl) ?_
        refine Gx.eff0 rfl rfl (eff_store rfl Tryd.ty34 rfl rfl (us := [v9]) hiv9.cellsL rfl hiv9.all (k := 1) rfl (rfl) (vs' := [.slice a0 m0 c0, .slice a1 m1 c1, .slice a2 m2 c2, .slice a3 m3 c3, v9, .slice none 0 0, .slice none 0 0]) (rfl) (l' := [Hp.own Lg.FP 4 v9 ((paidL pays ((Chn.pathL (Mt.blsP (Mt.stM c (Mt.ms0 c.n) cs).bl) b).take i)) ++ rk.xs), Hp.rec_ b4 [.slice a0 m0 c0, .slice a1 m1 c1, .slice a2 m2 c2, .slice a3 m3 c3, v9, .slice none 0 0, .slice none 0 0], Hp.own Chn.SZ 1 (.slice q.1 q.2.1 q.2.2) (Chn.pathL (Mt.blsP (Mt.stM c (Mt.ms0 c.n) cs).bl) b), Hp.rec_ b3 [.slice a0 m0 c0, .slice a1 m1 c1, .slice a2 m2 c2, .slice a3 m3 c3], Hp.own Mt.FB 1 (.slice a3 m3 c3) ds, Hp.rec_ b2 [.slice a0 m0 c0, .slice a1 m1 c1, .slice a2 m2 c2, .slice a3 m3 c3], Hp.own Mt.FZ 1 (.slice a0 m0 c0) (Mt.codesM c (Mt.ms0 c.n) cs), Hp.own Mt.FK 2 (.slice a1 m1 c1) ((Mt.stM c (Mt.ms0 c.n) cs).bl), Hp.own Mt.FB 1 (.slice a2 m2 c2) (Mt.certL c (Mt.stM c (Mt.ms0 c.n) cs)), P, Hp.rec_ b1 [.slice none 0 0, .slice none 0 0, .slice none 0 0, .slice none 0 0, .slice none 0 0, .slice none 0 0, .slice none 0 0]]) rfl) ?_
        rintro _ _ rfl
        refine Gx.done ?_
        refine Gx.blkN ?_
        refine Gx.thenN ?_
        refine Gx.region ?_
        refine Gx.val rfl rfl rfl (val_add rfl rfl rfl (r := ((i + 1 : Nat) : Int)) (w64 (by omega) (by omega))) ?_
        refine Gx.val rfl rfl rfl (val_move rfl rfl) ?_
        refine Gx.done ?_
        refine Gx.thenN ?_
        refine Gx.norm (l' := [Hp.own Lg.FP 4 v9 (paidL pays ((Chn.pathL (Mt.blsP (Mt.stM c (Mt.ms0 c.n) cs).bl) b).take (i + 1))), Hp.rec_ b4 [.slice a0 m0 c0, .slice a1 m1 c1, .slice a2 m2 c2, .slice a3 m3 c3, v9, .slice none 0 0, .slice none 0 0], Hp.own Chn.SZ 1 (.slice q.1 q.2.1 q.2.2) (Chn.pathL (Mt.blsP (Mt.stM c (Mt.ms0 c.n) cs).bl) b), Hp.rec_ b3 [.slice a0 m0 c0, .slice a1 m1 c1, .slice a2 m2 c2, .slice a3 m3 c3], Hp.own Mt.FB 1 (.slice a3 m3 c3) ds, Hp.rec_ b2 [.slice a0 m0 c0, .slice a1 m1 c1, .slice a2 m2 c2, .slice a3 m3 c3], Hp.own Mt.FZ 1 (.slice a0 m0 c0) (Mt.codesM c (Mt.ms0 c.n) cs), Hp.own Mt.FK 2 (.slice a1 m1 c1) ((Mt.stM c (Mt.ms0 c.n) cs).bl), Hp.own Mt.FB 1 (.slice a2 m2 c2) (Mt.certL c (Mt.stM c (Mt.ms0 c.n) cs)), P, Hp.rec_ b1 [.slice none 0 0, .slice none 0 0, .slice none 0 0, .slice none 0 0, .slice none 0 0, .slice none 0 0, .slice none 0 0]]) (by rw [paid_snoc hxk, Int.toNat_natCast, paysAt_in hrk] <;> rfl) ?_
        exact Gx.round (i + 1, v9) ⟨by first | omega | (dsimp only; omega), hiv9⟩ (by first | omega | (dsimp only; omega)) ((.cons rfl (.cons rfl (.cons rfl (.cons rfl (.cons rfl (.cons rfl (.cons rfl (.cons rfl .nil))))))))) rfl
      · refine Gx.skip ?_
        refine Gx.blkN ?_
        refine Gx.thenN ?_
        refine Gx.region ?_
        refine Gx.val rfl rfl rfl (val_add rfl rfl rfl (r := ((i + 1 : Nat) : Int)) (w64 (by omega) (by omega))) ?_
        refine Gx.val rfl rfl rfl (val_move rfl rfl) ?_
        refine Gx.done ?_
        refine Gx.thenN ?_
        refine Gx.norm (l' := [Hp.own Lg.FP 4 qv (paidL pays ((Chn.pathL (Mt.blsP (Mt.stM c (Mt.ms0 c.n) cs).bl) b).take (i + 1))), Hp.rec_ b4 [.slice a0 m0 c0, .slice a1 m1 c1, .slice a2 m2 c2, .slice a3 m3 c3, qv, .slice none 0 0, .slice none 0 0], Hp.own Chn.SZ 1 (.slice q.1 q.2.1 q.2.2) (Chn.pathL (Mt.blsP (Mt.stM c (Mt.ms0 c.n) cs).bl) b), Hp.rec_ b3 [.slice a0 m0 c0, .slice a1 m1 c1, .slice a2 m2 c2, .slice a3 m3 c3], Hp.own Mt.FB 1 (.slice a3 m3 c3) ds, Hp.rec_ b2 [.slice a0 m0 c0, .slice a1 m1 c1, .slice a2 m2 c2, .slice a3 m3 c3], Hp.own Mt.FZ 1 (.slice a0 m0 c0) (Mt.codesM c (Mt.ms0 c.n) cs), Hp.own Mt.FK 2 (.slice a1 m1 c1) ((Mt.stM c (Mt.ms0 c.n) cs).bl), Hp.own Mt.FB 1 (.slice a2 m2 c2) (Mt.certL c (Mt.stM c (Mt.ms0 c.n) cs)), P, Hp.rec_ b1 [.slice none 0 0, .slice none 0 0, .slice none 0 0, .slice none 0 0, .slice none 0 0, .slice none 0 0, .slice none 0 0]]) (by rw [paid_snoc hxk, Int.toNat_natCast, paysAt_out (by omega), List.append_nil] <;> rfl) ?_
        exact Gx.round (i + 1, qv) ⟨by first | omega | (dsimp only; omega), hiqv⟩ (by first | omega | (dsimp only; omega)) ((.cons rfl (.cons rfl (.cons rfl (.cons rfl (.cons rfl (.cons rfl (.cons rfl (.cons rfl .nil))))))))) rfl
    · refine Gx.exit ?_
      refine Gx.thenE ?_
      refine Gx.thenE ?_
      refine Gx.blkE ?_
      refine Gx.thenN ?_
      refine Gx.seq ?_
      refine Gx.seq ?_
      obtain rfl : i = (Chn.pathL (Mt.blsP (Mt.stM c (Mt.ms0 c.n) cs).bl) b).length := by omega
      rw [List.take_length] at hpt3
      refine Gx.norm (l' := [Hp.own Lg.FP 4 qv (paysB (Mt.stM c (Mt.ms0 c.n) cs).bl ds pays), Hp.rec_ b4 [.slice a0 m0 c0, .slice a1 m1 c1, .slice a2 m2 c2, .slice a3 m3 c3, qv, .slice none 0 0, .slice none 0 0], Hp.own Chn.SZ 1 (.slice q.1 q.2.1 q.2.2) (Chn.pathL (Mt.blsP (Mt.stM c (Mt.ms0 c.n) cs).bl) b), Hp.rec_ b3 [.slice a0 m0 c0, .slice a1 m1 c1, .slice a2 m2 c2, .slice a3 m3 c3], Hp.own Mt.FB 1 (.slice a3 m3 c3) ds, Hp.rec_ b2 [.slice a0 m0 c0, .slice a1 m1 c1, .slice a2 m2 c2, .slice a3 m3 c3], Hp.own Mt.FZ 1 (.slice a0 m0 c0) (Mt.codesM c (Mt.ms0 c.n) cs), Hp.own Mt.FK 2 (.slice a1 m1 c1) ((Mt.stM c (Mt.ms0 c.n) cs).bl), Hp.own Mt.FB 1 (.slice a2 m2 c2) (Mt.certL c (Mt.stM c (Mt.ms0 c.n) cs)), P, Hp.rec_ b1 [.slice none 0 0, .slice none 0 0, .slice none 0 0, .slice none 0 0, .slice none 0 0, .slice none 0 0, .slice none 0 0]]) (by rw [List.take_length, hpb] <;> rfl) ?_
      obtain ⟨sa10, sn11, sc12, rfl⟩ := hiqv
      refine Gx.region ?_
      refine Gx.val rfl rfl rfl (Val.cast (val_fieldAddr rfl Tryd.underlying37 rfl Tryd.ty34 rfl rfl) (v' := ptr b4 4) rfl) ?_
      refine Gx.val rfl rfl rfl (val_load rfl Tryd.ty34 rfl rfl (cell_rec (k := 1) rfl rfl)) ?_
      refine Gx.val rfl rfl rfl (val_len rfl Tryd.underlying34 rfl (len_own (k := 0) rfl)) ?_
      refine Gx.val rfl rfl rfl (val_gtr rfl rfl rfl) ?_
      refine Gx.done ?_
      refine Gx.thenN ?_
      refine Gx.decF rfl (by omega) ?_
      refine Gx.skip ?_
      refine Gx.thenN ?_
      refine Gx.seq ?_
      refine Gx.seq ?_
      refine Gx.region ?_
      refine Gx.val rfl rfl rfl (val_move rfl rfl) ?_
      refine Gx.val rfl rfl rfl (Val.cast (val_fieldAddr rfl Tryd.underlying37 rfl Tryd.ty34 rfl rfl) (v' := ptr b4 4) rfl) ?_
      refine Gx.val rfl rfl rfl (val_load rfl Tryd.ty34 rfl rfl (cell_rec (k := 1) rfl rfl)) ?_
      refine Gx.eff rfl rfl rfl (eff_callE (vs := [mv, .slice sa10 sn11 sc12]) rfl Tryd.fn13 rfl (R := fun u => ∃ z : Int, u = .tuple #[.slice none 0 0, .slice none 0 0, .int .i64 z] ∧ z ≠ 0) (fun w H => Lg.play_no (hm.below H.below) ((H.at_ (k := 0) rfl).sls (by omega)) hno)) ?_
      rintro _ _ ⟨⟨zz, rfl, hzz⟩, rfl⟩
      refine Gx.val rfl rfl rfl (val_move rfl rfl) ?_
      refine Gx.val rfl rfl rfl (val_extract rfl rfl rfl) ?_
      refine Gx.val rfl rfl rfl (val_extract rfl rfl rfl) ?_
      refine Gx.val rfl rfl rfl (val_extract rfl rfl rfl) ?_
      refine Gx.val rfl rfl rfl (Val.cast (val_fieldAddr rfl Tryd.underlying37 rfl Tryd.ty35 rfl rfl) (v' := ptr b4 6) rfl) ?_
      refine Gx.eff0 rfl rfl (eff_store rfl Tryd.ty35 rfl rfl (us := [.slice none 0 0]) rfl rfl rfl (k := 1) rfl (rfl) (vs' := [.slice a0 m0 c0, .slice a1 m1 c1, .slice a2 m2 c2, .slice a3 m3 c3, .slice sa10 sn11 sc12, .slice none 0 0, .slice none 0 0]) (rfl) (l' := [Hp.own Lg.FP 4 (.slice sa10 sn11 sc12) (paysB (Mt.stM c (Mt.ms0 c.n) cs).bl ds pays), Hp.rec_ b4 [.slice a0 m0 c0, .slice a1 m1 c1, .slice a2 m2 c2, .slice a3 m3 c3, .slice sa10 sn11 sc12, .slice none 0 0, .slice none 0 0], Hp.own Chn.SZ 1 (.slice q.1 q.2.1 q.2.2) (Chn.pathL (Mt.blsP (Mt.stM c (Mt.ms0 c.n) cs).bl) b), Hp.rec_ b3 [.slice a0 m0 c0, .slice a1 m1 c1, .slice a2 m2 c2, .slice a3 m3 c3], Hp.own Mt.FB 1 (.slice a3 m3 c3) ds, Hp.rec_ b2 [.slice a0 m0 c0, .slice a1 m1 c1, .slice a2 m2 c2, .slice a3 m3 c3], Hp.own Mt.FZ 1 (.slice a0 m0 c0) (Mt.codesM c (Mt.ms0 c.n) cs), Hp.own Mt.FK 2 (.slice a1 m1 c1) ((Mt.stM c (Mt.ms0 c.n) cs).bl), Hp.own Mt.FB 1 (.slice a2 m2 c2) (Mt.certL c (Mt.stM c (Mt.ms0 c.n) cs)), P, Hp.rec_ b1 [.slice none 0 0, .slice none 0 0, .slice none 0 0, .slice none 0 0, .slice none 0 0, .slice none 0 0, .slice none 0 0]]) rfl) ?_
      rintro _ _ rfl
      refine Gx.val rfl rfl rfl (Val.cast (val_fieldAddr rfl Tryd.underlying37 rfl Tryd.ty26 rfl rfl) (v' := ptr b4 5) rfl) ?_
      refine Gx.eff0 rfl rfl (eff_store rfl Tryd.ty26 rfl rfl (us := [.slice none 0 0]) rfl rfl rfl (k := 1) rfl (rfl) (vs' := [.slice a0 m0 c0, .slice a1 m1 c1, .slice a2 m2 c2, .slice a3 m3 c3, .slice sa10 sn11 sc12, .slice none 0 0, .slice none 0 0]) (rfl) (l' := [Hp.own Lg.FP 4 (.slice sa10 sn11 sc12) (paysB (Mt.stM c (Mt.ms0 c.n) cs).bl ds pays), Hp.rec_ b4 [.slice a0 m0 c0, .slice a1 m1 c1, .slice a2 m2 c2, .slice a3 m3 c3, .slice sa10 sn11 sc12, .slice none 0 0, .slice none 0 0], Hp.own Chn.SZ 1 (.slice q.1 q.2.1 q.2.2) (Chn.pathL (Mt.blsP (Mt.stM c (Mt.ms0 c.n) cs).bl) b), Hp.rec_ b3 [.slice a0 m0 c0, .slice a1 m1 c1, .slice a2 m2 c2, .slice a3 m3 c3], Hp.own Mt.FB 1 (.slice a3 m3 c3) ds, Hp.rec_ b2 [.slice a0 m0 c0, .slice a1 m1 c1, .slice a2 m2 c2, .slice a3 m3 c3], Hp.own Mt.FZ 1 (.slice a0 m0 c0) (Mt.codesM c (Mt.ms0 c.n) cs), Hp.own Mt.FK 2 (.slice a1 m1 c1) ((Mt.stM c (Mt.ms0 c.n) cs).bl), Hp.own Mt.FB 1 (.slice a2 m2 c2) (Mt.certL c (Mt.stM c (Mt.ms0 c.n) cs)), P, Hp.rec_ b1 [.slice none 0 0, .slice none 0 0, .slice none 0 0, .slice none 0 0, .slice none 0 0, .slice none 0 0, .slice none 0 0]]) rfl) ?_
      rintro _ _ rfl
      refine Gx.val rfl rfl rfl (val_assign rfl rfl) ?_
      refine Gx.done ?_
      refine Gx.thenN ?_
      refine Gx.seq ?_
      refine Gx.region ?_
      refine Gx.val rfl rfl rfl (val_move rfl rfl) ?_
      refine Gx.val rfl rfl rfl (val_neq rfl rfl rfl) ?_
      refine Gx.done ?_
      refine Gx.thenN ?_
      refine Gx.decT rfl (by omega) ?_
      refine Gx.seq ?_
      refine Gx.region ?_
      refine Gx.val rfl rfl rfl (val_build rfl (qs := []) rfl rfl (fun w => by go_simp) (v := .agg #[.slice none 0 0, .slice none 0 0, .slice none 0 0, .slice none 0 0, .slice none 0 0, .slice none 0 0, .slice none 0 0])) ?_
      refine Gx.val rfl rfl rfl (val_move rfl rfl) ?_
      refine Gx.eff0 rfl rfl (eff_store rfl Tryd.ty37 rfl rfl (us := [.slice none 0 0, .slice none 0 0, .slice none 0 0, .slice none 0 0, .slice none 0 0, .slice none 0 0, .slice none 0 0]) rfl rfl rfl (k := 10) rfl (rfl) (vs' := [.slice none 0 0, .slice none 0 0, .slice none 0 0, .slice none 0 0, .slice none 0 0, .slice none 0 0, .slice none 0 0]) (rfl) (l' := [Hp.own Lg.FP 4 (.slice sa10 sn11 sc12) (paysB (Mt.stM c (Mt.ms0 c.n) cs).bl ds pays), Hp.rec_ b4 [.slice a0 m0 c0, .slice a1 m1 c1, .slice a2 m2 c2, .slice a3 m3 c3, .slice sa10 sn11 sc12, .slice none 0 0, .slice none 0 0], Hp.own Chn.SZ 1 (.slice q.1 q.2.1 q.2.2) (Chn.pathL (Mt.blsP (Mt.stM c (Mt.ms0 c.n) cs).bl) b), Hp.rec_ b3 [.slice a0 m0 c0, .slice a1 m1 c1, .slice a2 m2 c2, .slice a3 m3 c3], Hp.own Mt.FB 1 (.slice a3 m3 c3) ds, Hp.rec_ b2 [.slice a0 m0 c0, .slice a1 m1 c1, .slice a2 m2 c2, .slice a3 m3 c3], Hp.own Mt.FZ 1 (.slice a0 m0 c0) (Mt.codesM c (Mt.ms0 c.n) cs), Hp.own Mt.FK 2 (.slice a1 m1 c1) ((Mt.stM c (Mt.ms0 c.n) cs).bl), Hp.own Mt.FB 1 (.slice a2 m2 c2) (Mt.certL c (Mt.stM c (Mt.ms0 c.n) cs)), P, Hp.rec_ b1 [.slice none 0 0, .slice none 0 0, .slice none 0 0, .slice none 0 0, .slice none 0 0, .slice none 0 0, .slice none 0 0]]) rfl) ?_
      rintro _ _ rfl
      refine Gx.val rfl rfl rfl (val_assign rfl rfl) ?_
      refine Gx.done ?_
      refine Gx.thenN ?_
      refine Gx.ret ?_
      refine Gx.thenR ?_
      refine Gx.retC2d Tryd.results5 Tryd.ty37 rfl rfl (us := [.slice none 0 0, .slice none 0 0, .slice none 0 0, .slice none 0 0, .slice none 0 0, .slice none 0 0, .slice none 0 0]) rfl (k := 10) rfl rfl ?_
      exact ⟨_, by assumption, rfl⟩

set_option maxHeartbeats 1000000 in
theorem book_yes {W : World} {c : Mt.MC} {f : Nat} {sv mv pv : Value} {cs : List Mt.Sy} {money : List Int} {pays : List Row} {ds : List Bool} (hg : Lg.HG W) (hs : SlS Mt.FM 5 W sv cs) (h1n : 1 ≤ c.n) (h7n : c.n ≤ 7) (hcl : cs.length ≤ 120) (hf : f ≤ (c.n - 1) / 3) (hfn : c.need + f = c.n) (hLn : c.L >>> c.n = 0) (hL : c.L < 4294967296) (hm : SlS Lg.FM 1 W mv money) (hp : SlS FW 1 W pv pays) (hrows : ∀ r ∈ pays, SlS Lg.FP 4 W (.slice r.a r.xs.length r.c) r.xs) (hsz : ∀ r ∈ pays, r.xs.length ≤ 1048576) (hds : Chn.IsDec (Mt.blsP (Mt.stM c (Mt.ms0 c.n) cs).bl) (Mt.certL c (Mt.stM c (Mt.ms0 c.n) cs)) (Mt.stM c (Mt.ms0 c.n) cs).bl.length ds) (hbig : (paysB (Mt.stM c (Mt.ms0 c.n) cs).bl ds pays).length ≤ 60) (hok : Lg.OkL money (paysB (Mt.stM c (Mt.ms0 c.n) cs).bl ds pays).length) :
    Calls Tryd.prog 5 #[.int .i64 ((c.n : Nat) : Int), .int .i64 ((f : Nat) : Int), .int .u32 ((c.L : Nat) : Int), sv, mv, pv] W fun e w' => ∃ v, e = .returned v ∧ (∃ (cv bv wv dv qv zv av : Value), v = .tuple #[.agg #[cv, bv, wv, dv, qv, zv, av], .int .i64 0] ∧ SlS Mt.FZ 1 w' cv (Mt.codesM c (Mt.ms0 c.n) cs) ∧ SlS Mt.FK 2 w' bv (Mt.stM c (Mt.ms0 c.n) cs).bl ∧ SlS Mt.FB 1 w' wv (Mt.certL c (Mt.stM c (Mt.ms0 c.n) cs)) ∧ SlS Mt.FB 1 w' dv ds ∧ SlS Lg.FP 4 w' qv (paysB (Mt.stM c (Mt.ms0 c.n) cs).bl ds pays) ∧ SlS Lg.FZ 1 w' zv (Lg.codesL (Lg.start0 money) (paysB (Mt.stM c (Mt.ms0 c.n) cs).bl ds pays)) ∧ SlS Lg.FA 2 w' av (Lg.accsL (Lg.start0 money) (paysB (Mt.stM c (Mt.ms0 c.n) cs).bl ds pays))) ∧ Below W.heap.size W w' := by
  have ok : Mt.OkM c := ⟨h7n, by omega, hL⟩
  have bd := Mt.BdM.at_ ok cs
  have hb40 := bd.b40
  have hdl : ds.length = (Mt.stM c (Mt.ms0 c.n) cs).bl.length := by rw [hds.1, List.length_map]
  have hcdl : (Mt.codesM c (Mt.ms0 c.n) cs).length = cs.length := Mt.codesM_len ..
  have hp9 := sls_bd hp
  refine calls_some (S := fun v l => ∃ (cv bv wv dv qv zv av : Value) (P : Hp), v = .tuple #[.agg #[cv, bv, wv, dv, qv, zv, av], .int .i64 0] ∧ l = [Hp.own Mt.FZ 1 cv (Mt.codesM c (Mt.ms0 c.n) cs), Hp.own Mt.FK 2 bv (Mt.stM c (Mt.ms0 c.n) cs).bl, Hp.own Mt.FB 1 wv (Mt.certL c (Mt.stM c (Mt.ms0 c.n) cs)), Hp.own Mt.FB 1 dv ds, Hp.own Lg.FP 4 qv (paysB (Mt.stM c (Mt.ms0 c.n) cs).bl ds pays), Hp.own Lg.FZ 1 zv (Lg.codesL (Lg.start0 money) (paysB (Mt.stM c (Mt.ms0 c.n) cs).bl ds pays)), Hp.own Lg.FA 2 av (Lg.accsL (Lg.start0 money) (paysB (Mt.stM c (Mt.ms0 c.n) cs).bl ds pays)), P]) (Gx.enter (l := []) Tryd.func5 rfl Tryd.ntmps5 rfl (Sat.start W) ?_) ?_
  refine Gx.know (m' := [(0, .int .i64 ((c.n : Nat) : Int)), (1, .int .i64 ((f : Nat) : Int)), (2, .int .u32 ((c.L : Nat) : Int)), (3, sv), (4, mv), (5, pv)]) (.cons rfl (.cons rfl (.cons rfl (.cons rfl (.cons rfl (.cons rfl .nil)))))) ?_
  refine Gx.seq ?_
  refine Gx.region ?_
  refine Gx.eff rfl rfl rfl (eff_alloc rfl Tryd.ty37 (vs := [.slice none 0 0, .slice none 0 0, .slice none 0 0, .slice none 0 0, .slice none 0 0, .slice none 0 0, .slice none 0 0]) rfl) ?_
  rintro _ _ ⟨b1, rfl, rfl⟩
  refine Gx.val rfl rfl rfl (val_assign rfl rfl) ?_
  refine Gx.done ?_
  refine Gx.thenN ?_
  refine Gx.seq ?_
  refine Gx.region ?_
  refine Gx.val rfl rfl rfl (val_move rfl rfl) ?_
  refine Gx.val rfl rfl rfl (val_move rfl rfl) ?_
  refine Gx.val rfl rfl rfl (val_move rfl rfl) ?_
  refine Gx.val rfl rfl rfl (val_move rfl rfl) ?_
  refine Gx.eff rfl rfl rfl (eff_callN (vs := [.int .i64 ((c.n : Nat) : Int), .int .i64 ((f : Nat) : Int), .int .u32 ((c.L : Nat) : Int), sv]) rfl Tryd.fn4 rfl (fun w H => Mt.play_own (hs.below H.below) h1n h7n hcl hf hfn hLn hL)) ?_
  rintro _ _ ⟨_, ⟨a0, m0, c0, a1, m1, c1, a2, m2, c2, a3, m3, c3, P, rfl, rfl⟩, rfl⟩
  refine Gx.norm (l' := [Hp.own Mt.FZ 1 (.slice a0 m0 c0) (Mt.codesM c (Mt.ms0 c.n) cs), Hp.own Mt.FK 2 (.slice a1 m1 c1) ((Mt.stM c (Mt.ms0 c.n) cs).bl), Hp.own Mt.FB 1 (.slice a2 m2 c2) (Mt.certL c (Mt.stM c (Mt.ms0 c.n) cs)), Mt.decH (Mt.stM c (Mt.ms0 c.n) cs).bl (Mt.certL c (Mt.stM c (Mt.ms0 c.n) cs)) (.slice a3 m3 c3), P, Hp.rec_ b1 [.slice none 0 0, .slice none 0 0, .slice none 0 0, .slice none 0 0, .slice none 0 0, .slice none 0 0, .slice none 0 0]]) rfl ?_
  refine Gx.val rfl rfl rfl (val_move rfl rfl) ?_
  refine Gx.val rfl rfl rfl (val_extract rfl rfl rfl) ?_
  refine Gx.val rfl rfl rfl (val_extract rfl rfl rfl) ?_
  refine Gx.eff rfl rfl rfl (eff_alloc rfl Tryd.ty30 (vs := [.slice none 0 0, .slice none 0 0, .slice none 0 0, .slice none 0 0]) rfl) ?_
  rintro _ _ ⟨b2, rfl, rfl⟩
  refine Gx.eff0 rfl rfl (eff_store rfl Tryd.ty30 rfl rfl (us := [.slice a0 m0 c0, .slice a1 m1 c1, .slice a2 m2 c2, .slice a3 m3 c3]) rfl rfl rfl (k := 0) rfl (rfl) (vs' := [.slice a0 m0 c0, .slice a1 m1 c1, .slice a2 m2 c2, .slice a3 m3 c3]) (rfl) (l' := [Hp.rec_ b2 [.slice a0 m0 c0, .slice a1 m1 c1, .slice a2 m2 c2, .slice a3 m3 c3], Hp.own Mt.FZ 1 (.slice a0 m0 c0) (Mt.codesM c (Mt.ms0 c.n) cs), Hp.own Mt.FK 2 (.slice a1 m1 c1) ((Mt.stM c (Mt.ms0 c.n) cs).bl), Hp.own Mt.FB 1 (.slice a2 m2 c2) (Mt.certL c (Mt.stM c (Mt.ms0 c.n) cs)), Mt.decH (Mt.stM c (Mt.ms0 c.n) cs).bl (Mt.certL c (Mt.stM c (Mt.ms0 c.n) cs)) (.slice a3 m3 c3), P, Hp.rec_ b1 [.slice none 0 0, .slice none 0 0, .slice none 0 0, .slice none 0 0, .slice none 0 0, .slice none 0 0, .slice none 0 0]]) rfl) ?_
  rintro _ _ rfl
  refine Gx.val rfl rfl rfl (val_assign rfl rfl) ?_
  refine Gx.done ?_
  refine Gx.thenN ?_
  refine Gx.seq ?_
  refine Gx.seq ?_
  refine Gx.front 4 rfl ?_
  refine Gx.sat (l' := [Hp.own Mt.FB 1 (.slice a3 m3 c3) ds, Hp.rec_ b2 [.slice a0 m0 c0, .slice a1 m1 c1, .slice a2 m2 c2, .slice a3 m3 c3], Hp.own Mt.FZ 1 (.slice a0 m0 c0) (Mt.codesM c (Mt.ms0 c.n) cs), Hp.own Mt.FK 2 (.slice a1 m1 c1) ((Mt.stM c (Mt.ms0 c.n) cs).bl), Hp.own Mt.FB 1 (.slice a2 m2 c2) (Mt.certL c (Mt.stM c (Mt.ms0 c.n) cs)), P, Hp.rec_ b1 [.slice none 0 0, .slice none 0 0, .slice none 0 0, .slice none 0 0, .slice none 0 0, .slice none 0 0, .slice none 0 0]]) (fun w H => Mt.dec_own (R := sep [Hp.rec_ b2 [.slice a0 m0 c0, .slice a1 m1 c1, .slice a2 m2 c2, .slice a3 m3 c3], Hp.own Mt.FZ 1 (.slice a0 m0 c0) (Mt.codesM c (Mt.ms0 c.n) cs), Hp.own Mt.FK 2 (.slice a1 m1 c1) ((Mt.stM c (Mt.ms0 c.n) cs).bl), Hp.own Mt.FB 1 (.slice a2 m2 c2) (Mt.certL c (Mt.stM c (Mt.ms0 c.n) cs)), P, Hp.rec_ b1 [.slice none 0 0, .slice none 0 0, .slice none 0 0, .slice none 0 0, .slice none 0 0, .slice none 0 0, .slice none 0 0]]) hds H) ?_
  refine Gx.region ?_
  refine Gx.val rfl rfl rfl (val_move rfl rfl) ?_
  refine Gx.val rfl rfl rfl (Val.cast (val_neq rfl rfl rfl) (v' := .bool false) rfl) ?_
  refine Gx.done ?_
  refine Gx.thenN ?_
  refine Gx.f rfl ?_
  refine Gx.skip ?_
  refine Gx.thenN ?_
  refine Gx.seq ?_
  refine Gx.region ?_
  refine Gx.val rfl rfl rfl (Val.cast (val_loadA rfl Tryd.ty30 rfl rfl rfl (cells_rec (k := 1) rfl)) (v' := .agg #[.slice a0 m0 c0, .slice a1 m1 c1, .slice a2 m2 c2, .slice a3 m3 c3]) rfl) ?_
  refine Gx.val rfl rfl rfl (val_build rfl (qs := [(0, .agg #[.slice a0 m0 c0, .slice a1 m1 c1, .slice a2 m2 c2, .slice a3 m3 c3])]) rfl rfl (fun w => by go_simp) (v := .agg #[.slice a0 m0 c0, .slice a1 m1 c1, .slice a2 m2 c2, .slice a3 m3 c3])) ?_
  refine Gx.eff rfl rfl rfl (eff_alloc rfl Tryd.ty61 (vs := [.slice none 0 0, .slice none 0 0, .slice none 0 0, .slice none 0 0]) rfl) ?_
  rintro _ _ ⟨b3, rfl, rfl⟩
  refine Gx.eff0 rfl rfl (eff_store rfl Tryd.ty61 rfl rfl (us := [.slice a0 m0 c0, .slice a1 m1 c1, .slice a2 m2 c2, .slice a3 m3 c3]) rfl rfl rfl (k := 0) rfl (rfl) (vs' := [.slice a0 m0 c0, .slice a1 m1 c1, .slice a2 m2 c2, .slice a3 m3 c3]) (rfl) (l' := [Hp.rec_ b3 [.slice a0 m0 c0, .slice a1 m1 c1, .slice a2 m2 c2, .slice a3 m3 c3], Hp.own Mt.FB 1 (.slice a3 m3 c3) ds, Hp.rec_ b2 [.slice a0 m0 c0, .slice a1 m1 c1, .slice a2 m2 c2, .slice a3 m3 c3], Hp.own Mt.FZ 1 (.slice a0 m0 c0) (Mt.codesM c (Mt.ms0 c.n) cs), Hp.own Mt.FK 2 (.slice a1 m1 c1) ((Mt.stM c (Mt.ms0 c.n) cs).bl), Hp.own Mt.FB 1 (.slice a2 m2 c2) (Mt.certL c (Mt.stM c (Mt.ms0 c.n) cs)), P, Hp.rec_ b1 [.slice none 0 0, .slice none 0 0, .slice none 0 0, .slice none 0 0, .slice none 0 0, .slice none 0 0, .slice none 0 0]]) rfl) ?_
  rintro _ _ rfl
  refine Gx.done ?_
  refine Gx.thenN ?_
  refine Gx.seq ?_
  refine Gx.region ?_
  refine Gx.val rfl rfl rfl (Val.cast (val_loadA rfl Tryd.ty30 rfl rfl rfl (cells_rec (k := 2) rfl)) (v' := .agg #[.slice a0 m0 c0, .slice a1 m1 c1, .slice a2 m2 c2, .slice a3 m3 c3]) rfl) ?_
  refine Gx.val rfl rfl rfl (val_build rfl (qs := [(0, .agg #[.slice a0 m0 c0, .slice a1 m1 c1, .slice a2 m2 c2, .slice a3 m3 c3])]) rfl rfl (fun w => by go_simp) (v := .agg #[.slice a0 m0 c0, .slice a1 m1 c1, .slice a2 m2 c2, .slice a3 m3 c3, .slice none 0 0, .slice none 0 0, .slice none 0 0])) ?_
  refine Gx.eff rfl rfl rfl (eff_alloc rfl Tryd.ty37 (vs := [.slice none 0 0, .slice none 0 0, .slice none 0 0, .slice none 0 0, .slice none 0 0, .slice none 0 0, .slice none 0 0]) rfl) ?_
  rintro _ _ ⟨b4, rfl, rfl⟩
  refine Gx.eff0 rfl rfl (eff_store rfl Tryd.ty37 rfl rfl (us := [.slice a0 m0 c0, .slice a1 m1 c1, .slice a2 m2 c2, .slice a3 m3 c3, .slice none 0 0, .slice none 0 0, .slice none 0 0]) rfl rfl rfl (k := 0) rfl (rfl) (vs' := [.slice a0 m0 c0, .slice a1 m1 c1, .slice a2 m2 c2, .slice a3 m3 c3, .slice none 0 0, .slice none 0 0, .slice none 0 0]) (rfl) (l' := [Hp.rec_ b4 [.slice a0 m0 c0, .slice a1 m1 c1, .slice a2 m2 c2, .slice a3 m3 c3, .slice none 0 0, .slice none 0 0, .slice none 0 0], Hp.rec_ b3 [.slice a0 m0 c0, .slice a1 m1 c1, .slice a2 m2 c2, .slice a3 m3 c3], Hp.own Mt.FB 1 (.slice a3 m3 c3) ds, Hp.rec_ b2 [.slice a0 m0 c0, .slice a1 m1 c1, .slice a2 m2 c2, .slice a3 m3 c3], Hp.own Mt.FZ 1 (.slice a0 m0 c0) (Mt.codesM c (Mt.ms0 c.n) cs), Hp.own Mt.FK 2 (.slice a1 m1 c1) ((Mt.stM c (Mt.ms0 c.n) cs).bl), Hp.own Mt.FB 1 (.slice a2 m2 c2) (Mt.certL c (Mt.stM c (Mt.ms0 c.n) cs)), P, Hp.rec_ b1 [.slice none 0 0, .slice none 0 0, .slice none 0 0, .slice none 0 0, .slice none 0 0, .slice none 0 0, .slice none 0 0]]) rfl) ?_
  rintro _ _ rfl
  refine Gx.done ?_
  refine Gx.thenN ?_
  refine Gx.seq ?_
  refine Gx.seq ?_
  refine Gx.region ?_
  refine Gx.val rfl rfl rfl (Val.cast (val_loadA rfl Tryd.ty61 rfl rfl rfl (cells_rec (k := 1) rfl)) (v' := .agg #[.slice a0 m0 c0, .slice a1 m1 c1, .slice a2 m2 c2, .slice a3 m3 c3]) rfl) ?_
  refine Gx.val rfl rfl rfl (val_call (vs := [.agg #[.slice a0 m0 c0, .slice a1 m1 c1, .slice a2 m2 c2, .slice a3 m3 c3]]) rfl Tryd.fn11 rfl (fun w H => last_any ((H.at_ (k := 5) rfl).sls (by omega)) ((H.at_ (k := 2) rfl).sls (by omega)) hdl)) ?_
  refine Gx.val rfl rfl rfl (val_assign rfl rfl) ?_
  refine Gx.done ?_
  refine Gx.thenN ?_
  refine Gx.seq ?_
  rcases ho : lastB (Mt.stM c (Mt.ms0 c.n) cs).bl ds ds.length with _ | b
  · refine Gx.slot (t := 18) (v := .int .i64 (-1)) rfl ?_
    have hpb : paysB (Mt.stM c (Mt.ms0 c.n) cs).bl ds pays = [] := by unfold paysB; rw [ho]
    refine Gx.region ?_
    refine Gx.val rfl rfl rfl (val_move rfl rfl) ?_
    refine Gx.val rfl rfl rfl (Val.cast (val_geq rfl rfl rfl) (v' := .bool false) rfl) ?_
    refine Gx.done ?_
    refine Gx.thenN ?_
    refine Gx.f rfl ?_
    refine Gx.skip ?_
    refine Gx.thenN ?_
    refine Gx.seq ?_
    refine Gx.seq ?_
    refine Gx.ownNil Lg.FP 4 ?_
    refine Gx.norm (l' := [Hp.own Lg.FP 4 (.slice none 0 0) (paysB (Mt.stM c (Mt.ms0 c.n) cs).bl ds pays), Hp.rec_ b4 [.slice a0 m0 c0, .slice a1 m1 c1, .slice a2 m2 c2, .slice a3 m3 c3, .slice none 0 0, .slice none 0 0, .slice none 0 0], Hp.rec_ b3 [.slice a0 m0 c0, .slice a1 m1 c1, .slice a2 m2 c2, .slice a3 m3 c3], Hp.own Mt.FB 1 (.slice a3 m3 c3) ds, Hp.rec_ b2 [.slice a0 m0 c0, .slice a1 m1 c1, .slice a2 m2 c2, .slice a3 m3 c3], Hp.own Mt.FZ 1 (.slice a0 m0 c0) (Mt.codesM c (Mt.ms0 c.n) cs), Hp.own Mt.FK 2 (.slice a1 m1 c1) ((Mt.stM c (Mt.ms0 c.n) cs).bl), Hp.own Mt.FB 1 (.slice a2 m2 c2) (Mt.certL c (Mt.stM c (Mt.ms0 c.n) cs)), P, Hp.rec_ b1 [.slice none 0 0, .slice none 0 0, .slice none 0 0, .slice none 0 0, .slice none 0 0, .slice none 0 0, .slice none 0 0]]) (by rw [hpb] <;> rfl) ?_
    refine Gx.region ?_
    refine Gx.val rfl rfl rfl (Val.cast (val_fieldAddr rfl Tryd.underlying37 rfl Tryd.ty34 rfl rfl) (v' := ptr b4 4) rfl) ?_
    refine Gx.val rfl rfl rfl (val_load rfl Tryd.ty34 rfl rfl (cell_rec (k := 1) rfl rfl)) ?_
    refine Gx.val rfl rfl rfl (val_len rfl Tryd.underlying34 rfl (len_own (k := 0) rfl)) ?_
    refine Gx.val rfl rfl rfl (val_gtr rfl rfl rfl) ?_
    refine Gx.done ?_
    refine Gx.thenN ?_
    refine Gx.decF rfl (by omega) ?_
    refine Gx.skip ?_
    refine Gx.thenN ?_
    refine Gx.seq ?_
    refine Gx.seq ?_
    refine Gx.region ?_
    refine Gx.val rfl rfl rfl (val_move rfl rfl) ?_
    refine Gx.val rfl rfl rfl (Val.cast (val_fieldAddr rfl Tryd.underlying37 rfl Tryd.ty34 rfl rfl) (v' := ptr b4 4) rfl) ?_
    refine Gx.val rfl rfl rfl (val_load rfl Tryd.ty34 rfl rfl (cell_rec (k := 1) rfl rfl)) ?_
    refine Gx.eff rfl rfl rfl (eff_callN (vs := [mv, .slice none 0 0]) rfl Tryd.fn13 rfl (fun w H => Lg.play_own (hg.below H.below) (hm.below H.below) ((H.at_ (k := 0) rfl).sls (by omega)) hok)) ?_
    rintro _ _ ⟨_, ⟨av, zv, hiav, hizv, rfl, rfl⟩, rfl⟩
    refine Gx.norm (l' := [Hp.own Lg.FA 2 av (Lg.accsL (Lg.start0 money) (paysB (Mt.stM c (Mt.ms0 c.n) cs).bl ds pays)), Hp.own Lg.FZ 1 zv (Lg.codesL (Lg.start0 money) (paysB (Mt.stM c (Mt.ms0 c.n) cs).bl ds pays)), Hp.own Lg.FP 4 (.slice none 0 0) (paysB (Mt.stM c (Mt.ms0 c.n) cs).bl ds pays), Hp.rec_ b4 [.slice a0 m0 c0, .slice a1 m1 c1, .slice a2 m2 c2, .slice a3 m3 c3, .slice none 0 0, .slice none 0 0, .slice none 0 0], Hp.rec_ b3 [.slice a0 m0 c0, .slice a1 m1 c1, .slice a2 m2 c2, .slice a3 m3 c3], Hp.own Mt.FB 1 (.slice a3 m3 c3) ds, Hp.rec_ b2 [.slice a0 m0 c0, .slice a1 m1 c1, .slice a2 m2 c2, .slice a3 m3 c3], Hp.own Mt.FZ 1 (.slice a0 m0 c0) (Mt.codesM c (Mt.ms0 c.n) cs), Hp.own Mt.FK 2 (.slice a1 m1 c1) ((Mt.stM c (Mt.ms0 c.n) cs).bl), Hp.own Mt.FB 1 (.slice a2 m2 c2) (Mt.certL c (Mt.stM c (Mt.ms0 c.n) cs)), P, Hp.rec_ b1 [.slice none 0 0, .slice none 0 0, .slice none 0 0, .slice none 0 0, .slice none 0 0, .slice none 0 0, .slice none 0 0]]) rfl ?_
    refine Gx.val rfl rfl rfl (val_move rfl rfl) ?_
    refine Gx.val rfl rfl rfl (val_extract rfl rfl rfl) ?_
    refine Gx.val rfl rfl rfl (val_extract rfl rfl rfl) ?_
    refine Gx.val rfl rfl rfl (val_extract rfl rfl rfl) ?_
    refine Gx.val rfl rfl rfl (Val.cast (val_fieldAddr rfl Tryd.underlying37 rfl Tryd.ty35 rfl rfl) (v' := ptr b4 6) rfl) ?_
    refine Gx.eff0 rfl rfl (eff_store rfl Tryd.ty35 rfl rfl (us := [av]) hiav.cellsL rfl hiav.all (k := 3) rfl (rfl) (vs' := [.slice a0 m0 c0, .slice a1 m1 c1, .slice a2 m2 c2, .slice a3 m3 c3, .slice none 0 0, .slice none 0 0, av]) (rfl) (l' := [Hp.own Lg.FA 2 av (Lg.accsL (Lg.start0 money) (paysB (Mt.stM c (Mt.ms0 c.n) cs).bl ds pays)), Hp.own Lg.FZ 1 zv (Lg.codesL (Lg.start0 money) (paysB (Mt.stM c (Mt.ms0 c.n) cs).bl ds pays)), Hp.own Lg.FP 4 (.slice none 0 0) (paysB (Mt.stM c (Mt.ms0 c.n) cs).bl ds pays), Hp.rec_ b4 [.slice a0 m0 c0, .slice a1 m1 c1, .slice a2 m2 c2, .slice a3 m3 c3, .slice none 0 0, .slice none 0 0, av], Hp.rec_ b3 [.slice a0 m0 c0, .slice a1 m1 c1, .slice a2 m2 c2, .slice a3 m3 c3], Hp.own Mt.FB 1 (.slice a3 m3 c3) ds, Hp.rec_ b2 [.slice a0 m0 c0, .slice a1 m1 c1, .slice a2 m2 c2, .slice a3 m3 c3], Hp.own Mt.FZ 1 (.slice a0 m0 c0) (Mt.codesM c (Mt.ms0 c.n) cs), Hp.own Mt.FK 2 (.slice a1 m1 c1) ((Mt.stM c (Mt.ms0 c.n) cs).bl), Hp.own Mt.FB 1 (.slice a2 m2 c2) (Mt.certL c (Mt.stM c (Mt.ms0 c.n) cs)), P, Hp.rec_ b1 [.slice none 0 0, .slice none 0 0, .slice none 0 0, .slice none 0 0, .slice none 0 0, .slice none 0 0, .slice none 0 0]]) rfl) ?_
    rintro _ _ rfl
    refine Gx.val rfl rfl rfl (Val.cast (val_fieldAddr rfl Tryd.underlying37 rfl Tryd.ty26 rfl rfl) (v' := ptr b4 5) rfl) ?_
    refine Gx.eff0 rfl rfl (eff_store rfl Tryd.ty26 rfl rfl (us := [zv]) hizv.cellsL rfl hizv.all (k := 3) rfl (rfl) (vs' := [.slice a0 m0 c0, .slice a1 m1 c1, .slice a2 m2 c2, .slice a3 m3 c3, .slice none 0 0, zv, av]) (rfl) (l' := [Hp.own Lg.FA 2 av (Lg.accsL (Lg.start0 money) (paysB (Mt.stM c (Mt.ms0 c.n) cs).bl ds pays)), Hp.own Lg.FZ 1 zv (Lg.codesL (Lg.start0 money) (paysB (Mt.stM c (Mt.ms0 c.n) cs).bl ds pays)), Hp.own Lg.FP 4 (.slice none 0 0) (paysB (Mt.stM c (Mt.ms0 c.n) cs).bl ds pays), Hp.rec_ b4 [.slice a0 m0 c0, .slice a1 m1 c1, .slice a2 m2 c2, .slice a3 m3 c3, .slice none 0 0, zv, av], Hp.rec_ b3 [.slice a0 m0 c0, .slice a1 m1 c1, .slice a2 m2 c2, .slice a3 m3 c3], Hp.own Mt.FB 1 (.slice a3 m3 c3) ds, Hp.rec_ b2 [.slice a0 m0 c0, .slice a1 m1 c1, .slice a2 m2 c2, .slice a3 m3 c3], Hp.own Mt.FZ 1 (.slice a0 m0 c0) (Mt.codesM c (Mt.ms0 c.n) cs), Hp.own Mt.FK 2 (.slice a1 m1 c1) ((Mt.stM c (Mt.ms0 c.n) cs).bl), Hp.own Mt.FB 1 (.slice a2 m2 c2) (Mt.certL c (Mt.stM c (Mt.ms0 c.n) cs)), P, Hp.rec_ b1 [.slice none 0 0, .slice none 0 0, .slice none 0 0, .slice none 0 0, .slice none 0 0, .slice none 0 0, .slice none 0 0]]) rfl) ?_
    rintro _ _ rfl
    refine Gx.val rfl rfl rfl (val_assign rfl rfl) ?_
    refine Gx.done ?_
    refine Gx.thenN ?_
    refine Gx.seq ?_
    obtain ⟨sa5, sn6, sc7, rfl⟩ := hiav
    obtain ⟨sa8, sn9, sc10, rfl⟩ := hizv
    refine Gx.region ?_
    refine Gx.val rfl rfl rfl (val_move rfl rfl) ?_
    refine Gx.val rfl rfl rfl (Val.cast (val_neq rfl rfl rfl) (v' := .bool false) rfl) ?_
    refine Gx.done ?_
    refine Gx.thenN ?_
    refine Gx.f rfl ?_
    refine Gx.skip ?_
    refine Gx.thenN ?_
    refine Gx.seq ?_
    refine Gx.region ?_
    refine Gx.val rfl rfl rfl (Val.cast (val_loadA rfl Tryd.ty37 rfl rfl rfl (cells_rec (k := 3) rfl)) (v' := .agg #[.slice a0 m0 c0, .slice a1 m1 c1, .slice a2 m2 c2, .slice a3 m3 c3, .slice none 0 0, .slice sa8 sn9 sc10, .slice sa5 sn6 sc7]) rfl) ?_
    refine Gx.eff0 rfl rfl (eff_store rfl Tryd.ty37 rfl rfl (us := [.slice a0 m0 c0, .slice a1 m1 c1, .slice a2 m2 c2, .slice a3 m3 c3, .slice none 0 0, .slice sa8 sn9 sc10, .slice sa5 sn6 sc7]) rfl rfl rfl (k := 11) rfl (rfl) (vs' := [.slice a0 m0 c0, .slice a1 m1 c1, .slice a2 m2 c2, .slice a3 m3 c3, .slice none 0 0, .slice sa8 sn9 sc10, .slice sa5 sn6 sc7]) (rfl) (l' := [Hp.own Lg.FA 2 (.slice sa5 sn6 sc7) (Lg.accsL (Lg.start0 money) (paysB (Mt.stM c (Mt.ms0 c.n) cs).bl ds pays)), Hp.own Lg.FZ 1 (.slice sa8 sn9 sc10) (Lg.codesL (Lg.start0 money) (paysB (Mt.stM c (Mt.ms0 c.n) cs).bl ds pays)), Hp.own Lg.FP 4 (.slice none 0 0) (paysB (Mt.stM c (Mt.ms0 c.n) cs).bl ds pays), Hp.rec_ b4 [.slice a0 m0 c0, .slice a1 m1 c1, .slice a2 m2 c2, .slice a3 m3 c3, .slice none 0 0, .slice sa8 sn9 sc10, .slice sa5 sn6 sc7], Hp.rec_ b3 [.slice a0 m0 c0, .slice a1 m1 c1, .slice a2 m2 c2, .slice a3 m3 c3], Hp.own Mt.FB 1 (.slice a3 m3 c3) ds, Hp.rec_ b2 [.slice a0 m0 c0, .slice a1 m1 c1, .slice a2 m2 c2, .slice a3 m3 c3], Hp.own Mt.FZ 1 (.slice a0 m0 c0) (Mt.codesM c (Mt.ms0 c.n) cs), Hp.own Mt.FK 2 (.slice a1 m1 c1) ((Mt.stM c (Mt.ms0 c.n) cs).bl), Hp.own Mt.FB 1 (.slice a2 m2 c2) (Mt.certL c (Mt.stM c (Mt.ms0 c.n) cs)), P, Hp.rec_ b1 [.slice a0 m0 c0, .slice a1 m1 c1, .slice a2 m2 c2, .slice a3 m3 c3, .slice none 0 0, .slice sa8 sn9 sc10, .slice sa5 sn6 sc7]]) rfl) ?_
    rintro _ _ rfl
    refine Gx.val rfl rfl rfl (val_assign rfl rfl) ?_
    refine Gx.done ?_
    refine Gx.thenN ?_
    refine Gx.ret ?_
    refine Gx.drop 10 rfl ?_
    refine Gx.drop 6 rfl ?_
    refine Gx.drop 4 rfl ?_
    refine Gx.drop 3 rfl ?_
    refine Gx.front 7 rfl ?_
    refine Gx.front 1 rfl ?_
    refine Gx.front 2 rfl ?_
    refine Gx.front 3 rfl ?_
    refine Gx.front 4 rfl ?_
    refine Gx.front 7 rfl ?_
    refine Gx.front 7 rfl ?_
    refine Gx.front 7 rfl ?_
    refine Gx.retC2 Tryd.results5 Tryd.ty37 rfl rfl (us := [.slice a0 m0 c0, .slice a1 m1 c1, .slice a2 m2 c2, .slice a3 m3 c3, .slice none 0 0, .slice sa8 sn9 sc10, .slice sa5 sn6 sc7]) rfl (k := 7) rfl rfl ?_
    exact ⟨_, _, _, _, _, _, _, _, rfl, rfl⟩
  · refine Gx.slot (t := 18) (v := .int .i64 ((b : Nat) : Int)) rfl ?_
    have hbl : b < (Mt.stM c (Mt.ms0 c.n) cs).bl.length := by have := (lastB_lt ho).1; omega
    have hple := Chn.pathL_le (Mt.blsP (Mt.stM c (Mt.ms0 c.n) cs).bl) b
    have hpb : paysB (Mt.stM c (Mt.ms0 c.n) cs).bl ds pays = paidL pays (Chn.pathL (Mt.blsP (Mt.stM c (Mt.ms0 c.n) cs).bl) b) := by unfold paysB; rw [ho]
    refine Gx.region ?_
    refine Gx.val rfl rfl rfl (val_move rfl rfl) ?_
    refine Gx.val rfl rfl rfl (val_geq rfl rfl rfl) ?_
    refine Gx.done ?_
    refine Gx.thenN ?_
    refine Gx.decT rfl (by omega) ?_
    refine Gx.seq ?_
    refine Gx.region ?_
    refine Gx.val rfl rfl rfl (Val.cast (val_fieldAddr rfl Tryd.underlying61 rfl Tryd.ty30 rfl rfl) (v' := ptr b3 0) rfl) ?_
    refine Gx.val rfl rfl rfl (Val.cast (val_fieldAddr rfl Tryd.underlying30 rfl Tryd.ty27 rfl rfl) (v' := ptr b3 1) rfl) ?_
    refine Gx.val rfl rfl rfl (val_load rfl Tryd.ty27 rfl rfl (cell_rec (k := 1) rfl rfl)) ?_
    refine Gx.val rfl rfl rfl (val_move rfl rfl) ?_
    refine Gx.eff rfl rfl rfl (eff_callN (vs := [.slice a1 m1 c1, .int .i64 ((b : Nat) : Int)]) rfl Tryd.fn12 rfl (fun w H => path_q bd.okc hbl ((H.at_ (k := 5) rfl).sls (by omega)))) ?_
    rintro _ _ ⟨_, ⟨q, rfl, rfl⟩, rfl⟩
    refine Gx.norm (l' := [Hp.own Chn.SZ 1 (.slice q.1 q.2.1 q.2.2) (Chn.pathL (Mt.blsP (Mt.stM c (Mt.ms0 c.n) cs).bl) b), Hp.rec_ b4 [.slice a0 m0 c0, .slice a1 m1 c1, .slice a2 m2 c2, .slice a3 m3 c3, .slice none 0 0, .slice none 0 0, .slice none 0 0], Hp.rec_ b3 [.slice a0 m0 c0, .slice a1 m1 c1, .slice a2 m2 c2, .slice a3 m3 c3], Hp.own Mt.FB 1 (.slice a3 m3 c3) ds, Hp.rec_ b2 [.slice a0 m0 c0, .slice a1 m1 c1, .slice a2 m2 c2, .slice a3 m3 c3], Hp.own Mt.FZ 1 (.slice a0 m0 c0) (Mt.codesM c (Mt.ms0 c.n) cs), Hp.own Mt.FK 2 (.slice a1 m1 c1) ((Mt.stM c (Mt.ms0 c.n) cs).bl), Hp.own Mt.FB 1 (.slice a2 m2 c2) (Mt.certL c (Mt.stM c (Mt.ms0 c.n) cs)), P, Hp.rec_ b1 [.slice none 0 0, .slice none 0 0, .slice none 0 0, .slice none 0 0, .slice none 0 0, .slice none 0 0, .slice none 0 0]]) rfl ?_
    refine Gx.val rfl rfl rfl (val_move rfl rfl) ?_
    refine Gx.val rfl rfl rfl (val_extract rfl rfl rfl) ?_
    refine Gx.val rfl rfl rfl (val_extract rfl rfl rfl) ?_
    refine Gx.val rfl rfl rfl (val_assign rfl rfl) ?_
    refine Gx.val rfl rfl rfl (val_assign rfl rfl) ?_
    refine Gx.done ?_
    refine Gx.thenN ?_
    refine Gx.seq ?_
    refine Gx.ownNil Lg.FP 4 ?_
    refine Gx.region ?_
    refine Gx.val rfl rfl rfl (val_move rfl rfl) ?_
    refine Gx.val rfl rfl rfl (val_len rfl Tryd.underlying63 rfl (len_own (k := 1) rfl)) ?_
    refine Gx.val rfl rfl rfl (val_move rfl rfl) ?_
    refine Gx.done ?_
    refine Gx.thenN ?_
    refine Gx.block ?_
    refine Gx.front 10 rfl ?_
    refine Gx.front 10 rfl ?_
    refine Gx.front 10 rfl ?_
    refine Gx.front 10 rfl ?_
    refine Gx.front 10 rfl ?_
    refine Gx.front 10 rfl ?_
    refine Gx.front 10 rfl ?_
    refine Gx.front 10 rfl ?_
    refine Gx.front 9 rfl ?_
    refine Gx.front 10 rfl ?_
    refine Gx.front 10 rfl ?_
    refine Gx.loop (ι := Nat × Value) (fun ξ => (ξ.1 ≤ (Chn.pathL (Mt.blsP (Mt.stM c (Mt.ms0 c.n) cs).bl) b).length) ∧ (IsS ξ.2)) (fun ξ => [(4, mv), (5, pv), (12, ptr b1 0), (16, ptr b3 0), (17, ptr b4 0), (51, .slice q.1 q.2.1 q.2.2), (52, .int .i64 (((Chn.pathL (Mt.blsP (Mt.stM c (Mt.ms0 c.n) cs).bl) b).length : Nat) : Int)), (53, .int .i64 ((ξ.1 : Nat) : Int))]) (fun ξ => [Hp.own Lg.FP 4 ξ.2 (paidL pays ((Chn.pathL (Mt.blsP (Mt.stM c (Mt.ms0 c.n) cs).bl) b).take ξ.1)), Hp.rec_ b4 [.slice a0 m0 c0, .slice a1 m1 c1, .slice a2 m2 c2, .slice a3 m3 c3, ξ.2, .slice none 0 0, .slice none 0 0], Hp.own Chn.SZ 1 (.slice q.1 q.2.1 q.2.2) (Chn.pathL (Mt.blsP (Mt.stM c (Mt.ms0 c.n) cs).bl) b), Hp.rec_ b3 [.slice a0 m0 c0, .slice a1 m1 c1, .slice a2 m2 c2, .slice a3 m3 c3], Hp.own Mt.FB 1 (.slice a3 m3 c3) ds, Hp.rec_ b2 [.slice a0 m0 c0, .slice a1 m1 c1, .slice a2 m2 c2, .slice a3 m3 c3], Hp.own Mt.FZ 1 (.slice a0 m0 c0) (Mt.codesM c (Mt.ms0 c.n) cs), Hp.own Mt.FK 2 (.slice a1 m1 c1) ((Mt.stM c (Mt.ms0 c.n) cs).bl), Hp.own Mt.FB 1 (.slice a2 m2 c2) (Mt.certL c (Mt.stM c (Mt.ms0 c.n) cs)), P, Hp.rec_ b1 [.slice none 0 0, .slice none 0 0, .slice none 0 0, .slice none 0 0, .slice none 0 0, .slice none 0 0, .slice none 0 0]]) (fun ξ => (Chn.pathL (Mt.blsP (Mt.stM c (Mt.ms0 c.n) cs).bl) b).length - ξ.1) (0, (.slice none 0 0)) ⟨by first | omega | (dsimp only; omega), ⟨none, 0, 0, rfl⟩⟩ ((.cons rfl (.cons rfl (.cons rfl (.cons rfl (.cons rfl (.cons rfl (.cons rfl (.cons rfl .nil))))))))) rfl ?_
    rintro ⟨i, qv⟩ ⟨hi, hiqv⟩
    dsimp only at hi hiqv
    refine Gx.know (m' := [(4, mv), (5, pv), (12, ptr b1 0), (16, ptr b3 0), (17, ptr b4 0), (51, .slice q.1 q.2.1 q.2.2), (52, .int .i64 (((Chn.pathL (Mt.blsP (Mt.stM c (Mt.ms0 c.n) cs).bl) b).length : Nat) : Int)), (53, .int .i64 ((i : Nat) : Int))]) (.cons rfl (.cons rfl (.cons rfl (.cons rfl (.cons rfl (.cons rfl (.cons rfl (.cons rfl .nil)))))))) (Gx.norm (l' := [Hp.own Lg.FP 4 qv (paidL pays ((Chn.pathL (Mt.blsP (Mt.stM c (Mt.ms0 c.n) cs).bl) b).take i)), Hp.rec_ b4 [.slice a0 m0 c0, .slice a1 m1 c1, .slice a2 m2 c2, .slice a3 m3 c3, qv, .slice none 0 0, .slice none 0 0], Hp.own Chn.SZ 1 (.slice q.1 q.2.1 q.2.2) (Chn.pathL (Mt.blsP (Mt.stM c (Mt.ms0 c.n) cs).bl) b), Hp.rec_ b3 [.slice a0 m0 c0, .slice a1 m1 c1, .slice a2 m2 c2, .slice a3 m3 c3], Hp.own Mt.FB 1 (.slice a3 m3 c3) ds, Hp.rec_ b2 [.slice a0 m0 c0, .slice a1 m1 c1, .slice a2 m2 c2, .slice a3 m3 c3], Hp.own Mt.FZ 1 (.slice a0 m0 c0) (Mt.codesM c (Mt.ms0 c.n) cs), Hp.own Mt.FK 2 (.slice a1 m1 c1) ((Mt.stM c (Mt.ms0 c.n) cs).bl), Hp.own Mt.FB 1 (.slice a2 m2 c2) (Mt.certL c (Mt.stM c (Mt.ms0 c.n) cs)), P, Hp.rec_ b1 [.slice none 0 0, .slice none 0 0, .slice none 0 0, .slice none 0 0, .slice none 0 0, .slice none 0 0, .slice none 0 0]]) rfl ?_)
    have hpt := paid_len hsz ((Chn.pathL (Mt.blsP (Mt.stM c (Mt.ms0 c.n) cs).bl) b).take i)
    have hpt2 : ((Chn.pathL (Mt.blsP (Mt.stM c (Mt.ms0 c.n) cs).bl) b).take i).length ≤ 40 := by rw [List.length_take]; omega
    have hpt3 : (paidL pays ((Chn.pathL (Mt.blsP (Mt.stM c (Mt.ms0 c.n) cs).bl) b).take i)).length ≤ 40 * 1048576 := Nat.le_trans hpt (Nat.mul_le_mul_right _ hpt2)
    refine Gx.seq ?_
    refine Gx.region ?_
    refine Gx.val rfl rfl rfl (val_lss rfl rfl rfl) ?_
    refine Gx.done ?_
    refine Gx.thenN ?_
    refine Gx.seq ?_
    refine Gx.dec rfl (fun h11 => ?_) (fun h11 => ?_)
    · refine Gx.skip ?_
      refine Gx.thenN ?_
      refine Gx.seq ?_
      refine Gx.block ?_
      refine Gx.seq ?_
      refine Gx.region ?_
      obtain ⟨x12, hx12⟩ := get_of_lt (xs := (Chn.pathL (Mt.blsP (Mt.stM c (Mt.ms0 c.n) cs).bl) b)) (k := i) (by first | omega | (simp; omega))
      refine Gx.val rfl rfl rfl (val_ixa rfl Tryd.underlying63 Tryd.ty3 rfl rfl (j := i) (rfl) (reach_own (k := 2) rfl hx12)) ?_
      refine Gx.val rfl rfl rfl (val_load rfl Tryd.ty3 rfl rfl (cell_own (i := 0) (k := 2) rfl hx12 rfl)) ?_
      refine Gx.val rfl rfl rfl (val_assign rfl rfl) ?_
      refine Gx.done ?_
      refine Gx.thenN ?_
      refine Gx.seq ?_
      obtain ⟨kk, hkk⟩ := path_nat hx12
      subst hkk
      have hxk := hx12
      refine Gx.slot (t := 22) (v := .int .i64 ((kk : Nat) : Int)) rfl ?_
      refine Gx.region ?_
      refine Gx.val rfl rfl rfl (val_move rfl rfl) ?_
      refine Gx.val rfl rfl rfl (val_move rfl rfl) ?_
      refine Gx.val rfl rfl rfl (val_len rfl Tryd.underlying25 rfl (len_base hp)) ?_
      refine Gx.val rfl rfl rfl (val_lss rfl rfl rfl) ?_
      refine Gx.done ?_
      refine Gx.thenN ?_
      refine Gx.dec rfl (fun h13 => ?_) (fun h13 => ?_)
      · obtain ⟨rk, hrk⟩ := get_of_lt (xs := pays) (k := kk) (by omega)
        have hrk9 := hsz _ (List.mem_of_getElem? hrk)
        refine Gx.regionO (fun j => false) 6 [0, 1, 2, 3, 4, 5] (fun _ => [Hp.own Lg.FP 4 qv (paidL pays ((Chn.pathL (Mt.blsP (Mt.stM c (Mt.ms0 c.n) cs).bl) b).take i)), Hp.rec_ b4 [.slice a0 m0 c0, .slice a1 m1 c1, .slice a2 m2 c2, .slice a3 m3 c3, qv, .slice none 0 0, .slice none 0 0], Hp.own Chn.SZ 1 (.slice q.1 q.2.1 q.2.2) (Chn.pathL (Mt.blsP (Mt.stM c (Mt.ms0 c.n) cs).bl) b), Hp.rec_ b3 [.slice a0 m0 c0, .slice a1 m1 c1, .slice a2 m2 c2, .slice a3 m3 c3], Hp.own Mt.FB 1 (.slice a3 m3 c3) ds, Hp.rec_ b2 [.slice a0 m0 c0, .slice a1 m1 c1, .slice a2 m2 c2, .slice a3 m3 c3], Hp.own Mt.FZ 1 (.slice a0 m0 c0) (Mt.codesM c (Mt.ms0 c.n) cs), Hp.own Mt.FK 2 (.slice a1 m1 c1) ((Mt.stM c (Mt.ms0 c.n) cs).bl), Hp.own Mt.FB 1 (.slice a2 m2 c2) (Mt.certL c (Mt.stM c (Mt.ms0 c.n) cs)), P, Hp.rec_ b1 [.slice none 0 0, .slice none 0 0, .slice none 0 0, .slice none 0 0, .slice none 0 0, .slice none 0 0, .slice none 0 0]]) Tryd.mixed (by kernel_rfl) rfl ?_
        refine Gw.val rfl rfl rfl rfl rfl (fun us => Val.cast (val_fieldAddr rfl Tryd.underlying37 rfl Tryd.ty34 rfl rfl) (v' := ptr b4 4) rfl) ?_
        refine Gw.val0 rfl rfl rfl (by kernel_rfl) rfl rfl (val_load rfl Tryd.ty34 rfl rfl (cell_rec (k := 1) rfl rfl)) ?_
        refine Gw.val rfl rfl rfl rfl rfl (fun us => val_move rfl rfl) ?_
        refine Gw.val rfl rfl rfl rfl rfl (fun us => val_move rfl rfl) ?_
        refine Gw.val rfl rfl rfl rfl rfl (fun us => val_ixa rfl Tryd.underlying25 Tryd.ty34 rfl rfl (j := kk) (rfl) (reach_base hp hrk)) ?_
        refine Gw.val rfl rfl rfl rfl rfl (fun us => val_load rfl Tryd.ty34 rfl rfl (cell_base (i := 0) hp hrk rfl)) ?_
        have hr14 := hrows _ (List.mem_of_getElem? hrk)
        refine Gw.done ?_
        refine Gx.norm (l' := [Hp.own Lg.FP 4 qv (paidL pays ((Chn.pathL (Mt.blsP (Mt.stM c (Mt.ms0 c.n) cs).bl) b).take i)), Hp.rec_ b4 [.slice a0 m0 c0, .slice a1 m1 c1, .slice a2 m2 c2, .slice a3 m3 c3, qv, .slice none 0 0, .slice none 0 0], Hp.own Chn.SZ 1 (.slice q.1 q.2.1 q.2.2) (Chn.pathL (Mt.blsP (Mt.stM c (Mt.ms0 c.n) cs).bl) b), Hp.rec_ b3 [.slice a0 m0 c0, .slice a1 m1 c1, .slice a2 m2 c2, .slice a3 m3 c3], Hp.own Mt.FB 1 (.slice a3 m3 c3) ds, Hp.rec_ b2 [.slice a0 m0 c0, .slice a1 m1 c1, .slice a2 m2 c2, .slice a3 m3 c3], Hp.own Mt.FZ 1 (.slice a0 m0 c0) (Mt.codesM c (Mt.ms0 c.n) cs), Hp.own Mt.FK 2 (.slice a1 m1 c1) ((Mt.stM c (Mt.ms0 c.n) cs).bl), Hp.own Mt.FB 1 (.slice a2 m2 c2) (Mt.certL c (Mt.stM c (Mt.ms0 c.n) cs)), P, Hp.rec_ b1 [.slice none 0 0, .slice none 0 0, .slice none 0 0, .slice none 0 0, .slice none 0 0, .slice none 0 0, .slice none 0 0]]) rfl ?_
        refine Gx.eff rfl rfl rfl (eff_pushAll (k := 0) (ys := rk.xs) rfl Lg.Tryd.eP Lg.FP_len Lg.FP_one rfl rfl (fun w H => hr14.below H.below) rfl (by omega) (by omega)) ?_
        rintro v15 _ ⟨hiv15, rfl⟩
        refine Gx.norm (l' := [Hp.own Lg.FP 4 v15 ((paidL pays ((Chn.pathL (Mt.blsP (Mt.stM c (Mt.ms0 c.n) cs).bl) b).take i)) ++ rk.xs), Hp.rec_ b4 [.slice a0 m0 c0, .slice a1 m1 c1, .slice a2 m2 c2, .slice a3 m3 c3, qv, .slice none 0 0, .slice none 0 0], Hp.own Chn.SZ 1 (.slice q.1 q.2.1 q.2.2) (Chn.pathL (Mt.blsP (Mt.stM c (Mt.ms0 c.n) cs).bl) b), Hp.rec_ b3 [.slice a0 m0 c0, .slice a1 m1 c1, .slice a2 m2 c2, .slice a3 m3 c3], Hp.own Mt.FB 1 (.slice a3 m3 c3) ds, Hp.rec_ b2 [.slice a0 m0 c0, .slice a1 m1 c1, .slice a2 m2 c2, .slice a3 m3 c3], Hp.own Mt.FZ 1 (.slice a0 m0 c0) (Mt.codesM c (Mt.ms0 c.n) cs), Hp.own Mt.FK 2 (.slice a1 m1 c1) ((Mt.stM c (Mt.ms0 c.n) cs).bl), Hp.own Mt.FB 1 (.slice a2 m2 c2) (Mt.certL c (Mt.stM c (Mt.ms0 c.n) cs)), P, Hp.rec_ b1 [.slice none 0 0, .slice none 0 0, .slice none 0 0, .slice none 0 0, .slice none 0 0, .slice none 0 0, .slice none 0 0]]) rfl ?_
        refine Gx.val rfl rfl rfl (Val.cast (val_fieldAddr rfl Tryd.underlying37 rfl Tryd.ty34 rfl rfl) (v' := ptr b4 4) rfl) ?_
        refine Gx.eff0 rfl rfl (eff_store rfl Tryd.ty34 rfl rfl (us := [v15]) hiv15.cellsL rfl hiv15.all (k := 1) rfl (rfl) (vs' := [.slice a0 m0 c0, .slice a1 m1 c1, .slice a2 m2 c2, .slice a3 m3 c3, v15, .slice none 0 0, .slice none 0 0]) (rfl) (l' := [Hp.own Lg.FP 4 v15 ((paidL pays ((Chn.pathL (Mt.blsP (Mt.stM c (Mt.ms0 c.n) cs).bl) b).take i)) ++ rk.xs), Hp.rec_ b4 [.slice a0 m0 c0, .slice a1 m1 c1, .slice a2 m2 c2, .slice a3 m3 c3, v15, .slice none 0 0, .slice none 0 0], Hp.own Chn.SZ 1 (.slice q.1 q.2.1 q.2.2) (Chn.pathL (Mt.blsP (Mt.stM c (Mt.ms0 c.n) cs).bl) b), Hp.rec_ b3 [.slice a0 m0 c0, .slice a1 m1 c1, .slice a2 m2 c2, .slice a3 m3 c3], Hp.own Mt.FB 1 (.slice a3 m3 c3) ds, Hp.rec_ b2 [.slice a0 m0 c0, .slice a1 m1 c1, .slice a2 m2 c2, .slice a3 m3 c3], Hp.own Mt.FZ 1 (.slice a0 m0 c0) (Mt.codesM c (Mt.ms0 c.n) cs), Hp.own Mt.FK 2 (.slice a1 m1 c1) ((Mt.stM c (Mt.ms0 c.n) cs).bl), Hp.own Mt.FB 1 (.slice a2 m2 c2) (Mt.certL c (Mt.stM c (Mt.ms0 c.n) cs)), P, Hp.rec_ b1 [.slice none 0 0, .slice none 0 0, .slice none 0 0, .slice none 0 0, .slice none 0 0, .slice none 0 0, .slice none 0 0]]) rfl) ?_
        rintro _ _ rfl
        refine Gx.done ?_
        refine Gx.blkN ?_
        refine Gx.thenN ?_
        refine Gx.region ?_
        refine Gx.val rfl rfl rfl (val_add rfl rfl rfl (r := ((i + 1 : Nat) : Int)) (w64 (by omega) (by omega))) ?_
        refine Gx.val rfl rfl rfl (val_move rfl rfl) ?_
        refine Gx.done ?_
        refine Gx.thenN ?_
        refine Gx.norm (l' := [Hp.own Lg.FP 4 v15 (paidL pays ((Chn.pathL (Mt.blsP (Mt.stM c (Mt.ms0 c.n) cs).bl) b).take (i + 1))), Hp.rec_ b4 [.slice a0 m0 c0, .slice a1 m1 c1, .slice a2 m2 c2, .slice a3 m3 c3, v15, .slice none 0 0, .slice none 0 0], Hp.own Chn.SZ 1 (.slice q.1 q.2.1 q.2.2) (Chn.pathL (Mt.blsP (Mt.stM c (Mt.ms0 c.n) cs).bl) b), Hp.rec_ b3 [.slice a0 m0 c0, .slice a1 m1 c1, .slice a2 m2 c2, .slice a3 m3 c3], Hp.own Mt.FB 1 (.slice a3 m3 c3) ds, Hp.rec_ b2 [.slice a0 m0 c0, .slice a1 m1 c1, .slice a2 m2 c2, .slice a3 m3 c3], Hp.own Mt.FZ 1 (.slice a0 m0 c0) (Mt.codesM c (Mt.ms0 c.n) cs), Hp.own Mt.FK 2 (.slice a1 m1 c1) ((Mt.stM c (Mt.ms0 c.n) cs).bl), Hp.own Mt.FB 1 (.slice a2 m2 c2) (Mt.certL c (Mt.stM c (Mt.ms0 c.n) cs)), P, Hp.rec_ b1 [.slice none 0 0, .slice none 0 0, .slice none 0 0, .slice none 0 0, .slice none 0 0, .slice none 0 0, .slice none 0 0]]) (by rw [paid_snoc hxk, Int.toNat_natCast, paysAt_in hrk] <;> rfl) ?_
        exact Gx.round (i + 1, v15) ⟨by first | omega | (dsimp only; omega), hiv15⟩ (by first | omega | (dsimp only; omega)) ((.cons rfl (.cons rfl (.cons rfl (.cons rfl (.cons rfl (.cons rfl (.cons rfl (.cons rfl .nil))))))))) rfl
      · refine Gx.skip ?_
        refine Gx.blkN ?_
        refine Gx.thenN ?_
        refine Gx.region ?_
        refine Gx.val rfl rfl rfl (val_add rfl rfl rfl (r := ((i + 1 : Nat) : Int)) (w64 (by omega) (by omega))) ?_
        refine Gx.val rfl rfl rfl (val_move rfl rfl) ?_
        refine Gx.done ?_
        refine Gx.thenN ?_
        refine Gx.norm (l' := [Hp.own Lg.FP 4 qv (paidL pays ((Chn.pathL (Mt.blsP (Mt.stM c (Mt.ms0 c.n) cs).bl) b).take (i + 1))), Hp.rec_ b4 [.slice a0 m0 c0, .slice a1 m1 c1, .slice a2 m2 c2, .slice a3 m3 c3, qv, .slice none 0 0, .slice none 0 0], Hp.own Chn.SZ 1 (.slice q.1 q.2.1 q.2.2) (Chn.pathL (Mt.blsP (Mt.stM c (Mt.ms0 c.n) cs).bl) b), Hp.rec_ b3 [.slice a0 m0 c0, .slice a1 m1 c1, .slice a2 m2 c2, .slice a3 m3 c3], Hp.own Mt.FB 1 (.slice a3 m3 c3) ds, Hp.rec_ b2 [.slice a0 m0 c0, .slice a1 m1 c1, .slice a2 m2 c2, .slice a3 m3 c3], Hp.own Mt.FZ 1 (.slice a0 m0 c0) (Mt.codesM c (Mt.ms0 c.n) cs), Hp.own Mt.FK 2 (.slice a1 m1 c1) ((Mt.stM c (Mt.ms0 c.n) cs).bl), Hp.own Mt.FB 1 (.slice a2 m2 c2) (Mt.certL c (Mt.stM c (Mt.ms0 c.n) cs)), P, Hp.rec_ b1 [.slice none 0 0, .slice none 0 0, .slice none 0 0, .slice none 0 0, .slice none 0 0, .slice none 0 0, .slice none 0 0]]) (by rw [paid_snoc hxk, Int.toNat_natCast, paysAt_out (by omega), List.append_nil] <;> rfl) ?_
        exact Gx.round (i + 1, qv) ⟨by first | omega | (dsimp only; omega), hiqv⟩ (by first | omega | (dsimp only; omega)) ((.cons rfl (.cons rfl (.cons rfl (.cons rfl (.cons rfl (.cons rfl (.cons rfl (.cons rfl .nil))))))))) rfl
    · refine Gx.exit ?_
      refine Gx.thenE ?_
      refine Gx.thenE ?_
      refine Gx.blkE ?_
      refine Gx.thenN ?_
      refine Gx.seq ?_
      refine Gx.seq ?_
      obtain rfl : i = (Chn.pathL (Mt.blsP (Mt.stM c (Mt.ms0 c.n) cs).bl) b).length := by omega
      rw [List.take_length] at hpt3
      refine Gx.norm (l' := [Hp.own Lg.FP 4 qv (paysB (Mt.stM c (Mt.ms0 c.n) cs).bl ds pays), Hp.rec_ b4 [.slice a0 m0 c0, .slice a1 m1 c1, .slice a2 m2 c2, .slice a3 m3 c3, qv, .slice none 0 0, .slice none 0 0], Hp.own Chn.SZ 1 (.slice q.1 q.2.1 q.2.2) (Chn.pathL (Mt.blsP (Mt.stM c (Mt.ms0 c.n) cs).bl) b), Hp.rec_ b3 [.slice a0 m0 c0, .slice a1 m1 c1, .slice a2 m2 c2, .slice a3 m3 c3], Hp.own Mt.FB 1 (.slice a3 m3 c3) ds, Hp.rec_ b2 [.slice a0 m0 c0, .slice a1 m1 c1, .slice a2 m2 c2, .slice a3 m3 c3], Hp.own Mt.FZ 1 (.slice a0 m0 c0) (Mt.codesM c (Mt.ms0 c.n) cs), Hp.own Mt.FK 2 (.slice a1 m1 c1) ((Mt.stM c (Mt.ms0 c.n) cs).bl), Hp.own Mt.FB 1 (.slice a2 m2 c2) (Mt.certL c (Mt.stM c (Mt.ms0 c.n) cs)), P, Hp.rec_ b1 [.slice none 0 0, .slice none 0 0, .slice none 0 0, .slice none 0 0, .slice none 0 0, .slice none 0 0, .slice none 0 0]]) (by rw [List.take_length, hpb] <;> rfl) ?_
      obtain ⟨sa16, sn17, sc18, rfl⟩ := hiqv
      refine Gx.region ?_
      refine Gx.val rfl rfl rfl (Val.cast (val_fieldAddr rfl Tryd.underlying37 rfl Tryd.ty34 rfl rfl) (v' := ptr b4 4) rfl) ?_
      refine Gx.val rfl rfl rfl (val_load rfl Tryd.ty34 rfl rfl (cell_rec (k := 1) rfl rfl)) ?_
      refine Gx.val rfl rfl rfl (val_len rfl Tryd.underlying34 rfl (len_own (k := 0) rfl)) ?_
      refine Gx.val rfl rfl rfl (val_gtr rfl rfl rfl) ?_
      refine Gx.done ?_
      refine Gx.thenN ?_
      refine Gx.decF rfl (by omega) ?_
      refine Gx.skip ?_
      refine Gx.thenN ?_
      refine Gx.seq ?_
      refine Gx.seq ?_
      refine Gx.region ?_
      refine Gx.val rfl rfl rfl (val_move rfl rfl) ?_
      refine Gx.val rfl rfl rfl (Val.cast (val_fieldAddr rfl Tryd.underlying37 rfl Tryd.ty34 rfl rfl) (v' := ptr b4 4) rfl) ?_
      refine Gx.val rfl rfl rfl (val_load rfl Tryd.ty34 rfl rfl (cell_rec (k := 1) rfl rfl)) ?_
      refine Gx.eff rfl rfl rfl (eff_callN (vs := [mv, .slice sa16 sn17 sc18]) rfl Tryd.fn13 rfl (fun w H => Lg.play_own (hg.below H.below) (hm.below H.below) ((H.at_ (k := 0) rfl).sls (by omega)) hok)) ?_
      rintro _ _ ⟨_, ⟨av, zv, hiav, hizv, rfl, rfl⟩, rfl⟩
      refine Gx.norm (l' := [Hp.own Lg.FA 2 av (Lg.accsL (Lg.start0 money) (paysB (Mt.stM c (Mt.ms0 c.n) cs).bl ds pays)), Hp.own Lg.FZ 1 zv (Lg.codesL (Lg.start0 money) (paysB (Mt.stM c (Mt.ms0 c.n) cs).bl ds pays)), Hp.own Lg.FP 4 (.slice sa16 sn17 sc18) (paysB (Mt.stM c (Mt.ms0 c.n) cs).bl ds pays), Hp.rec_ b4 [.slice a0 m0 c0, .slice a1 m1 c1, .slice a2 m2 c2, .slice a3 m3 c3, .slice sa16 sn17 sc18, .slice none 0 0, .slice none 0 0], Hp.own Chn.SZ 1 (.slice q.1 q.2.1 q.2.2) (Chn.pathL (Mt.blsP (Mt.stM c (Mt.ms0 c.n) cs).bl) b), Hp.rec_ b3 [.slice a0 m0 c0, .slice a1 m1 c1, .slice a2 m2 c2, .slice a3 m3 c3], Hp.own Mt.FB 1 (.slice a3 m3 c3) ds, Hp.rec_ b2 [.slice a0 m0 c0, .slice a1 m1 c1, .slice a2 m2 c2, .slice a3 m3 c3], Hp.own Mt.FZ 1 (.slice a0 m0 c0) (Mt.codesM c (Mt.ms0 c.n) cs), Hp.own Mt.FK 2 (.slice a1 m1 c1) ((Mt.stM c (Mt.ms0 c.n) cs).bl), Hp.own Mt.FB 1 (.slice a2 m2 c2) (Mt.certL c (Mt.stM c (Mt.ms0 c.n) cs)), P, Hp.rec_ b1 [.slice none 0 0, .slice none 0 0, .slice none 0 0, .slice none 0 0, .slice none 0 0, .slice none 0 0, .slice none 0 0]]) rfl ?_
      refine Gx.val rfl rfl rfl (val_move rfl rfl) ?_
      refine Gx.val rfl rfl rfl (val_extract rfl rfl rfl) ?_
      refine Gx.val rfl rfl rfl (val_extract rfl rfl rfl) ?_
      refine Gx.val rfl rfl rfl (val_extract rfl rfl rfl) ?_
      refine Gx.val rfl rfl rfl (Val.cast (val_fieldAddr rfl Tryd.underlying37 rfl Tryd.ty35 rfl rfl) (v' := ptr b4 6) rfl) ?_
      refine Gx.eff0 rfl rfl (eff_store rfl Tryd.ty35 rfl rfl (us := [av]) hiav.cellsL rfl hiav.all (k := 3) rfl (rfl) (vs' := [.slice a0 m0 c0, .slice a1 m1 c1, .slice a2 m2 c2, .slice a3 m3 c3, .slice sa16 sn17 sc18, .slice none 0 0, av]) (rfl) (l' := [Hp.own Lg.FA 2 av (Lg.accsL (Lg.start0 money) (paysB (Mt.stM c (Mt.ms0 c.n) cs).bl ds pays)), Hp.own Lg.FZ 1 zv (Lg.codesL (Lg.start0 money) (paysB (Mt.stM c (Mt.ms0 c.n) cs).bl ds pays)), Hp.own Lg.FP 4 (.slice sa16 sn17 sc18) (paysB (Mt.stM c (Mt.ms0 c.n) cs).bl ds pays), Hp.rec_ b4 [.slice a0 m0 c0, .slice a1 m1 c1, .slice a2 m2 c2, .slice a3 m3 c3, .slice sa16 sn17 sc18, .slice none 0 0, av], Hp.own Chn.SZ 1 (.slice q.1 q.2.1 q.2.2) (Chn.pathL (Mt.blsP (Mt.stM c (Mt.ms0 c.n) cs).bl) b), Hp.rec_ b3 [.slice a0 m0 c0, .slice a1 m1 c1, .slice a2 m2 c2, .slice a3 m3 c3], Hp.own Mt.FB 1 (.slice a3 m3 c3) ds, Hp.rec_ b2 [.slice a0 m0 c0, .slice a1 m1 c1, .slice a2 m2 c2, .slice a3 m3 c3], Hp.own Mt.FZ 1 (.slice a0 m0 c0) (Mt.codesM c (Mt.ms0 c.n) cs), Hp.own Mt.FK 2 (.slice a1 m1 c1) ((Mt.stM c (Mt.ms0 c.n) cs).bl), Hp.own Mt.FB 1 (.slice a2 m2 c2) (Mt.certL c (Mt.stM c (Mt.ms0 c.n) cs)), P, Hp.rec_ b1 [.slice none 0 0, .slice none 0 0, .slice none 0 0, .slice none 0 0, .slice none 0 0, .slice none 0 0, .slice none 0 0]]) rfl) ?_
      rintro _ _ rfl
      refine Gx.val rfl rfl rfl (Val.cast (val_fieldAddr rfl Tryd.underlying37 rfl Tryd.ty26 rfl rfl) (v' := ptr b4 5) rfl) ?_
      refine Gx.eff0 rfl rfl (eff_store rfl Tryd.ty26 rfl rfl (us := [zv]) hizv.cellsL rfl hizv.all (k := 3) rfl (rfl) (vs' := [.slice a0 m0 c0, .slice a1 m1 c1, .slice a2 m2 c2, .slice a3 m3 c3, .slice sa16 sn17 sc18, zv, av]) (rfl) (l' := [Hp.own Lg.FA 2 av (Lg.accsL (Lg.start0 money) (paysB (Mt.stM c (Mt.ms0 c.n) cs).bl ds pays)), Hp.own Lg.FZ 1 zv (Lg.codesL (Lg.start0 money) (paysB (Mt.stM c (Mt.ms0 c.n) cs).bl ds pays)), Hp.own Lg.FP 4 (.slice sa16 sn17 sc18) (paysB (Mt.stM c (Mt.ms0 c.n) cs).bl ds pays), Hp.rec_ b4 [.slice a0 m0 c0, .slice a1 m1 c1, .slice a2 m2 c2, .slice a3 m3 c3, .slice sa16 sn17 sc18, zv, av], Hp.own Chn.SZ 1 (.slice q.1 q.2.1 q.2.2) (Chn.pathL (Mt.blsP (Mt.stM c (Mt.ms0 c.n) cs).bl) b), Hp.rec_ b3 [.slice a0 m0 c0, .slice a1 m1 c1, .slice a2 m2 c2, .slice a3 m3 c3], Hp.own Mt.FB 1 (.slice a3 m3 c3) ds, Hp.rec_ b2 [.slice a0 m0 c0, .slice a1 m1 c1, .slice a2 m2 c2, .slice a3 m3 c3], Hp.own Mt.FZ 1 (.slice a0 m0 c0) (Mt.codesM c (Mt.ms0 c.n) cs), Hp.own Mt.FK 2 (.slice a1 m1 c1) ((Mt.stM c (Mt.ms0 c.n) cs).bl), Hp.own Mt.FB 1 (.slice a2 m2 c2) (Mt.certL c (Mt.stM c (Mt.ms0 c.n) cs)), P, Hp.rec_ b1 [.slice none 0 0, .slice none 0 0, .slice none 0 0, .slice none 0 0, .slice none 0 0, .slice none 0 0, .slice none 0 0]]) rfl) ?_
      rintro _ _ rfl
      refine Gx.val rfl rfl rfl (val_assign rfl rfl) ?_
      refine Gx.done ?_
      refine Gx.thenN ?_
      refine Gx.seq ?_
      obtain ⟨sa19, sn20, sc21, rfl⟩ := hiav
      obtain ⟨sa22, sn23, sc24, rfl⟩ := hizv
      refine Gx.region ?_
      refine Gx.val rfl rfl rfl (val_move rfl rfl) ?_
      refine Gx.val rfl rfl rfl (Val.cast (val_neq rfl rfl rfl) (v' := .bool false) rfl) ?_
      refine Gx.done ?_
      refine Gx.thenN ?_
      refine Gx.f rfl ?_
      refine Gx.skip ?_
      refine Gx.thenN ?_
      refine Gx.seq ?_
      refine Gx.region ?_
      refine Gx.val rfl rfl rfl (Val.cast (val_loadA rfl Tryd.ty37 rfl rfl rfl (cells_rec (k := 3) rfl)) (v' := .agg #[.slice a0 m0 c0, .slice a1 m1 c1, .slice a2 m2 c2, .slice a3 m3 c3, .slice sa16 sn17 sc18, .slice sa22 sn23 sc24, .slice sa19 sn20 sc21]) rfl) ?_
      refine Gx.eff0 rfl rfl (eff_store rfl Tryd.ty37 rfl rfl (us := [.slice a0 m0 c0, .slice a1 m1 c1, .slice a2 m2 c2, .slice a3 m3 c3, .slice sa16 sn17 sc18, .slice sa22 sn23 sc24, .slice sa19 sn20 sc21]) rfl rfl rfl (k := 12) rfl (rfl) (vs' := [.slice a0 m0 c0, .slice a1 m1 c1, .slice a2 m2 c2, .slice a3 m3 c3, .slice sa16 sn17 sc18, .slice sa22 sn23 sc24, .slice sa19 sn20 sc21]) (rfl) (l' := [Hp.own Lg.FA 2 (.slice sa19 sn20 sc21) (Lg.accsL (Lg.start0 money) (paysB (Mt.stM c (Mt.ms0 c.n) cs).bl ds pays)), Hp.own Lg.FZ 1 (.slice sa22 sn23 sc24) (Lg.codesL (Lg.start0 money) (paysB (Mt.stM c (Mt.ms0 c.n) cs).bl ds pays)), Hp.own Lg.FP 4 (.slice sa16 sn17 sc18) (paysB (Mt.stM c (Mt.ms0 c.n) cs).bl ds pays), Hp.rec_ b4 [.slice a0 m0 c0, .slice a1 m1 c1, .slice a2 m2 c2, .slice a3 m3 c3, .slice sa16 sn17 sc18, .slice sa22 sn23 sc24, .slice sa19 sn20 sc21], Hp.own Chn.SZ 1 (.slice q.1 q.2.1 q.2.2) (Chn.pathL (Mt.blsP (Mt.stM c (Mt.ms0 c.n) cs).bl) b), Hp.rec_ b3 [.slice a0 m0 c0, .slice a1 m1 c1, .slice a2 m2 c2, .slice a3 m3 c3], Hp.own Mt.FB 1 (.slice a3 m3 c3) ds, Hp.rec_ b2 [.slice a0 m0 c0, .slice a1 m1 c1, .slice a2 m2 c2, .slice a3 m3 c3], Hp.own Mt.FZ 1 (.slice a0 m0 c0) (Mt.codesM c (Mt.ms0 c.n) cs), Hp.own Mt.FK 2 (.slice a1 m1 c1) ((Mt.stM c (Mt.ms0 c.n) cs).bl), Hp.own Mt.FB 1 (.slice a2 m2 c2) (Mt.certL c (Mt.stM c (Mt.ms0 c.n) cs)), P, Hp.rec_ b1 [.slice a0 m0 c0, .slice a1 m1 c1, .slice a2 m2 c2, .slice a3 m3 c3, .slice sa16 sn17 sc18, .slice sa22 sn23 sc24, .slice sa19 sn20 sc21]]) rfl) ?_
      rintro _ _ rfl
      refine Gx.val rfl rfl rfl (val_assign rfl rfl) ?_
      refine Gx.done ?_
      refine Gx.thenN ?_
      refine Gx.ret ?_
      refine Gx.drop 11 rfl ?_
      refine Gx.drop 7 rfl ?_
      refine Gx.drop 5 rfl ?_
      refine Gx.drop 4 rfl ?_
      refine Gx.drop 3 rfl ?_
      refine Gx.front 7 rfl ?_
      refine Gx.front 1 rfl ?_
      refine Gx.front 2 rfl ?_
      refine Gx.front 3 rfl ?_
      refine Gx.front 4 rfl ?_
      refine Gx.front 7 rfl ?_
      refine Gx.front 7 rfl ?_
      refine Gx.front 7 rfl ?_
      refine Gx.retC2 Tryd.results5 Tryd.ty37 rfl rfl (us := [.slice a0 m0 c0, .slice a1 m1 c1, .slice a2 m2 c2, .slice a3 m3 c3, .slice sa16 sn17 sc18, .slice sa22 sn23 sc24, .slice sa19 sn20 sc21]) rfl (k := 7) rfl rfl ?_
      exact ⟨_, _, _, _, _, _, _, _, rfl, rfl⟩
  rintro v l w ⟨cv, bv, wv, dv, qv, zv, av, P, rfl, rfl⟩ H
  exact ⟨cv, bv, wv, dv, qv, zv, av, rfl, (H.at_ (k := 0) rfl).sls (by omega), (H.at_ (k := 1) rfl).sls (by omega), (H.at_ (k := 2) rfl).sls (by unfold Mt.certL; rw [List.length_map, List.length_range]; omega), (H.at_ (k := 3) rfl).sls (by omega), (H.at_ (k := 4) rfl).sls (by omega), (H.at_ (k := 5) rfl).sls (by rw [Lg.codesL_len]; omega), (H.at_ (k := 6) rfl).sls (by rw [Lg.accsL_len, Lg.start_len]; have := hok.high; omega)⟩
end Go.Proofs.YtfeeociajllbhaaDoor
