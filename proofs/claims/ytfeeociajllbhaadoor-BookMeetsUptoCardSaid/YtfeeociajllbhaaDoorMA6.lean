/- One gives a round up. The walk. No condition. -/
import Derived.Test.YtfeeociajllbhaaDoorMA5
namespace Go.Proofs.YtfeeociajllbhaaDoor.Mt
open Go.RowKit
set_option linter.unusedVariables false
set_option linter.unusedSimpArgs false
set_option maxRecDepth 100000

theorem gave_look (gv : Gv) (i r : Nat) : ((getM gv (smN i, smN r)).map vI).getD (.int .i64 0) = vI (gaveM gv i r) := by unfold gaveM; cases getM gv (smN i, smN r) <;> rfl
theorem gave_look2 (gv : Gv) (i r : Nat) (x : Int) : ((getM (putM gv (smN i, smN r) x) (smN i, smN r)).map vI).getD (.int .i64 0) = vI x := by rw [getM_put, if_pos rfl]; rfl
theorem roundM_yes {c : MC} {s : MS} {k : Nat} {x : Bk} (hx : s.bl[k]? = some x) (h : certM c s k = true) : roundM c s ((x.rnd : Nat) : Int) = true := by
  unfold roundM
  refine List.any_eq_true.2 ⟨k, List.mem_range.2 (List.getElem?_eq_some_iff.1 hx).1, ?_⟩
  rw [h, Bool.and_true]
  exact decide_eq_true (by unfold rndM; rw [hx]; rfl)
theorem roundM_no {c : MC} {s : MS} {h : Int} (H : ∀ b, b < s.bl.length → ¬ (((rndM s b : Nat) : Int) = h ∧ certM c s b = true)) : roundM c s h = false := by
  unfold roundM
  refine List.any_eq_false.2 fun b hb => ?_
  rw [Bool.and_eq_true, decide_eq_true_iff]
  exact H b (List.mem_range.1 hb)
theorem late_any {W w : World} {S T : Nat} {c : MC} {s : MS} {R : Hp} {i : Nat} {kind blk rnd hi : Int} (hi9 : i < c.n) (ok : OkM c) (bd : BdM T c s) (hT : T ≤ 1000) (H : Sat W w (worldH S c s * R)) :
    Calls Tryd.prog 18 #[ptr S 0, .agg #[.int .i64 kind, .int .i64 ((i : Nat) : Int), .int .i64 blk, .int .i64 rnd, .int .i64 hi]] w (Ret W fun v l => v = .int .i64 (lateM c s i ⟨kind, ((i : Nat) : Int), blk, rnd, hi⟩).1 ∧ sep l = worldH S c (lateM c s i ⟨kind, ((i : Nat) : Int), blk, rnd, hi⟩).2 * R) := by
  have hcn := ok.n7
  have hL := ok.L
  have hb40 := bd.b40
  have hvl := bd.vlen
  have hml := bd.mlen
  have hpos := bd.pos
  have hltl := bd.ltl
  have hgvl := bd.gvl
  obtain ⟨bv, vv, mv, lb, gb, H⟩ := worldH.open_ H
  have hbv : IsS bv := isS_own (H.at_ (k := 1) rfl)
  have hvv : IsS vv := isS_own (H.at_ (k := 2) rfl)
  have hmv : IsS mv := isS_own (H.at_ (k := 3) rfl)
  refine Gx.enter (l := [Hp.rec_ S [.int .i64 ((c.n : Nat) : Int), .int .i64 ((c.need : Nat) : Int), .int .u32 ((c.L : Nat) : Int), bv, vv, mv, .map (some lb), .map (some gb)], Hp.own FK 2 bv s.bl, Hp.own FV 1 vv s.vt, Hp.own FR 2 mv s.ms, Hp.map Tryd.prog 92 tripL vI lb s.lt, Hp.map Tryd.prog 93 pairL vI gb s.gv, R]) Tryd.func18 rfl Tryd.ntmps18 rfl (H) ?_
  refine Gx.know (m' := [(0, ptr S 0), (1, .agg #[.int .i64 kind, .int .i64 ((i : Nat) : Int), .int .i64 blk, .int .i64 rnd, .int .i64 hi])]) (.cons rfl (.cons rfl .nil)) ?_
  refine Gx.seq ?_
  refine Gx.region ?_
  refine Gx.eff rfl rfl rfl (eff_box rfl rfl (vs := [.int .i64 kind, .int .i64 ((i : Nat) : Int), .int .i64 blk, .int .i64 rnd, .int .i64 hi]) rfl) ?_
  rintro _ _ ⟨b1, rfl, rfl⟩
  refine Gx.val rfl rfl rfl (val_assign rfl rfl) ?_
  refine Gx.done ?_
  refine Gx.thenN ?_
  refine Gx.seq ?_
  refine Gx.seq ?_
  refine Gx.region ?_
  refine Gx.val rfl rfl rfl (Val.cast (val_fieldAddr rfl Tryd.underlying55 rfl Tryd.ty3 rfl rfl) (v' := ptr b1 3) rfl) ?_
  refine Gx.val rfl rfl rfl (val_load rfl Tryd.ty3 rfl rfl (cell_rec (k := 0) rfl rfl)) ?_
  refine Gx.val rfl rfl rfl (val_lss rfl rfl rfl) ?_
  refine Gx.val rfl rfl rfl (val_move rfl rfl) ?_
  refine Gx.cases (t := 13) rfl (fun h2 => ?_) (fun h2 => ?_)
  · refine Gx.skipg rfl rfl rfl rfl rfl rfl ?_
    refine Gx.skipg rfl rfl rfl rfl rfl rfl ?_
    refine Gx.skipg rfl rfl rfl rfl rfl rfl ?_
    refine Gx.val rfl rfl rfl (val_pickT rfl rfl rfl) ?_
    refine Gx.done ?_
    refine Gx.thenN ?_
    refine Gx.t rfl ?_
    refine Gx.seq ?_
    refine Gx.region ?_
    refine Gx.val rfl rfl rfl (val_assign rfl rfl) ?_
    refine Gx.done ?_
    refine Gx.thenN ?_
    refine Gx.ret ?_
    refine Gx.thenR ?_
    refine Gx.front 6 rfl ?_
    refine Gx.front 6 rfl ?_
    refine Gx.front 6 rfl ?_
    refine Gx.front 6 rfl ?_
    refine Gx.front 6 rfl ?_
    refine Gx.front 6 rfl ?_
    refine Gx.sat (l' := [worldH S c s, Hp.rec_ b1 [.int .i64 kind, .int .i64 ((i : Nat) : Int), .int .i64 blk, .int .i64 rnd, .int .i64 hi], R]) (fun w H => worldH.shut (S := S) (c := c) (s := s) (bv := bv) (vv := vv) (mv := mv) (lb := lb) (gb := gb) (R := sep [Hp.rec_ b1 [.int .i64 kind, .int .i64 ((i : Nat) : Int), .int .i64 blk, .int .i64 rnd, .int .i64 hi], R]) H) ?_
    refine Gx.drop 1 rfl ?_
    refine Gx.norm (l' := [worldH S c s, R]) rfl ?_
    refine Gx.ret1 Tryd.results18 rfl ?_
    have hE : lateM c s i ⟨kind, ((i : Nat) : Int), blk, rnd, hi⟩ = (2, s) := by
      unfold lateM; rw [if_pos (by dsimp only; omega)]
    exact ⟨by rw [hE], by rw [hE]; exact sep1 _ _⟩
  · refine Gx.valg rfl rfl rfl rfl rfl (Val.cast (val_fieldAddr rfl Tryd.underlying55 rfl Tryd.ty3 rfl rfl) (v' := ptr b1 3) rfl) ?_
    refine Gx.valg rfl rfl rfl rfl rfl (val_load rfl Tryd.ty3 rfl rfl (cell_rec (k := 0) rfl rfl)) ?_
    refine Gx.valg rfl rfl rfl rfl rfl (val_gtr rfl rfl rfl) ?_
    refine Gx.val rfl rfl rfl (val_pickF rfl rfl rfl) ?_
    refine Gx.done ?_
    refine Gx.thenN ?_
    refine Gx.dec rfl (fun h3 => ?_) (fun h3 => ?_)
    · refine Gx.seq ?_
      refine Gx.region ?_
      refine Gx.val rfl rfl rfl (val_assign rfl rfl) ?_
      refine Gx.done ?_
      refine Gx.thenN ?_
      refine Gx.ret ?_
      refine Gx.thenR ?_
      refine Gx.front 6 rfl ?_
      refine Gx.front 6 rfl ?_
      refine Gx.front 6 rfl ?_
      refine Gx.front 6 rfl ?_
      refine Gx.front 6 rfl ?_
      refine Gx.front 6 rfl ?_
      refine Gx.sat (l' := [worldH S c s, Hp.rec_ b1 [.int .i64 kind, .int .i64 ((i : Nat) : Int), .int .i64 blk, .int .i64 rnd, .int .i64 hi], R]) (fun w H => worldH.shut (S := S) (c := c) (s := s) (bv := bv) (vv := vv) (mv := mv) (lb := lb) (gb := gb) (R := sep [Hp.rec_ b1 [.int .i64 kind, .int .i64 ((i : Nat) : Int), .int .i64 blk, .int .i64 rnd, .int .i64 hi], R]) H) ?_
      refine Gx.drop 1 rfl ?_
      refine Gx.norm (l' := [worldH S c s, R]) rfl ?_
      refine Gx.ret1 Tryd.results18 rfl ?_
      have hE : lateM c s i ⟨kind, ((i : Nat) : Int), blk, rnd, hi⟩ = (2, s) := by
        unfold lateM; rw [if_pos (by dsimp only; omega)]
      exact ⟨by rw [hE], by rw [hE]; exact sep1 _ _⟩
    · refine Gx.skip ?_
      refine Gx.thenN ?_
      refine Gx.seq ?_
      obtain ⟨rr, rfl⟩ := Int.eq_ofNat_of_zero_le (a := rnd) (by omega)
      obtain ⟨m, hm⟩ := get_of_lt (xs := s.ms) (k := i) (by omega)
      have hm9 := bd.mb _ (List.mem_of_getElem? hm)
      have eM : memM s i = m := by unfold memM; rw [hm]; rfl
      have eK1 : (smN rr).val = rr := smN_val (by omega)
      have eK2 : (smN i).val = i := smN_val (by omega)
      have hg0 := bd.gva (smN i, smN rr)
      have hg1 : 0 ≤ gaveM s.gv i rr ∧ gaveM s.gv i rr ≤ T := hg0
      refine Gx.region ?_
      refine Gx.val rfl rfl rfl (Val.cast (val_fieldAddr rfl Tryd.underlying55 rfl Tryd.ty3 rfl rfl) (v' := ptr b1 3) rfl) ?_
      refine Gx.val rfl rfl rfl (val_load rfl Tryd.ty3 rfl rfl (cell_rec (k := 0) rfl rfl)) ?_
      refine Gx.val rfl rfl rfl (Val.cast (val_fieldAddr rfl Tryd.underlying55 rfl Tryd.ty3 rfl rfl) (v' := ptr b1 1) rfl) ?_
      refine Gx.val rfl rfl rfl (val_load rfl Tryd.ty3 rfl rfl (cell_rec (k := 0) rfl rfl)) ?_
      refine Gx.val rfl rfl rfl (Val.cast (val_fieldAddr rfl Tryd.underlying55 rfl Tryd.ty3 rfl rfl) (v' := ptr b1 4) rfl) ?_
      refine Gx.val rfl rfl rfl (val_load rfl Tryd.ty3 rfl rfl (cell_rec (k := 0) rfl rfl)) ?_
      refine Gx.val rfl rfl rfl (val_build rfl (qs := [(0, .int .i64 ((rr : Nat) : Int)), (1, .int .i64 ((i : Nat) : Int)), (2, .int .i64 hi)]) rfl rfl (fun w => by go_simp) (v := .agg #[.int .i64 ((rr : Nat) : Int), .int .i64 ((i : Nat) : Int), .int .i64 hi])) ?_
      refine Gx.eff rfl rfl rfl (eff_alloc rfl Tryd.ty92 (vs := [.int .i64 0, .int .i64 0, .int .i64 0]) rfl) ?_
      rintro _ _ ⟨b4, rfl, rfl⟩
      refine Gx.eff0 rfl rfl (eff_store rfl Tryd.ty92 rfl rfl (us := [.int .i64 ((rr : Nat) : Int), .int .i64 ((i : Nat) : Int), .int .i64 hi]) rfl rfl rfl (k := 0) rfl (rfl) (vs' := [.int .i64 ((rr : Nat) : Int), .int .i64 ((i : Nat) : Int), .int .i64 hi]) (rfl) (l' := [Hp.rec_ b4 [.int .i64 ((rr : Nat) : Int), .int .i64 ((i : Nat) : Int), .int .i64 hi], Hp.rec_ b1 [.int .i64 kind, .int .i64 ((i : Nat) : Int), .int .i64 blk, .int .i64 ((rr : Nat) : Int), .int .i64 hi], Hp.rec_ S [.int .i64 ((c.n : Nat) : Int), .int .i64 ((c.need : Nat) : Int), .int .u32 ((c.L : Nat) : Int), bv, vv, mv, .map (some lb), .map (some gb)], Hp.own FK 2 bv s.bl, Hp.own FV 1 vv s.vt, Hp.own FR 2 mv s.ms, Hp.map Tryd.prog 92 tripL vI lb s.lt, Hp.map Tryd.prog 93 pairL vI gb s.gv, R]) rfl) ?_
      rintro _ _ rfl
      refine Gx.done ?_
      refine Gx.thenN ?_
      refine Gx.seq ?_
      refine Gx.seq ?_
      refine Gx.region ?_
      refine Gx.val rfl rfl rfl (val_move rfl rfl) ?_
      refine Gx.val rfl rfl rfl (Val.cast (val_fieldAddr rfl Tryd.underlying55 rfl Tryd.ty3 rfl rfl) (v' := ptr b1 1) rfl) ?_
      refine Gx.val rfl rfl rfl (val_load rfl Tryd.ty3 rfl rfl (cell_rec (k := 1) rfl rfl)) ?_
      refine Gx.val rfl rfl rfl (val_call (vs := [ptr S 0, .int .i64 ((i : Nat) : Int)]) rfl Tryd.fn31 rfl (fun w H => lies_any (i := i) ((H.at_ (k := 2) rfl).rec_.1) ((H.at_ (k := 2) rfl).cell 2 rfl) hL (by omega))) ?_
      refine Gx.done ?_
      refine Gx.thenN ?_
      refine Gx.bool rfl (fun h5 => ?_) (fun h5 => ?_)
      · refine Gx.seq ?_
        refine Gx.seq ?_
        refine Gx.region ?_
        refine Gx.val rfl rfl rfl (val_move rfl rfl) ?_
        refine Gx.val rfl rfl rfl (val_nilCheck rfl rfl) ?_
        refine Gx.val rfl rfl rfl (Val.cast (val_fieldAddr rfl Tryd.underlying53 rfl Tryd.ty27 rfl rfl) (v' := ptr S 3) rfl) ?_
        refine Gx.val rfl rfl rfl (val_load rfl Tryd.ty27 rfl rfl (cell_rec (k := 2) rfl rfl)) ?_
        refine Gx.val rfl rfl rfl (val_len rfl Tryd.underlying27 rfl (len_own (k := 3) rfl)) ?_
        refine Gx.val rfl rfl rfl (val_move rfl rfl) ?_
        refine Gx.done ?_
        refine Gx.thenN ?_
        refine Gx.block ?_
        refine Gx.front 8 rfl ?_
        refine Gx.front 2 rfl ?_
        refine Gx.front 2 rfl ?_
        refine Gx.front 8 rfl ?_
        refine Gx.front 8 rfl ?_
        refine Gx.front 8 rfl ?_
        refine Gx.front 8 rfl ?_
        refine Gx.front 8 rfl ?_
        refine Gx.front 8 rfl ?_
        refine Gx.loop (ι := Nat) (fun ξ => (ξ ≤ s.bl.length) ∧ (∀ b, b < ξ → ¬ (((rndM s b : Nat) : Int) = hi ∧ certM c s b = true))) (fun ξ => [(0, ptr S 0), (3, ptr b1 0), (5, ptr b4 0), (32, bv), (33, .int .i64 ((s.bl.length : Nat) : Int)), (34, .int .i64 ((ξ : Nat) : Int))]) (fun ξ => [Hp.rec_ S [.int .i64 ((c.n : Nat) : Int), .int .i64 ((c.need : Nat) : Int), .int .u32 ((c.L : Nat) : Int), bv, vv, mv, .map (some lb), .map (some gb)], Hp.own FK 2 bv s.bl, Hp.own FV 1 vv s.vt, Hp.own FR 2 mv s.ms, Hp.map Tryd.prog 92 tripL vI lb s.lt, Hp.map Tryd.prog 93 pairL vI gb s.gv, Hp.rec_ b4 [.int .i64 ((rr : Nat) : Int), .int .i64 ((i : Nat) : Int), .int .i64 hi], Hp.rec_ b1 [.int .i64 kind, .int .i64 ((i : Nat) : Int), .int .i64 blk, .int .i64 ((rr : Nat) : Int), .int .i64 hi], R]) (fun ξ => s.bl.length - ξ) 0 ⟨Nat.zero_le _, fun b hb => absurd hb (Nat.not_lt_zero b)⟩ ((.cons rfl (.cons rfl (.cons rfl (.cons rfl (.cons rfl (.cons rfl .nil))))))) rfl ?_
        rintro k ⟨hk, hno⟩
        refine Gx.know (m' := [(0, ptr S 0), (3, ptr b1 0), (5, ptr b4 0), (32, bv), (33, .int .i64 ((s.bl.length : Nat) : Int)), (34, .int .i64 ((k : Nat) : Int))]) (.cons rfl (.cons rfl (.cons rfl (.cons rfl (.cons rfl (.cons rfl .nil)))))) (Gx.norm (l' := [Hp.rec_ S [.int .i64 ((c.n : Nat) : Int), .int .i64 ((c.need : Nat) : Int), .int .u32 ((c.L : Nat) : Int), bv, vv, mv, .map (some lb), .map (some gb)], Hp.own FK 2 bv s.bl, Hp.own FV 1 vv s.vt, Hp.own FR 2 mv s.ms, Hp.map Tryd.prog 92 tripL vI lb s.lt, Hp.map Tryd.prog 93 pairL vI gb s.gv, Hp.rec_ b4 [.int .i64 ((rr : Nat) : Int), .int .i64 ((i : Nat) : Int), .int .i64 hi], Hp.rec_ b1 [.int .i64 kind, .int .i64 ((i : Nat) : Int), .int .i64 blk, .int .i64 ((rr : Nat) : Int), .int .i64 hi], R]) rfl ?_)
        refine Gx.seq ?_
        refine Gx.region ?_
        refine Gx.val rfl rfl rfl (val_lss rfl rfl rfl) ?_
        refine Gx.done ?_
        refine Gx.thenN ?_
        refine Gx.seq ?_
        refine Gx.dec rfl (fun h6 => ?_) (fun h6 => ?_)
        · refine Gx.skip ?_
          refine Gx.thenN ?_
          refine Gx.seq ?_
          refine Gx.block ?_
          refine Gx.seq ?_
          obtain ⟨yy, hyy⟩ := get_of_lt (xs := s.bl) (k := k) (by omega)
          have hyy9 := bd.rnd _ _ hyy
          have eRk : rndM s k = yy.rnd := by unfold rndM; rw [hyy]; rfl
          refine Gx.region ?_
          refine Gx.val rfl rfl rfl (val_move rfl rfl) ?_
          refine Gx.val rfl rfl rfl (val_ixa rfl Tryd.underlying27 Tryd.ty47 rfl rfl (j := k) (rfl) (reach_own (k := 1) rfl hyy)) ?_
          refine Gx.val rfl rfl rfl (Val.cast (val_loadA rfl Tryd.ty47 rfl rfl rfl (cells_own (k := 1) rfl hyy)) (v' := .agg #[.int .i64 yy.par, .int .i64 ((yy.rnd : Nat) : Int)]) rfl) ?_
          refine Gx.eff rfl rfl rfl (eff_alloc rfl Tryd.ty47 (vs := [.int .i64 0, .int .i64 0]) rfl) ?_
          rintro _ _ ⟨b7, rfl, rfl⟩
          refine Gx.val rfl rfl rfl (val_assign rfl rfl) ?_
          refine Gx.eff0 rfl rfl (eff_store rfl Tryd.ty47 rfl rfl (us := [.int .i64 yy.par, .int .i64 ((yy.rnd : Nat) : Int)]) rfl rfl rfl (k := 0) rfl (rfl) (vs' := [.int .i64 yy.par, .int .i64 ((yy.rnd : Nat) : Int)]) (rfl) (l' := [Hp.rec_ b7 [.int .i64 yy.par, .int .i64 ((yy.rnd : Nat) : Int)], Hp.rec_ S [.int .i64 ((c.n : Nat) : Int), .int .i64 ((c.need : Nat) : Int), .int .u32 ((c.L : Nat) : Int), bv, vv, mv, .map (some lb), .map (some gb)], Hp.own FK 2 bv s.bl, Hp.own FV 1 vv s.vt, Hp.own FR 2 mv s.ms, Hp.map Tryd.prog 92 tripL vI lb s.lt, Hp.map Tryd.prog 93 pairL vI gb s.gv, Hp.rec_ b4 [.int .i64 ((rr : Nat) : Int), .int .i64 ((i : Nat) : Int), .int .i64 hi], Hp.rec_ b1 [.int .i64 kind, .int .i64 ((i : Nat) : Int), .int .i64 blk, .int .i64 ((rr : Nat) : Int), .int .i64 hi], R]) rfl) ?_
          rintro _ _ rfl
          refine Gx.done ?_
          refine Gx.thenN ?_
          refine Gx.seq ?_
          refine Gx.region ?_
          refine Gx.val rfl rfl rfl (Val.cast (val_fieldAddr rfl Tryd.underlying47 rfl Tryd.ty3 rfl rfl) (v' := ptr b7 1) rfl) ?_
          refine Gx.val rfl rfl rfl (val_load rfl Tryd.ty3 rfl rfl (cell_rec (k := 0) rfl rfl)) ?_
          refine Gx.val rfl rfl rfl (Val.cast (val_fieldAddr rfl Tryd.underlying55 rfl Tryd.ty3 rfl rfl) (v' := ptr b1 4) rfl) ?_
          refine Gx.val rfl rfl rfl (val_load rfl Tryd.ty3 rfl rfl (cell_rec (k := 8) rfl rfl)) ?_
          refine Gx.val rfl rfl rfl (val_eql rfl rfl rfl) ?_
          refine Gx.val rfl rfl rfl (val_move rfl rfl) ?_
          refine Gx.cases (t := 44) rfl (fun h8 => ?_) (fun h8 => ?_)
          · refine Gx.valg rfl rfl rfl rfl rfl (val_move rfl rfl) ?_
            refine Gx.valg rfl rfl rfl rfl rfl (val_move rfl rfl) ?_
            refine Gx.valg rfl rfl rfl rfl rfl (val_call (vs := [ptr S 0, .int .i64 ((k : Nat) : Int)]) rfl Tryd.fn9 rfl (fun w H => cert_any (s := s) (b := k) ((H.at_ (k := 1) rfl).rec_.1) ((H.at_ (k := 1) rfl).cell 1 rfl) ((H.at_ (k := 1) rfl).cell 4 rfl) ((H.at_ (k := 3) rfl).sls (by first | omega | (simp; omega))) (bd.v128 ok) (by omega))) ?_
            refine Gx.val rfl rfl rfl (val_pickT rfl rfl rfl) ?_
            refine Gx.done ?_
            refine Gx.thenN ?_
            refine Gx.bool rfl (fun h9 => ?_) (fun h9 => ?_)
            · refine Gx.seq ?_
              obtain rfl : hi = ((yy.rnd : Nat) : Int) := by omega
              have eK3 : (smN yy.rnd).val = yy.rnd := smN_val (by omega)
              refine Gx.norm (l' := [Hp.rec_ b7 [.int .i64 yy.par, .int .i64 ((yy.rnd : Nat) : Int)], Hp.rec_ S [.int .i64 ((c.n : Nat) : Int), .int .i64 ((c.need : Nat) : Int), .int .u32 ((c.L : Nat) : Int), bv, vv, mv, .map (some lb), .map (some gb)], Hp.own FK 2 bv s.bl, Hp.own FV 1 vv s.vt, Hp.own FR 2 mv s.ms, Hp.map Tryd.prog 92 tripL vI lb s.lt, Hp.map Tryd.prog 93 pairL vI gb s.gv, Hp.rec_ b4 [.int .i64 (((smN rr).val : Nat) : Int), .int .i64 (((smN i).val : Nat) : Int), .int .i64 (((smN yy.rnd).val : Nat) : Int)], Hp.rec_ b1 [.int .i64 kind, .int .i64 ((i : Nat) : Int), .int .i64 blk, .int .i64 ((rr : Nat) : Int), .int .i64 ((yy.rnd : Nat) : Int)], R]) (by rw [eK1, eK2, eK3] <;> rfl) ?_
              refine Gx.regionO (fun j => false) 5 [0, 1, 2, 3, 4] (fun _ => [Hp.rec_ b7 [.int .i64 yy.par, .int .i64 ((yy.rnd : Nat) : Int)], Hp.rec_ S [.int .i64 ((c.n : Nat) : Int), .int .i64 ((c.need : Nat) : Int), .int .u32 ((c.L : Nat) : Int), bv, vv, mv, .map (some lb), .map (some gb)], Hp.own FK 2 bv s.bl, Hp.own FV 1 vv s.vt, Hp.own FR 2 mv s.ms, Hp.map Tryd.prog 92 tripL vI lb s.lt, Hp.map Tryd.prog 93 pairL vI gb s.gv, Hp.rec_ b4 [.int .i64 (((smN rr).val : Nat) : Int), .int .i64 (((smN i).val : Nat) : Int), .int .i64 (((smN yy.rnd).val : Nat) : Int)], Hp.rec_ b1 [.int .i64 kind, .int .i64 ((i : Nat) : Int), .int .i64 blk, .int .i64 ((rr : Nat) : Int), .int .i64 ((yy.rnd : Nat) : Int)], R]) Tryd.mixed (by kernel_rfl) rfl ?_
              refine Gw.val rfl rfl rfl rfl rfl (fun us => val_move rfl rfl) ?_
              refine Gw.val rfl rfl rfl rfl rfl (fun us => val_nilCheck rfl rfl) ?_
              refine Gw.val rfl rfl rfl rfl rfl (fun us => Val.cast (val_fieldAddr rfl Tryd.underlying53 rfl Tryd.ty50 rfl rfl) (v' := ptr S 6) rfl) ?_
              refine Gw.val0 rfl rfl rfl (by kernel_rfl) rfl rfl (val_load rfl Tryd.ty50 rfl rfl (cell_rec (k := 1) rfl rfl)) ?_
              refine Gw.val0 rfl rfl rfl (by kernel_rfl) rfl rfl (Val.cast (val_loadA rfl Tryd.ty92 rfl rfl rfl (cells_rec (k := 7) rfl)) (v' := .agg #[.int .i64 (((smN rr).val : Nat) : Int), .int .i64 (((smN i).val : Nat) : Int), .int .i64 (((smN yy.rnd).val : Nat) : Int)]) rfl) ?_
              refine Gw.done ?_
              refine Gx.norm (l' := [Hp.rec_ b7 [.int .i64 yy.par, .int .i64 ((yy.rnd : Nat) : Int)], Hp.rec_ S [.int .i64 ((c.n : Nat) : Int), .int .i64 ((c.need : Nat) : Int), .int .u32 ((c.L : Nat) : Int), bv, vv, mv, .map (some lb), .map (some gb)], Hp.own FK 2 bv s.bl, Hp.own FV 1 vv s.vt, Hp.own FR 2 mv s.ms, Hp.map Tryd.prog 92 tripL vI lb s.lt, Hp.map Tryd.prog 93 pairL vI gb s.gv, Hp.rec_ b4 [.int .i64 (((smN rr).val : Nat) : Int), .int .i64 (((smN i).val : Nat) : Int), .int .i64 (((smN yy.rnd).val : Nat) : Int)], Hp.rec_ b1 [.int .i64 kind, .int .i64 ((i : Nat) : Int), .int .i64 blk, .int .i64 ((rr : Nat) : Int), .int .i64 ((yy.rnd : Nat) : Int)], R]) rfl ?_
              refine Gx.eff0 rfl rfl (eff_mapUpdate (vf := vI) rfl Tryd.underlying50 Tryd.kkT tripK rfl rfl rfl (i := (smN rr, smN i, smN yy.rnd)) (r := 1) (trivial) (k := 5) rfl (by unfold maxLen; omega) (l' := [Hp.rec_ b7 [.int .i64 yy.par, .int .i64 ((yy.rnd : Nat) : Int)], Hp.rec_ S [.int .i64 ((c.n : Nat) : Int), .int .i64 ((c.need : Nat) : Int), .int .u32 ((c.L : Nat) : Int), bv, vv, mv, .map (some lb), .map (some gb)], Hp.own FK 2 bv s.bl, Hp.own FV 1 vv s.vt, Hp.own FR 2 mv s.ms, Hp.map Tryd.prog 92 tripL vI lb (putM s.lt (smN rr, smN i, smN yy.rnd) 1), Hp.map Tryd.prog 93 pairL vI gb s.gv, Hp.rec_ b4 [.int .i64 (((smN rr).val : Nat) : Int), .int .i64 (((smN i).val : Nat) : Int), .int .i64 (((smN yy.rnd).val : Nat) : Int)], Hp.rec_ b1 [.int .i64 kind, .int .i64 ((i : Nat) : Int), .int .i64 blk, .int .i64 ((rr : Nat) : Int), .int .i64 ((yy.rnd : Nat) : Int)], R]) rfl) ?_
              rintro _ _ rfl
              refine Gx.done ?_
              refine Gx.thenN ?_
              refine Gx.seq ?_
              refine Gx.region ?_
              refine Gx.val rfl rfl rfl (val_assign rfl rfl) ?_
              refine Gx.done ?_
              refine Gx.thenN ?_
              refine Gx.ret ?_
              refine Gx.blkR ?_
              refine Gx.thenR ?_
              refine Gx.thenR ?_
              refine Gx.blkR ?_
              refine Gx.thenR ?_
              refine Gx.thenR ?_
              have fb10 : (liesB c.L i) = true := by simpa using h5
              have fb11 : (certM c s k) = true := by simpa using h9
              refine Gx.front 6 rfl ?_
              refine Gx.front 6 rfl ?_
              refine Gx.front 6 rfl ?_
              refine Gx.front 6 rfl ?_
              refine Gx.front 6 rfl ?_
              refine Gx.front 6 rfl ?_
              refine Gx.sat (l' := [worldH S c (⟨s.bl, s.vt, s.ms, putM s.lt (smN rr, smN i, smN yy.rnd) 1, s.gv⟩ : MS), Hp.rec_ b7 [.int .i64 yy.par, .int .i64 ((yy.rnd : Nat) : Int)], Hp.rec_ b4 [.int .i64 (((smN rr).val : Nat) : Int), .int .i64 (((smN i).val : Nat) : Int), .int .i64 (((smN yy.rnd).val : Nat) : Int)], Hp.rec_ b1 [.int .i64 kind, .int .i64 ((i : Nat) : Int), .int .i64 blk, .int .i64 ((rr : Nat) : Int), .int .i64 ((yy.rnd : Nat) : Int)], R]) (fun w H => worldH.shut (S := S) (c := c) (s := (⟨s.bl, s.vt, s.ms, putM s.lt (smN rr, smN i, smN yy.rnd) 1, s.gv⟩ : MS)) (bv := bv) (vv := vv) (mv := mv) (lb := lb) (gb := gb) (R := sep [Hp.rec_ b7 [.int .i64 yy.par, .int .i64 ((yy.rnd : Nat) : Int)], Hp.rec_ b4 [.int .i64 (((smN rr).val : Nat) : Int), .int .i64 (((smN i).val : Nat) : Int), .int .i64 (((smN yy.rnd).val : Nat) : Int)], Hp.rec_ b1 [.int .i64 kind, .int .i64 ((i : Nat) : Int), .int .i64 blk, .int .i64 ((rr : Nat) : Int), .int .i64 ((yy.rnd : Nat) : Int)], R]) H) ?_
              refine Gx.drop 3 rfl ?_
              refine Gx.drop 2 rfl ?_
              refine Gx.drop 1 rfl ?_
              refine Gx.norm (l' := [worldH S c (⟨s.bl, s.vt, s.ms, putM s.lt (smN rr, smN i, smN yy.rnd) 1, s.gv⟩ : MS), R]) rfl ?_
              refine Gx.ret1 Tryd.results18 rfl ?_
              have hE : lateM c s i ⟨kind, ((i : Nat) : Int), blk, ((rr : Nat) : Int), ((yy.rnd : Nat) : Int)⟩ = (0, (⟨s.bl, s.vt, s.ms, putM s.lt (smN rr, smN i, smN yy.rnd) 1, s.gv⟩ : MS)) := by
                unfold lateM; rw [if_neg (by dsimp only; omega)]; dsimp only [Int.toNat_natCast]; rw [if_pos fb10, if_pos (roundM_yes hyy fb11)]
              exact ⟨by rw [hE], by rw [hE]; exact sep1 _ _⟩
            · refine Gx.skip ?_
              refine Gx.blkN ?_
              refine Gx.thenN ?_
              refine Gx.region ?_
              refine Gx.val rfl rfl rfl (val_add rfl rfl rfl (r := ((k + 1 : Nat) : Int)) (w64 (by omega) (by omega))) ?_
              refine Gx.val rfl rfl rfl (val_move rfl rfl) ?_
              refine Gx.done ?_
              refine Gx.thenN ?_
              refine Gx.drop 0 rfl ?_
              exact Gx.round (k + 1) ⟨by first | omega | (dsimp only; omega), fun b hb => by
                rcases Nat.lt_or_ge b k with h7 | h7
                · exact hno b h7
                · obtain rfl : b = k := by (try dsimp only at hb); omega
                  exact (by rintro ⟨_, q⟩; rw [h9] at q; cases q)⟩ (by first | omega | (dsimp only; omega)) ((.cons rfl (.cons rfl (.cons rfl (.cons rfl (.cons rfl (.cons rfl .nil))))))) rfl
          · refine Gx.skipg rfl rfl rfl rfl rfl rfl ?_
            refine Gx.skipg rfl rfl rfl rfl rfl rfl ?_
            refine Gx.skipg rfl rfl rfl rfl rfl rfl ?_
            refine Gx.val rfl rfl rfl (val_pickF rfl rfl rfl) ?_
            refine Gx.done ?_
            refine Gx.thenN ?_
            refine Gx.f rfl ?_
            refine Gx.skip ?_
            refine Gx.blkN ?_
            refine Gx.thenN ?_
            refine Gx.region ?_
            refine Gx.val rfl rfl rfl (val_add rfl rfl rfl (r := ((k + 1 : Nat) : Int)) (w64 (by omega) (by omega))) ?_
            refine Gx.val rfl rfl rfl (val_move rfl rfl) ?_
            refine Gx.done ?_
            refine Gx.thenN ?_
            refine Gx.drop 0 rfl ?_
            exact Gx.round (k + 1) ⟨by first | omega | (dsimp only; omega), fun b hb => by
              rcases Nat.lt_or_ge b k with h7 | h7
              · exact hno b h7
              · obtain rfl : b = k := by (try dsimp only at hb); omega
                exact (by rintro ⟨q, _⟩; rw [eRk] at q; omega)⟩ (by first | omega | (dsimp only; omega)) ((.cons rfl (.cons rfl (.cons rfl (.cons rfl (.cons rfl (.cons rfl .nil))))))) rfl
        · refine Gx.exit ?_
          refine Gx.thenE ?_
          refine Gx.thenE ?_
          refine Gx.blkE ?_
          refine Gx.thenN ?_
          refine Gx.seq ?_
          refine Gx.region ?_
          refine Gx.val rfl rfl rfl (val_assign rfl rfl) ?_
          refine Gx.done ?_
          refine Gx.thenN ?_
          refine Gx.ret ?_
          refine Gx.thenR ?_
          have fb12 : (liesB c.L i) = true := by simpa using h5
          refine Gx.front 5 rfl ?_
          refine Gx.front 5 rfl ?_
          refine Gx.front 5 rfl ?_
          refine Gx.front 5 rfl ?_
          refine Gx.front 5 rfl ?_
          refine Gx.front 5 rfl ?_
          refine Gx.sat (l' := [worldH S c s, Hp.rec_ b4 [.int .i64 ((rr : Nat) : Int), .int .i64 ((i : Nat) : Int), .int .i64 hi], Hp.rec_ b1 [.int .i64 kind, .int .i64 ((i : Nat) : Int), .int .i64 blk, .int .i64 ((rr : Nat) : Int), .int .i64 hi], R]) (fun w H => worldH.shut (S := S) (c := c) (s := s) (bv := bv) (vv := vv) (mv := mv) (lb := lb) (gb := gb) (R := sep [Hp.rec_ b4 [.int .i64 ((rr : Nat) : Int), .int .i64 ((i : Nat) : Int), .int .i64 hi], Hp.rec_ b1 [.int .i64 kind, .int .i64 ((i : Nat) : Int), .int .i64 blk, .int .i64 ((rr : Nat) : Int), .int .i64 hi], R]) H) ?_
          refine Gx.drop 2 rfl ?_
          refine Gx.drop 1 rfl ?_
          refine Gx.norm (l' := [worldH S c s, R]) rfl ?_
          refine Gx.ret1 Tryd.results18 rfl ?_
          have hE : lateM c s i ⟨kind, ((i : Nat) : Int), blk, ((rr : Nat) : Int), hi⟩ = (2, s) := by
            unfold lateM; rw [if_neg (by dsimp only; omega)]; dsimp only [Int.toNat_natCast]; rw [if_pos fb12, if_neg (by rw [roundM_no (fun b hb => hno b (by omega))]; exact Bool.noConfusion)]
          exact ⟨by rw [hE], by rw [hE]; exact sep1 _ _⟩
      · refine Gx.skip ?_
        refine Gx.thenN ?_
        refine Gx.seq ?_
        refine Gx.region ?_
        refine Gx.val rfl rfl rfl (Val.cast (val_fieldAddr rfl Tryd.underlying55 rfl Tryd.ty3 rfl rfl) (v' := ptr b1 1) rfl) ?_
        refine Gx.val rfl rfl rfl (val_load rfl Tryd.ty3 rfl rfl (cell_rec (k := 1) rfl rfl)) ?_
        refine Gx.val rfl rfl rfl (Val.cast (val_fieldAddr rfl Tryd.underlying55 rfl Tryd.ty3 rfl rfl) (v' := ptr b1 3) rfl) ?_
        refine Gx.val rfl rfl rfl (val_load rfl Tryd.ty3 rfl rfl (cell_rec (k := 1) rfl rfl)) ?_
        refine Gx.val rfl rfl rfl (val_build rfl (qs := [(0, .int .i64 ((i : Nat) : Int)), (1, .int .i64 ((rr : Nat) : Int))]) rfl rfl (fun w => by go_simp) (v := .agg #[.int .i64 ((i : Nat) : Int), .int .i64 ((rr : Nat) : Int)])) ?_
        refine Gx.eff rfl rfl rfl (eff_alloc rfl Tryd.ty93 (vs := [.int .i64 0, .int .i64 0]) rfl) ?_
        rintro _ _ ⟨b13, rfl, rfl⟩
        refine Gx.eff0 rfl rfl (eff_store rfl Tryd.ty93 rfl rfl (us := [.int .i64 ((i : Nat) : Int), .int .i64 ((rr : Nat) : Int)]) rfl rfl rfl (k := 0) rfl (rfl) (vs' := [.int .i64 ((i : Nat) : Int), .int .i64 ((rr : Nat) : Int)]) (rfl) (l' := [Hp.rec_ b13 [.int .i64 ((i : Nat) : Int), .int .i64 ((rr : Nat) : Int)], Hp.rec_ b4 [.int .i64 ((rr : Nat) : Int), .int .i64 ((i : Nat) : Int), .int .i64 hi], Hp.rec_ b1 [.int .i64 kind, .int .i64 ((i : Nat) : Int), .int .i64 blk, .int .i64 ((rr : Nat) : Int), .int .i64 hi], Hp.rec_ S [.int .i64 ((c.n : Nat) : Int), .int .i64 ((c.need : Nat) : Int), .int .u32 ((c.L : Nat) : Int), bv, vv, mv, .map (some lb), .map (some gb)], Hp.own FK 2 bv s.bl, Hp.own FV 1 vv s.vt, Hp.own FR 2 mv s.ms, Hp.map Tryd.prog 92 tripL vI lb s.lt, Hp.map Tryd.prog 93 pairL vI gb s.gv, R]) rfl) ?_
        rintro _ _ rfl
        refine Gx.done ?_
        refine Gx.thenN ?_
        refine Gx.seq ?_
        refine Gx.seq ?_
        refine Gx.norm (l' := [Hp.rec_ b13 [.int .i64 (((smN i).val : Nat) : Int), .int .i64 (((smN rr).val : Nat) : Int)], Hp.rec_ b4 [.int .i64 ((rr : Nat) : Int), .int .i64 ((i : Nat) : Int), .int .i64 hi], Hp.rec_ b1 [.int .i64 kind, .int .i64 ((i : Nat) : Int), .int .i64 blk, .int .i64 ((rr : Nat) : Int), .int .i64 hi], Hp.rec_ S [.int .i64 ((c.n : Nat) : Int), .int .i64 ((c.need : Nat) : Int), .int .u32 ((c.L : Nat) : Int), bv, vv, mv, .map (some lb), .map (some gb)], Hp.own FK 2 bv s.bl, Hp.own FV 1 vv s.vt, Hp.own FR 2 mv s.ms, Hp.map Tryd.prog 92 tripL vI lb s.lt, Hp.map Tryd.prog 93 pairL vI gb s.gv, R]) (by rw [eK1, eK2] <;> rfl) ?_
        refine Gx.regionO (fun j => j == 7) 9 [0, 1, 2, 3, 4, 5, 6, 7, 8] (fun us => match us with | [] => [Hp.rec_ b13 [.int .i64 (((smN i).val : Nat) : Int), .int .i64 (((smN rr).val : Nat) : Int)], Hp.rec_ b4 [.int .i64 ((rr : Nat) : Int), .int .i64 ((i : Nat) : Int), .int .i64 hi], Hp.rec_ b1 [.int .i64 kind, .int .i64 ((i : Nat) : Int), .int .i64 blk, .int .i64 ((rr : Nat) : Int), .int .i64 hi], Hp.rec_ S [.int .i64 ((c.n : Nat) : Int), .int .i64 ((c.need : Nat) : Int), .int .u32 ((c.L : Nat) : Int), bv, vv, mv, .map (some lb), .map (some gb)], Hp.own FK 2 bv s.bl, Hp.own FV 1 vv s.vt, Hp.own FR 2 mv s.ms, Hp.map Tryd.prog 92 tripL vI lb s.lt, Hp.map Tryd.prog 93 pairL vI gb s.gv, R] | u1 :: _ => [Hp.rec_ b13 [.int .i64 (((smN i).val : Nat) : Int), .int .i64 (((smN rr).val : Nat) : Int)], Hp.rec_ b4 [.int .i64 ((rr : Nat) : Int), .int .i64 ((i : Nat) : Int), .int .i64 hi], Hp.rec_ b1 [.int .i64 kind, .int .i64 ((i : Nat) : Int), .int .i64 blk, .int .i64 ((rr : Nat) : Int), .int .i64 hi], Hp.rec_ S [.int .i64 ((c.n : Nat) : Int), .int .i64 ((c.need : Nat) : Int), .int .u32 ((c.L : Nat) : Int), bv, vv, mv, .map (some lb), .map (some gb)], Hp.own FK 2 bv s.bl, Hp.own FV 1 vv s.vt, Hp.own FR 2 mv s.ms, Hp.map Tryd.prog 92 tripL vI lb s.lt, Hp.mapE Tryd.prog 93 pairL vI pairV gb (putM s.gv (smN i, smN rr) (gaveM s.gv i rr)) (smN i, smN rr) (sN u1), R]) Tryd.mixed (by kernel_rfl) rfl ?_
        refine Gw.val rfl rfl rfl rfl rfl (fun us => val_move rfl rfl) ?_
        refine Gw.val rfl rfl rfl rfl rfl (fun us => val_nilCheck rfl rfl) ?_
        refine Gw.val rfl rfl rfl rfl rfl (fun us => Val.cast (val_fieldAddr rfl Tryd.underlying53 rfl Tryd.ty51 rfl rfl) (v' := ptr S 7) rfl) ?_
        refine Gw.val0 rfl rfl rfl (by kernel_rfl) rfl rfl (val_load rfl Tryd.ty51 rfl rfl (cell_rec (k := 3) rfl rfl)) ?_
        refine Gw.val0 rfl rfl rfl (by kernel_rfl) rfl rfl (Val.cast (val_loadA rfl Tryd.ty93 rfl rfl rfl (cells_rec (k := 0) rfl)) (v' := .agg #[.int .i64 (((smN i).val : Nat) : Int), .int .i64 (((smN rr).val : Nat) : Int)]) rfl) ?_
        refine Gw.val rfl rfl rfl rfl rfl (fun us => match us with | [] => val_lookup1 rfl Tryd.underlying51 Tryd.kkP Tryd.ty3 rfl rfl (i := (smN i, smN rr)) (trivial) (k := 8) rfl (r := .int .i64 (gaveM s.gv i rr)) (gave_look _ _ _) | u1 :: _ => val_lookup1E rfl Tryd.underlying51 Tryd.kkP Tryd.ty3 rfl rfl (i := (smN i, smN rr)) (trivial) (k := 8) rfl (r := .int .i64 (gaveM s.gv i rr)) (gave_look2 _ _ _ _)) ?_
        refine Gw.val rfl rfl rfl rfl rfl (fun us => val_add rfl rfl rfl (r := (gaveM s.gv i rr + 1)) (w64 rfl (by omega))) ?_
        refine Gw.chg rfl rfl rfl rfl rfl (fun v => ∃ s14 : Nat, v = .tuple #[vI (gaveM s.gv i rr), .int .i64 ((s14 : Nat) : Int)]) (Eff.mono (eff_mapEntry rfl Tryd.underlying51 Tryd.ty3 (z0 := 0) rfl Tryd.kkP pairK rfl rfl (i := (smN i, smN rr)) (trivial) (k := 8) rfl (by unfold maxLen; omega) (r := (gaveM s.gv i rr)) (rfl)) (by rintro _ _ ⟨s14, rfl, rfl⟩; exact ⟨⟨s14, rfl⟩, rfl⟩)) ?_
        rintro _ ⟨s14, rfl⟩
        refine Gw.val rfl rfl rfl rfl rfl (fun us => val_extract rfl rfl rfl) ?_
        refine Gw.done ?_
        refine Gx.norm (l' := [Hp.rec_ b13 [.int .i64 (((smN i).val : Nat) : Int), .int .i64 (((smN rr).val : Nat) : Int)], Hp.rec_ b4 [.int .i64 ((rr : Nat) : Int), .int .i64 ((i : Nat) : Int), .int .i64 hi], Hp.rec_ b1 [.int .i64 kind, .int .i64 ((i : Nat) : Int), .int .i64 blk, .int .i64 ((rr : Nat) : Int), .int .i64 hi], Hp.rec_ S [.int .i64 ((c.n : Nat) : Int), .int .i64 ((c.need : Nat) : Int), .int .u32 ((c.L : Nat) : Int), bv, vv, mv, .map (some lb), .map (some gb)], Hp.own FK 2 bv s.bl, Hp.own FV 1 vv s.vt, Hp.own FR 2 mv s.ms, Hp.map Tryd.prog 92 tripL vI lb s.lt, Hp.mapE Tryd.prog 93 pairL vI pairV gb (putM s.gv (smN i, smN rr) (gaveM s.gv i rr)) (smN i, smN rr) s14, R]) rfl ?_
        refine Gx.eff0 rfl rfl (eff_entryStore rfl Tryd.underlying51 Tryd.kkP pairK rfl rfl rfl (i := (smN i, smN rr)) (r := (gaveM s.gv i rr + 1)) (trivial) (k := 8) rfl (by rw [putM_length]; unfold maxLen; split <;> omega) (l' := [Hp.rec_ b13 [.int .i64 (((smN i).val : Nat) : Int), .int .i64 (((smN rr).val : Nat) : Int)], Hp.rec_ b4 [.int .i64 ((rr : Nat) : Int), .int .i64 ((i : Nat) : Int), .int .i64 hi], Hp.rec_ b1 [.int .i64 kind, .int .i64 ((i : Nat) : Int), .int .i64 blk, .int .i64 ((rr : Nat) : Int), .int .i64 hi], Hp.rec_ S [.int .i64 ((c.n : Nat) : Int), .int .i64 ((c.need : Nat) : Int), .int .u32 ((c.L : Nat) : Int), bv, vv, mv, .map (some lb), .map (some gb)], Hp.own FK 2 bv s.bl, Hp.own FV 1 vv s.vt, Hp.own FR 2 mv s.ms, Hp.map Tryd.prog 92 tripL vI lb s.lt, Hp.map Tryd.prog 93 pairL vI gb (putM s.gv (smN i, smN rr) (gaveM s.gv i rr + 1)), R]) (by rw [show putM (putM s.gv (smN i, smN rr) (gaveM s.gv i rr)) (smN i, smN rr) (gaveM s.gv i rr + 1) = putM s.gv (smN i, smN rr) (gaveM s.gv i rr + 1) from putM_twice ..]; rfl)) ?_
        rintro _ _ rfl
        refine Gx.done ?_
        refine Gx.thenN ?_
        refine Gx.seq ?_
        refine Gx.regionQ Tryd.mixed (by kernel_rfl) ?_
        refine Gq.val rfl rfl rfl (val_move rfl rfl) ?_
        refine Gq.val rfl rfl rfl (val_nilCheck rfl rfl) ?_
        refine Gq.val rfl rfl rfl (Val.cast (val_fieldAddr rfl Tryd.underlying53 rfl Tryd.ty51 rfl rfl) (v' := ptr S 7) rfl) ?_
        refine Gq.val rfl rfl rfl (val_load rfl Tryd.ty51 rfl rfl (cell_rec (k := 3) rfl rfl)) ?_
        refine Gq.val rfl rfl rfl (Val.cast (val_loadA rfl Tryd.ty93 rfl rfl rfl (cells_rec (k := 0) rfl)) (v' := .agg #[.int .i64 (((smN i).val : Nat) : Int), .int .i64 (((smN rr).val : Nat) : Int)]) rfl) ?_
        refine Gq.val rfl rfl rfl (val_lookup1 rfl Tryd.underlying51 Tryd.kkP Tryd.ty3 rfl rfl (i := (smN i, smN rr)) (trivial) (k := 8) rfl (r := .int .i64 (gaveM s.gv i rr + 1)) (gave_look2 _ _ _ _)) ?_
        refine Gq.val rfl rfl rfl (val_gtr rfl rfl rfl) ?_
        refine Gq.done ?_
        refine Gx.thenN ?_
        refine Gx.dec rfl (fun h15 => ?_) (fun h15 => ?_)
        · refine Gx.seq ?_
          refine Gx.region ?_
          refine Gx.val rfl rfl rfl (val_assign rfl rfl) ?_
          refine Gx.done ?_
          refine Gx.thenN ?_
          refine Gx.ret ?_
          refine Gx.thenR ?_
          have fb16 : (liesB c.L i) = false := by simpa using h5
          refine Gx.front 8 rfl ?_
          refine Gx.front 8 rfl ?_
          refine Gx.front 8 rfl ?_
          refine Gx.front 8 rfl ?_
          refine Gx.front 8 rfl ?_
          refine Gx.front 8 rfl ?_
          refine Gx.sat (l' := [worldH S c (⟨s.bl, s.vt, s.ms, s.lt, (putM s.gv (smN i, smN rr) (gaveM s.gv i rr + 1))⟩ : MS), Hp.rec_ b13 [.int .i64 (((smN i).val : Nat) : Int), .int .i64 (((smN rr).val : Nat) : Int)], Hp.rec_ b4 [.int .i64 ((rr : Nat) : Int), .int .i64 ((i : Nat) : Int), .int .i64 hi], Hp.rec_ b1 [.int .i64 kind, .int .i64 ((i : Nat) : Int), .int .i64 blk, .int .i64 ((rr : Nat) : Int), .int .i64 hi], R]) (fun w H => worldH.shut (S := S) (c := c) (s := (⟨s.bl, s.vt, s.ms, s.lt, (putM s.gv (smN i, smN rr) (gaveM s.gv i rr + 1))⟩ : MS)) (bv := bv) (vv := vv) (mv := mv) (lb := lb) (gb := gb) (R := sep [Hp.rec_ b13 [.int .i64 (((smN i).val : Nat) : Int), .int .i64 (((smN rr).val : Nat) : Int)], Hp.rec_ b4 [.int .i64 ((rr : Nat) : Int), .int .i64 ((i : Nat) : Int), .int .i64 hi], Hp.rec_ b1 [.int .i64 kind, .int .i64 ((i : Nat) : Int), .int .i64 blk, .int .i64 ((rr : Nat) : Int), .int .i64 hi], R]) H) ?_
          refine Gx.drop 3 rfl ?_
          refine Gx.drop 2 rfl ?_
          refine Gx.drop 1 rfl ?_
          refine Gx.norm (l' := [worldH S c (⟨s.bl, s.vt, s.ms, s.lt, (putM s.gv (smN i, smN rr) (gaveM s.gv i rr + 1))⟩ : MS), R]) rfl ?_
          refine Gx.ret1 Tryd.results18 rfl ?_
          have hE : lateM c s i ⟨kind, ((i : Nat) : Int), blk, ((rr : Nat) : Int), hi⟩ = (6, (⟨s.bl, s.vt, s.ms, s.lt, (putM s.gv (smN i, smN rr) (gaveM s.gv i rr + 1))⟩ : MS)) := by
            unfold lateM; rw [if_neg (by dsimp only; omega)]; dsimp only [Int.toNat_natCast]; rw [if_neg (by rw [fb16]; exact Bool.noConfusion), if_pos (by omega)]
          exact ⟨by rw [hE], by rw [hE]; exact sep1 _ _⟩
        · refine Gx.skip ?_
          refine Gx.thenN ?_
          refine Gx.seq ?_
          refine Gx.regionQ Tryd.mixed (by kernel_rfl) ?_
          refine Gq.val rfl rfl rfl (val_move rfl rfl) ?_
          refine Gq.val rfl rfl rfl (val_nilCheck rfl rfl) ?_
          refine Gq.val rfl rfl rfl (Val.cast (val_fieldAddr rfl Tryd.underlying53 rfl Tryd.ty49 rfl rfl) (v' := ptr S 5) rfl) ?_
          refine Gq.val rfl rfl rfl (val_load rfl Tryd.ty49 rfl rfl (cell_rec (k := 3) rfl rfl)) ?_
          refine Gq.val rfl rfl rfl (Val.cast (val_fieldAddr rfl Tryd.underlying55 rfl Tryd.ty3 rfl rfl) (v' := ptr b1 1) rfl) ?_
          refine Gq.val rfl rfl rfl (val_load rfl Tryd.ty3 rfl rfl (cell_rec (k := 2) rfl rfl)) ?_
          refine Gq.val rfl rfl rfl (val_ixa rfl Tryd.underlying49 Tryd.ty90 rfl rfl (j := i) (rfl) (reach_own (k := 6) rfl hm)) ?_
          refine Gq.val rfl rfl rfl (val_assign rfl rfl) ?_
          refine Gq.done ?_
          refine Gx.thenN ?_
          refine Gx.seq ?_
          refine Gx.regionO (fun j => false) 10 [0, 1, 2, 3, 4, 5, 6, 7, 8, 9] (fun _ => [Hp.rec_ b13 [.int .i64 (((smN i).val : Nat) : Int), .int .i64 (((smN rr).val : Nat) : Int)], Hp.rec_ b4 [.int .i64 ((rr : Nat) : Int), .int .i64 ((i : Nat) : Int), .int .i64 hi], Hp.rec_ b1 [.int .i64 kind, .int .i64 ((i : Nat) : Int), .int .i64 blk, .int .i64 ((rr : Nat) : Int), .int .i64 hi], Hp.rec_ S [.int .i64 ((c.n : Nat) : Int), .int .i64 ((c.need : Nat) : Int), .int .u32 ((c.L : Nat) : Int), bv, vv, mv, .map (some lb), .map (some gb)], Hp.own FK 2 bv s.bl, Hp.own FV 1 vv s.vt, Hp.own FR 2 mv s.ms, Hp.map Tryd.prog 92 tripL vI lb s.lt, Hp.map Tryd.prog 93 pairL vI gb (putM s.gv (smN i, smN rr) (gaveM s.gv i rr + 1)), R]) Tryd.mixed (by kernel_rfl) rfl ?_
          refine Gw.val rfl rfl rfl rfl rfl (fun us => val_move rfl rfl) ?_
          refine Gw.val rfl rfl rfl rfl rfl (fun us => val_move rfl rfl) ?_
          refine Gw.val rfl rfl rfl rfl rfl (fun us => val_nilCheck rfl rfl) ?_
          refine Gw.val rfl rfl rfl rfl rfl (fun us => Val.cast (val_fieldAddr rfl Tryd.underlying90 rfl Tryd.ty3 rfl rfl) (v' := ptr (sB mv) (sO mv + i * 2)) rfl) ?_
          refine Gw.val0 rfl rfl rfl (by kernel_rfl) rfl rfl (val_load rfl Tryd.ty3 rfl rfl (cell_own (i := 0) (k := 6) rfl hm rfl)) ?_
          refine Gw.val rfl rfl rfl rfl rfl (fun us => Val.cast (val_fieldAddr rfl Tryd.underlying55 rfl Tryd.ty3 rfl rfl) (v' := ptr b1 3) rfl) ?_
          refine Gw.val0 rfl rfl rfl (by kernel_rfl) rfl rfl (val_load rfl Tryd.ty3 rfl rfl (cell_rec (k := 2) rfl rfl)) ?_
          refine Gw.val rfl rfl rfl rfl rfl (fun us => val_max rfl rfl rfl (r := ((max m.vo rr : Nat) : Int)) (maxI _ _)) ?_
          refine Gw.val rfl rfl rfl rfl rfl (fun us => val_nilCheck rfl rfl) ?_
          refine Gw.val rfl rfl rfl rfl rfl (fun us => Val.cast (val_fieldAddr rfl Tryd.underlying90 rfl Tryd.ty3 rfl rfl) (v' := ptr (sB mv) (sO mv + i * 2)) rfl) ?_
          refine Gw.done ?_
          refine Gx.norm (l' := [Hp.rec_ b13 [.int .i64 (((smN i).val : Nat) : Int), .int .i64 (((smN rr).val : Nat) : Int)], Hp.rec_ b4 [.int .i64 ((rr : Nat) : Int), .int .i64 ((i : Nat) : Int), .int .i64 hi], Hp.rec_ b1 [.int .i64 kind, .int .i64 ((i : Nat) : Int), .int .i64 blk, .int .i64 ((rr : Nat) : Int), .int .i64 hi], Hp.rec_ S [.int .i64 ((c.n : Nat) : Int), .int .i64 ((c.need : Nat) : Int), .int .u32 ((c.L : Nat) : Int), bv, vv, mv, .map (some lb), .map (some gb)], Hp.own FK 2 bv s.bl, Hp.own FV 1 vv s.vt, Hp.own FR 2 mv s.ms, Hp.map Tryd.prog 92 tripL vI lb s.lt, Hp.map Tryd.prog 93 pairL vI gb (putM s.gv (smN i, smN rr) (gaveM s.gv i rr + 1)), R]) rfl ?_
          refine Gx.eff0 rfl rfl (eff_storeEl (i := 0) (e' := (⟨max m.vo rr, m.kn⟩ : Mm)) rfl Tryd.ty3 rfl rfl rfl rfl (k := 6) rfl FR_len hm (by decide) (rfl) (l' := [Hp.rec_ b13 [.int .i64 (((smN i).val : Nat) : Int), .int .i64 (((smN rr).val : Nat) : Int)], Hp.rec_ b4 [.int .i64 ((rr : Nat) : Int), .int .i64 ((i : Nat) : Int), .int .i64 hi], Hp.rec_ b1 [.int .i64 kind, .int .i64 ((i : Nat) : Int), .int .i64 blk, .int .i64 ((rr : Nat) : Int), .int .i64 hi], Hp.rec_ S [.int .i64 ((c.n : Nat) : Int), .int .i64 ((c.need : Nat) : Int), .int .u32 ((c.L : Nat) : Int), bv, vv, mv, .map (some lb), .map (some gb)], Hp.own FK 2 bv s.bl, Hp.own FV 1 vv s.vt, Hp.own FR 2 mv ((s.ms).set i (⟨max m.vo rr, m.kn⟩ : Mm)), Hp.map Tryd.prog 92 tripL vI lb s.lt, Hp.map Tryd.prog 93 pairL vI gb (putM s.gv (smN i, smN rr) (gaveM s.gv i rr + 1)), R]) rfl) ?_
          rintro _ _ rfl
          refine Gx.done ?_
          refine Gx.thenN ?_
          refine Gx.seq ?_
          refine Gx.region ?_
          refine Gx.val rfl rfl rfl (val_move rfl rfl) ?_
          refine Gx.val rfl rfl rfl (val_nilCheck rfl rfl) ?_
          refine Gx.val rfl rfl rfl (Val.cast (val_fieldAddr rfl Tryd.underlying90 rfl Tryd.ty3 rfl rfl) (v' := ptr (sB mv) (sO mv + i * 2 + 1)) rfl) ?_
          refine Gx.val rfl rfl rfl (val_load rfl Tryd.ty3 rfl rfl (cell_own (i := 1) (k := 6) rfl (List.getElem?_set_self (List.getElem?_eq_some_iff.1 hm).1) rfl)) ?_
          refine Gx.val rfl rfl rfl (Val.cast (val_fieldAddr rfl Tryd.underlying92 rfl Tryd.ty3 rfl rfl) (v' := ptr b4 2) rfl) ?_
          refine Gx.eff0 rfl rfl (eff_store rfl Tryd.ty3 rfl rfl (us := [.int .i64 ((m.kn : Nat) : Int)]) rfl rfl rfl (k := 1) rfl (rfl) (vs' := [.int .i64 ((rr : Nat) : Int), .int .i64 ((i : Nat) : Int), .int .i64 ((m.kn : Nat) : Int)]) (rfl) (l' := [Hp.rec_ b13 [.int .i64 (((smN i).val : Nat) : Int), .int .i64 (((smN rr).val : Nat) : Int)], Hp.rec_ b4 [.int .i64 ((rr : Nat) : Int), .int .i64 ((i : Nat) : Int), .int .i64 ((m.kn : Nat) : Int)], Hp.rec_ b1 [.int .i64 kind, .int .i64 ((i : Nat) : Int), .int .i64 blk, .int .i64 ((rr : Nat) : Int), .int .i64 hi], Hp.rec_ S [.int .i64 ((c.n : Nat) : Int), .int .i64 ((c.need : Nat) : Int), .int .u32 ((c.L : Nat) : Int), bv, vv, mv, .map (some lb), .map (some gb)], Hp.own FK 2 bv s.bl, Hp.own FV 1 vv s.vt, Hp.own FR 2 mv ((s.ms).set i (⟨max m.vo rr, m.kn⟩ : Mm)), Hp.map Tryd.prog 92 tripL vI lb s.lt, Hp.map Tryd.prog 93 pairL vI gb (putM s.gv (smN i, smN rr) (gaveM s.gv i rr + 1)), R]) rfl) ?_
          rintro _ _ rfl
          refine Gx.done ?_
          refine Gx.thenN ?_
          refine Gx.seq ?_
          have eK4 : (smN m.kn).val = m.kn := smN_val (by omega)
          refine Gx.norm (l' := [Hp.rec_ b13 [.int .i64 (((smN i).val : Nat) : Int), .int .i64 (((smN rr).val : Nat) : Int)], Hp.rec_ b4 [.int .i64 (((smN rr).val : Nat) : Int), .int .i64 (((smN i).val : Nat) : Int), .int .i64 (((smN m.kn).val : Nat) : Int)], Hp.rec_ b1 [.int .i64 kind, .int .i64 ((i : Nat) : Int), .int .i64 blk, .int .i64 ((rr : Nat) : Int), .int .i64 hi], Hp.rec_ S [.int .i64 ((c.n : Nat) : Int), .int .i64 ((c.need : Nat) : Int), .int .u32 ((c.L : Nat) : Int), bv, vv, mv, .map (some lb), .map (some gb)], Hp.own FK 2 bv s.bl, Hp.own FV 1 vv s.vt, Hp.own FR 2 mv ((s.ms).set i (⟨max m.vo rr, m.kn⟩ : Mm)), Hp.map Tryd.prog 92 tripL vI lb s.lt, Hp.map Tryd.prog 93 pairL vI gb (putM s.gv (smN i, smN rr) (gaveM s.gv i rr + 1)), R]) (by rw [eK1, eK2, eK4] <;> rfl) ?_
          refine Gx.regionO (fun j => false) 5 [0, 1, 2, 3, 4] (fun _ => [Hp.rec_ b13 [.int .i64 (((smN i).val : Nat) : Int), .int .i64 (((smN rr).val : Nat) : Int)], Hp.rec_ b4 [.int .i64 (((smN rr).val : Nat) : Int), .int .i64 (((smN i).val : Nat) : Int), .int .i64 (((smN m.kn).val : Nat) : Int)], Hp.rec_ b1 [.int .i64 kind, .int .i64 ((i : Nat) : Int), .int .i64 blk, .int .i64 ((rr : Nat) : Int), .int .i64 hi], Hp.rec_ S [.int .i64 ((c.n : Nat) : Int), .int .i64 ((c.need : Nat) : Int), .int .u32 ((c.L : Nat) : Int), bv, vv, mv, .map (some lb), .map (some gb)], Hp.own FK 2 bv s.bl, Hp.own FV 1 vv s.vt, Hp.own FR 2 mv ((s.ms).set i (⟨max m.vo rr, m.kn⟩ : Mm)), Hp.map Tryd.prog 92 tripL vI lb s.lt, Hp.map Tryd.prog 93 pairL vI gb (putM s.gv (smN i, smN rr) (gaveM s.gv i rr + 1)), R]) Tryd.mixed (by kernel_rfl) rfl ?_
          refine Gw.val rfl rfl rfl rfl rfl (fun us => val_move rfl rfl) ?_
          refine Gw.val rfl rfl rfl rfl rfl (fun us => val_nilCheck rfl rfl) ?_
          refine Gw.val rfl rfl rfl rfl rfl (fun us => Val.cast (val_fieldAddr rfl Tryd.underlying53 rfl Tryd.ty50 rfl rfl) (v' := ptr S 6) rfl) ?_
          refine Gw.val0 rfl rfl rfl (by kernel_rfl) rfl rfl (val_load rfl Tryd.ty50 rfl rfl (cell_rec (k := 3) rfl rfl)) ?_
          refine Gw.val0 rfl rfl rfl (by kernel_rfl) rfl rfl (Val.cast (val_loadA rfl Tryd.ty92 rfl rfl rfl (cells_rec (k := 1) rfl)) (v' := .agg #[.int .i64 (((smN rr).val : Nat) : Int), .int .i64 (((smN i).val : Nat) : Int), .int .i64 (((smN m.kn).val : Nat) : Int)]) rfl) ?_
          refine Gw.done ?_
          refine Gx.norm (l' := [Hp.rec_ b13 [.int .i64 (((smN i).val : Nat) : Int), .int .i64 (((smN rr).val : Nat) : Int)], Hp.rec_ b4 [.int .i64 (((smN rr).val : Nat) : Int), .int .i64 (((smN i).val : Nat) : Int), .int .i64 (((smN m.kn).val : Nat) : Int)], Hp.rec_ b1 [.int .i64 kind, .int .i64 ((i : Nat) : Int), .int .i64 blk, .int .i64 ((rr : Nat) : Int), .int .i64 hi], Hp.rec_ S [.int .i64 ((c.n : Nat) : Int), .int .i64 ((c.need : Nat) : Int), .int .u32 ((c.L : Nat) : Int), bv, vv, mv, .map (some lb), .map (some gb)], Hp.own FK 2 bv s.bl, Hp.own FV 1 vv s.vt, Hp.own FR 2 mv ((s.ms).set i (⟨max m.vo rr, m.kn⟩ : Mm)), Hp.map Tryd.prog 92 tripL vI lb s.lt, Hp.map Tryd.prog 93 pairL vI gb (putM s.gv (smN i, smN rr) (gaveM s.gv i rr + 1)), R]) rfl ?_
          refine Gx.eff0 rfl rfl (eff_mapUpdate (vf := vI) rfl Tryd.underlying50 Tryd.kkT tripK rfl rfl rfl (i := (smN rr, smN i, smN m.kn)) (r := 1) (trivial) (k := 7) rfl (by unfold maxLen; omega) (l' := [Hp.rec_ b13 [.int .i64 (((smN i).val : Nat) : Int), .int .i64 (((smN rr).val : Nat) : Int)], Hp.rec_ b4 [.int .i64 (((smN rr).val : Nat) : Int), .int .i64 (((smN i).val : Nat) : Int), .int .i64 (((smN m.kn).val : Nat) : Int)], Hp.rec_ b1 [.int .i64 kind, .int .i64 ((i : Nat) : Int), .int .i64 blk, .int .i64 ((rr : Nat) : Int), .int .i64 hi], Hp.rec_ S [.int .i64 ((c.n : Nat) : Int), .int .i64 ((c.need : Nat) : Int), .int .u32 ((c.L : Nat) : Int), bv, vv, mv, .map (some lb), .map (some gb)], Hp.own FK 2 bv s.bl, Hp.own FV 1 vv s.vt, Hp.own FR 2 mv ((s.ms).set i (⟨max m.vo rr, m.kn⟩ : Mm)), Hp.map Tryd.prog 92 tripL vI lb (putM s.lt (smN rr, smN i, smN m.kn) 1), Hp.map Tryd.prog 93 pairL vI gb (putM s.gv (smN i, smN rr) (gaveM s.gv i rr + 1)), R]) rfl) ?_
          rintro _ _ rfl
          refine Gx.done ?_
          refine Gx.thenN ?_
          refine Gx.seq ?_
          refine Gx.region ?_
          refine Gx.val rfl rfl rfl (val_assign rfl rfl) ?_
          refine Gx.done ?_
          refine Gx.thenN ?_
          refine Gx.ret ?_
          have fb17 : (liesB c.L i) = false := by simpa using h5
          refine Gx.front 8 rfl ?_
          refine Gx.front 8 rfl ?_
          refine Gx.front 8 rfl ?_
          refine Gx.front 8 rfl ?_
          refine Gx.front 8 rfl ?_
          refine Gx.front 8 rfl ?_
          refine Gx.sat (l' := [worldH S c (⟨s.bl, s.vt, s.ms.set i ⟨max m.vo rr, m.kn⟩, putM s.lt (smN rr, smN i, smN m.kn) 1, (putM s.gv (smN i, smN rr) (gaveM s.gv i rr + 1))⟩ : MS), Hp.rec_ b13 [.int .i64 (((smN i).val : Nat) : Int), .int .i64 (((smN rr).val : Nat) : Int)], Hp.rec_ b4 [.int .i64 (((smN rr).val : Nat) : Int), .int .i64 (((smN i).val : Nat) : Int), .int .i64 (((smN m.kn).val : Nat) : Int)], Hp.rec_ b1 [.int .i64 kind, .int .i64 ((i : Nat) : Int), .int .i64 blk, .int .i64 ((rr : Nat) : Int), .int .i64 hi], R]) (fun w H => worldH.shut (S := S) (c := c) (s := (⟨s.bl, s.vt, s.ms.set i ⟨max m.vo rr, m.kn⟩, putM s.lt (smN rr, smN i, smN m.kn) 1, (putM s.gv (smN i, smN rr) (gaveM s.gv i rr + 1))⟩ : MS)) (bv := bv) (vv := vv) (mv := mv) (lb := lb) (gb := gb) (R := sep [Hp.rec_ b13 [.int .i64 (((smN i).val : Nat) : Int), .int .i64 (((smN rr).val : Nat) : Int)], Hp.rec_ b4 [.int .i64 (((smN rr).val : Nat) : Int), .int .i64 (((smN i).val : Nat) : Int), .int .i64 (((smN m.kn).val : Nat) : Int)], Hp.rec_ b1 [.int .i64 kind, .int .i64 ((i : Nat) : Int), .int .i64 blk, .int .i64 ((rr : Nat) : Int), .int .i64 hi], R]) H) ?_
          refine Gx.drop 3 rfl ?_
          refine Gx.drop 2 rfl ?_
          refine Gx.drop 1 rfl ?_
          refine Gx.norm (l' := [worldH S c (⟨s.bl, s.vt, s.ms.set i ⟨max m.vo rr, m.kn⟩, putM s.lt (smN rr, smN i, smN m.kn) 1, (putM s.gv (smN i, smN rr) (gaveM s.gv i rr + 1))⟩ : MS), R]) rfl ?_
          refine Gx.ret1 Tryd.results18 rfl ?_
          have hE : lateM c s i ⟨kind, ((i : Nat) : Int), blk, ((rr : Nat) : Int), hi⟩ = (0, (⟨s.bl, s.vt, s.ms.set i ⟨max m.vo rr, m.kn⟩, putM s.lt (smN rr, smN i, smN m.kn) 1, (putM s.gv (smN i, smN rr) (gaveM s.gv i rr + 1))⟩ : MS)) := by
            unfold lateM; rw [if_neg (by dsimp only; omega)]; dsimp only [Int.toNat_natCast]; rw [if_neg (by rw [fb17]; exact Bool.noConfusion), if_neg (by omega), eM]
          exact ⟨by rw [hE], by rw [hE]; exact sep1 _ _⟩

end Go.Proofs.YtfeeociajllbhaaDoor.Mt
