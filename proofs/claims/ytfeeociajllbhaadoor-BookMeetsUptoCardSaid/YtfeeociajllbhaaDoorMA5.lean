/- A new block; a vote; what one learns. The walks. No condition. -/
import Derived.Test.YtfeeociajllbhaaDoorMA4
namespace Go.Proofs.YtfeeociajllbhaaDoor.Mt
open Go.RowKit
set_option linter.unusedVariables false
set_option linter.unusedSimpArgs false
set_option maxRecDepth 100000

theorem isN_no {n : Nat} {x : Int} : isN n x = false ↔ ¬ (0 ≤ x ∧ x < n) := by unfold isN; exact decide_eq_false_iff_not
theorem bitI (v i : Nat) : (((v >>> i &&& 1 : Nat) : Int) = ((1 : Nat) : Int)) ↔ v.testBit i = true := by rw [Int.ofNat_inj]; exact bit_one v i
theorem maxI (a b : Nat) : (if ((b : Nat) : Int) > ((a : Nat) : Int) then ((b : Nat) : Int) else ((a : Nat) : Int)) = ((max a b : Nat) : Int) := by split <;> omega
theorem behind_any {W w : World} {S T : Nat} {c : MC} {s : MS} {R : Hp} {kind who blk rnd hi : Int} (ok : OkM c) (bd : BdM T c s) (hT : T ≤ 1000) (H : Sat W w (worldH S c s * R)) :
    Calls Tryd.prog 16 #[ptr S 0, .agg #[.int .i64 kind, .int .i64 who, .int .i64 blk, .int .i64 rnd, .int .i64 hi]] w (Ret W fun v l => v = .int .i64 (behindM c s ⟨kind, who, blk, rnd, hi⟩).1 ∧ sep l = worldH S c (behindM c s ⟨kind, who, blk, rnd, hi⟩).2 * R) := by
  have hcn := ok.n7
  have hL := ok.L
  have hb40 := bd.b40
  have hvl := bd.vlen
  have hml := bd.mlen
  have hpos := bd.pos
  have hltl := bd.ltl
  have hgvl := bd.gvl
  obtain ⟨bv, vv, mv, lb, gb, H⟩ := worldH.open_ H
  have hbv : IsS bv := isS_own (H.at_ (k := 1) rfl)
  have hvv : IsS vv := isS_own (H.at_ (k := 2) rfl)
  have hmv : IsS mv := isS_own (H.at_ (k := 3) rfl)
  refine Gx.enter (l := [Hp.rec_ S [.int .i64 ((c.n : Nat) : Int), .int .i64 ((c.need : Nat) : Int), .int .u32 ((c.L : Nat) : Int), bv, vv, mv, .map (some lb), .map (some gb)], Hp.own FK 2 bv s.bl, Hp.own FV 1 vv s.vt, Hp.own FR 2 mv s.ms, Hp.map Tryd.prog 92 tripL vI lb s.lt, Hp.map Tryd.prog 93 pairL vI gb s.gv, R]) Tryd.func16 rfl Tryd.ntmps16 rfl (H) ?_
  refine Gx.know (m' := [(0, ptr S 0), (1, .agg #[.int .i64 kind, .int .i64 who, .int .i64 blk, .int .i64 rnd, .int .i64 hi])]) (.cons rfl (.cons rfl .nil)) ?_
  refine Gx.seq ?_
  refine Gx.region ?_
  refine Gx.eff rfl rfl rfl (eff_box rfl rfl (vs := [.int .i64 kind, .int .i64 who, .int .i64 blk, .int .i64 rnd, .int .i64 hi]) rfl) ?_
  rintro _ _ ⟨b1, rfl, rfl⟩
  refine Gx.val rfl rfl rfl (val_assign rfl rfl) ?_
  refine Gx.done ?_
  refine Gx.thenN ?_
  refine Gx.seq ?_
  refine Gx.block ?_
  refine Gx.seq ?_
  refine Gx.regionQ Tryd.mixed (by kernel_rfl) ?_
  refine Gq.val rfl rfl rfl (val_move rfl rfl) ?_
  refine Gq.val rfl rfl rfl (Val.cast (val_fieldAddr rfl Tryd.underlying55 rfl Tryd.ty3 rfl rfl) (v' := ptr b1 2) rfl) ?_
  refine Gq.val rfl rfl rfl (val_load rfl Tryd.ty3 rfl rfl (cell_rec (k := 0) rfl rfl)) ?_
  refine Gq.val rfl rfl rfl (val_call (vs := [ptr S 0, .int .i64 blk]) rfl Tryd.fn30 rfl (fun w H => block_any (b := blk) ((H.at_ (k := 1) rfl).rec_.1) ((H.at_ (k := 1) rfl).cell 3 rfl) ((H.at_ (k := 2) rfl).sls (by first | omega | (simp; omega))))) ?_
  refine Gq.val rfl rfl rfl (val_not rfl rfl) ?_
  refine Gq.val rfl rfl rfl (val_move rfl rfl) ?_
  refine Gq.casesB (t := 11) rfl (fun h2 => ?_) (fun h2 => ?_)
  · refine Gq.skipg rfl rfl rfl rfl rfl rfl ?_
    refine Gq.skipg rfl rfl rfl rfl rfl rfl ?_
    refine Gq.skipg rfl rfl rfl rfl rfl rfl ?_
    refine Gq.skipg rfl rfl rfl rfl rfl rfl ?_
    refine Gq.skipg rfl rfl rfl rfl rfl rfl ?_
    refine Gq.skipg rfl rfl rfl rfl rfl rfl ?_
    refine Gq.skipg rfl rfl rfl rfl rfl rfl ?_
    refine Gq.skipg rfl rfl rfl rfl rfl rfl ?_
    refine Gq.skipg rfl rfl rfl rfl rfl rfl ?_
    refine Gq.skipg rfl rfl rfl rfl rfl rfl ?_
    refine Gq.skipg rfl rfl rfl rfl rfl rfl ?_
    refine Gq.skipg rfl rfl rfl rfl rfl rfl ?_
    refine Gq.val rfl rfl rfl (val_pickT rfl rfl rfl) ?_
    refine Gq.val rfl rfl rfl (val_move rfl rfl) ?_
    refine Gq.skipg rfl rfl rfl rfl rfl rfl ?_
    refine Gq.skipg rfl rfl rfl rfl rfl rfl ?_
    refine Gq.skipg rfl rfl rfl rfl rfl rfl ?_
    refine Gq.val rfl rfl rfl (val_pickT rfl rfl rfl) ?_
    refine Gq.val rfl rfl rfl (val_assign rfl rfl) ?_
    refine Gq.done ?_
    refine Gx.thenN ?_
    refine Gx.t rfl ?_
    refine Gx.seq ?_
    refine Gx.region ?_
    refine Gx.val rfl rfl rfl (val_assign rfl rfl) ?_
    refine Gx.done ?_
    refine Gx.thenN ?_
    refine Gx.ret ?_
    refine Gx.blkR ?_
    refine Gx.thenR ?_
    have hN3 := isN_no.1 (show (isN s.bl.length blk) = false by simpa using h2)
    refine Gx.front 6 rfl ?_
    refine Gx.front 6 rfl ?_
    refine Gx.front 6 rfl ?_
    refine Gx.front 6 rfl ?_
    refine Gx.front 6 rfl ?_
    refine Gx.front 6 rfl ?_
    refine Gx.sat (l' := [worldH S c s, Hp.rec_ b1 [.int .i64 kind, .int .i64 who, .int .i64 blk, .int .i64 rnd, .int .i64 hi], R]) (fun w H => worldH.shut (S := S) (c := c) (s := s) (bv := bv) (vv := vv) (mv := mv) (lb := lb) (gb := gb) (R := sep [Hp.rec_ b1 [.int .i64 kind, .int .i64 who, .int .i64 blk, .int .i64 rnd, .int .i64 hi], R]) H) ?_
    refine Gx.drop 1 rfl ?_
    refine Gx.norm (l' := [worldH S c s, R]) rfl ?_
    refine Gx.ret1 Tryd.results16 rfl ?_
    have hE : behindM c s ⟨kind, who, blk, rnd, hi⟩ = (2, s) := by
      unfold behindM; rw [if_pos (by rw [isN_no]; exact .inl (by assumption))]
    exact ⟨by rw [hE], by rw [hE]; exact sep1 _ _⟩
  · have hN4 := isN_iff.1 (show (isN s.bl.length blk) = true by simpa using h2)
    obtain ⟨bb, rfl⟩ := Int.eq_ofNat_of_zero_le (a := blk) (by omega)
    obtain ⟨x, hx⟩ := get_of_lt (xs := s.bl) (k := bb) (by omega)
    have hx9 := bd.rnd _ _ hx
    have eR : rndM s bb = x.rnd := by unfold rndM; rw [hx]; rfl
    refine Gq.valg rfl rfl rfl rfl rfl (Val.cast (val_fieldAddr rfl Tryd.underlying55 rfl Tryd.ty3 rfl rfl) (v' := ptr b1 3) rfl) ?_
    refine Gq.valg rfl rfl rfl rfl rfl (val_load rfl Tryd.ty3 rfl rfl (cell_rec (k := 0) rfl rfl)) ?_
    refine Gq.valg rfl rfl rfl rfl rfl (val_move rfl rfl) ?_
    refine Gq.valg rfl rfl rfl rfl rfl (val_nilCheck rfl rfl) ?_
    refine Gq.valg rfl rfl rfl rfl rfl (Val.cast (val_fieldAddr rfl Tryd.underlying53 rfl Tryd.ty27 rfl rfl) (v' := ptr S 3) rfl) ?_
    refine Gq.valg rfl rfl rfl rfl rfl (val_load rfl Tryd.ty27 rfl rfl (cell_rec (k := 1) rfl rfl)) ?_
    refine Gq.valg rfl rfl rfl rfl rfl (Val.cast (val_fieldAddr rfl Tryd.underlying55 rfl Tryd.ty3 rfl rfl) (v' := ptr b1 2) rfl) ?_
    refine Gq.valg rfl rfl rfl rfl rfl (val_load rfl Tryd.ty3 rfl rfl (cell_rec (k := 0) rfl rfl)) ?_
    refine Gq.valg rfl rfl rfl rfl rfl (val_ixa rfl Tryd.underlying27 Tryd.ty47 rfl rfl (j := bb) (rfl) (reach_own (k := 2) rfl hx)) ?_
    refine Gq.valg rfl rfl rfl rfl rfl (Val.cast (val_fieldAddr rfl Tryd.underlying47 rfl Tryd.ty3 rfl rfl) (v' := ptr (sB bv) (sO bv + bb * 2 + 1)) rfl) ?_
    refine Gq.valg rfl rfl rfl rfl rfl (val_load rfl Tryd.ty3 rfl rfl (cell_own (i := 1) (k := 2) rfl hx rfl)) ?_
    refine Gq.valg rfl rfl rfl rfl rfl (val_leq rfl rfl rfl) ?_
    refine Gq.val rfl rfl rfl (val_pickF rfl rfl rfl) ?_
    refine Gq.val rfl rfl rfl (val_move rfl rfl) ?_
    refine Gq.cases (t := 25) rfl (fun h5 => ?_) (fun h5 => ?_)
    · refine Gq.skipg rfl rfl rfl rfl rfl rfl ?_
      refine Gq.skipg rfl rfl rfl rfl rfl rfl ?_
      refine Gq.skipg rfl rfl rfl rfl rfl rfl ?_
      refine Gq.val rfl rfl rfl (val_pickT rfl rfl rfl) ?_
      refine Gq.val rfl rfl rfl (val_assign rfl rfl) ?_
      refine Gq.done ?_
      refine Gx.thenN ?_
      refine Gx.t rfl ?_
      refine Gx.seq ?_
      refine Gx.region ?_
      refine Gx.val rfl rfl rfl (val_assign rfl rfl) ?_
      refine Gx.done ?_
      refine Gx.thenN ?_
      refine Gx.ret ?_
      refine Gx.blkR ?_
      refine Gx.thenR ?_
      refine Gx.front 6 rfl ?_
      refine Gx.front 6 rfl ?_
      refine Gx.front 6 rfl ?_
      refine Gx.front 6 rfl ?_
      refine Gx.front 6 rfl ?_
      refine Gx.front 6 rfl ?_
      refine Gx.sat (l' := [worldH S c s, Hp.rec_ b1 [.int .i64 kind, .int .i64 who, .int .i64 ((bb : Nat) : Int), .int .i64 rnd, .int .i64 hi], R]) (fun w H => worldH.shut (S := S) (c := c) (s := s) (bv := bv) (vv := vv) (mv := mv) (lb := lb) (gb := gb) (R := sep [Hp.rec_ b1 [.int .i64 kind, .int .i64 who, .int .i64 ((bb : Nat) : Int), .int .i64 rnd, .int .i64 hi], R]) H) ?_
      refine Gx.drop 1 rfl ?_
      refine Gx.norm (l' := [worldH S c s, R]) rfl ?_
      refine Gx.ret1 Tryd.results16 rfl ?_
      have hE : behindM c s ⟨kind, who, ((bb : Nat) : Int), rnd, hi⟩ = (2, s) := by
        unfold behindM; rw [if_pos (by rw [isN_no]; first | omega | (dsimp only [Int.toNat_natCast]; rw [eR]; omega))]
      exact ⟨by rw [hE], by rw [hE]; exact sep1 _ _⟩
    · refine Gq.valg rfl rfl rfl rfl rfl (Val.cast (val_fieldAddr rfl Tryd.underlying55 rfl Tryd.ty3 rfl rfl) (v' := ptr b1 3) rfl) ?_
      refine Gq.valg rfl rfl rfl rfl rfl (val_load rfl Tryd.ty3 rfl rfl (cell_rec (k := 0) rfl rfl)) ?_
      refine Gq.valg rfl rfl rfl rfl rfl (val_gtr rfl rfl rfl) ?_
      refine Gq.val rfl rfl rfl (val_pickF rfl rfl rfl) ?_
      refine Gq.val rfl rfl rfl (val_assign rfl rfl) ?_
      refine Gq.done ?_
      refine Gx.thenN ?_
      refine Gx.dec rfl (fun h6 => ?_) (fun h6 => ?_)
      · refine Gx.seq ?_
        refine Gx.region ?_
        refine Gx.val rfl rfl rfl (val_assign rfl rfl) ?_
        refine Gx.done ?_
        refine Gx.thenN ?_
        refine Gx.ret ?_
        refine Gx.blkR ?_
        refine Gx.thenR ?_
        refine Gx.front 6 rfl ?_
        refine Gx.front 6 rfl ?_
        refine Gx.front 6 rfl ?_
        refine Gx.front 6 rfl ?_
        refine Gx.front 6 rfl ?_
        refine Gx.front 6 rfl ?_
        refine Gx.sat (l' := [worldH S c s, Hp.rec_ b1 [.int .i64 kind, .int .i64 who, .int .i64 ((bb : Nat) : Int), .int .i64 rnd, .int .i64 hi], R]) (fun w H => worldH.shut (S := S) (c := c) (s := s) (bv := bv) (vv := vv) (mv := mv) (lb := lb) (gb := gb) (R := sep [Hp.rec_ b1 [.int .i64 kind, .int .i64 who, .int .i64 ((bb : Nat) : Int), .int .i64 rnd, .int .i64 hi], R]) H) ?_
        refine Gx.drop 1 rfl ?_
        refine Gx.norm (l' := [worldH S c s, R]) rfl ?_
        refine Gx.ret1 Tryd.results16 rfl ?_
        have hE : behindM c s ⟨kind, who, ((bb : Nat) : Int), rnd, hi⟩ = (2, s) := by
          unfold behindM; rw [if_pos (by rw [isN_no]; first | omega | (dsimp only [Int.toNat_natCast]; rw [eR]; omega))]
        exact ⟨by rw [hE], by rw [hE]; exact sep1 _ _⟩
      · refine Gx.seq ?_
        refine Gx.region ?_
        refine Gx.val rfl rfl rfl (val_move rfl rfl) ?_
        refine Gx.val rfl rfl rfl (Val.cast (val_fieldAddr rfl Tryd.underlying55 rfl Tryd.ty3 rfl rfl) (v' := ptr b1 2) rfl) ?_
        refine Gx.val rfl rfl rfl (val_load rfl Tryd.ty3 rfl rfl (cell_rec (k := 0) rfl rfl)) ?_
        refine Gx.val rfl rfl rfl (val_call (vs := [ptr S 0, .int .i64 ((bb : Nat) : Int)]) rfl Tryd.fn9 rfl (fun w H => cert_any (s := s) (b := bb) ((H.at_ (k := 1) rfl).rec_.1) ((H.at_ (k := 1) rfl).cell 1 rfl) ((H.at_ (k := 1) rfl).cell 4 rfl) ((H.at_ (k := 3) rfl).sls (by first | omega | (simp; omega))) (bd.v128 ok) (by omega))) ?_
        refine Gx.val rfl rfl rfl (val_not rfl rfl) ?_
        refine Gx.val rfl rfl rfl (val_assign rfl rfl) ?_
        refine Gx.done ?_
        refine Gx.thenN ?_
        refine Gx.bool rfl (fun h7 => ?_) (fun h7 => ?_)
        · refine Gx.seq ?_
          refine Gx.region ?_
          refine Gx.val rfl rfl rfl (val_assign rfl rfl) ?_
          refine Gx.done ?_
          refine Gx.thenN ?_
          refine Gx.ret ?_
          refine Gx.blkR ?_
          refine Gx.thenR ?_
          have fb8 : (certM c s bb) = false := by simpa using h7
          refine Gx.front 6 rfl ?_
          refine Gx.front 6 rfl ?_
          refine Gx.front 6 rfl ?_
          refine Gx.front 6 rfl ?_
          refine Gx.front 6 rfl ?_
          refine Gx.front 6 rfl ?_
          refine Gx.sat (l' := [worldH S c s, Hp.rec_ b1 [.int .i64 kind, .int .i64 who, .int .i64 ((bb : Nat) : Int), .int .i64 rnd, .int .i64 hi], R]) (fun w H => worldH.shut (S := S) (c := c) (s := s) (bv := bv) (vv := vv) (mv := mv) (lb := lb) (gb := gb) (R := sep [Hp.rec_ b1 [.int .i64 kind, .int .i64 who, .int .i64 ((bb : Nat) : Int), .int .i64 rnd, .int .i64 hi], R]) H) ?_
          refine Gx.drop 1 rfl ?_
          refine Gx.norm (l' := [worldH S c s, R]) rfl ?_
          refine Gx.ret1 Tryd.results16 rfl ?_
          have hE : behindM c s ⟨kind, who, ((bb : Nat) : Int), rnd, hi⟩ = (6, s) := by
            unfold behindM; rw [if_neg (by rw [isN_no]; dsimp only [Int.toNat_natCast]; rw [eR]; omega)]; dsimp only [Int.toNat_natCast]; rw [if_pos fb8]
          exact ⟨by rw [hE], by rw [hE]; exact sep1 _ _⟩
        · refine Gx.seq ?_
          refine Gx.region ?_
          refine Gx.val rfl rfl rfl (val_move rfl rfl) ?_
          refine Gx.val rfl rfl rfl (val_nilCheck rfl rfl) ?_
          refine Gx.val rfl rfl rfl (Val.cast (val_fieldAddr rfl Tryd.underlying53 rfl Tryd.ty27 rfl rfl) (v' := ptr S 3) rfl) ?_
          refine Gx.val rfl rfl rfl (val_load rfl Tryd.ty27 rfl rfl (cell_rec (k := 1) rfl rfl)) ?_
          refine Gx.val rfl rfl rfl (val_len rfl Tryd.underlying27 rfl (len_own (k := 2) rfl)) ?_
          refine Gx.val rfl rfl rfl (val_eql rfl rfl rfl) ?_
          refine Gx.val rfl rfl rfl (val_assign rfl rfl) ?_
          refine Gx.done ?_
          refine Gx.thenN ?_
          refine Gx.dec rfl (fun h9 => ?_) (fun h9 => ?_)
          · refine Gx.seq ?_
            refine Gx.region ?_
            refine Gx.val rfl rfl rfl (val_assign rfl rfl) ?_
            refine Gx.done ?_
            refine Gx.thenN ?_
            refine Gx.ret ?_
            refine Gx.blkR ?_
            refine Gx.thenR ?_
            have fb10 : (certM c s bb) = true := by simpa using h7
            refine Gx.front 6 rfl ?_
            refine Gx.front 6 rfl ?_
            refine Gx.front 6 rfl ?_
            refine Gx.front 6 rfl ?_
            refine Gx.front 6 rfl ?_
            refine Gx.front 6 rfl ?_
            refine Gx.sat (l' := [worldH S c s, Hp.rec_ b1 [.int .i64 kind, .int .i64 who, .int .i64 ((bb : Nat) : Int), .int .i64 rnd, .int .i64 hi], R]) (fun w H => worldH.shut (S := S) (c := c) (s := s) (bv := bv) (vv := vv) (mv := mv) (lb := lb) (gb := gb) (R := sep [Hp.rec_ b1 [.int .i64 kind, .int .i64 who, .int .i64 ((bb : Nat) : Int), .int .i64 rnd, .int .i64 hi], R]) H) ?_
            refine Gx.drop 1 rfl ?_
            refine Gx.norm (l' := [worldH S c s, R]) rfl ?_
            refine Gx.ret1 Tryd.results16 rfl ?_
            have hE : behindM c s ⟨kind, who, ((bb : Nat) : Int), rnd, hi⟩ = (7, s) := by
              unfold behindM; rw [if_neg (by rw [isN_no]; dsimp only [Int.toNat_natCast]; rw [eR]; omega)]; dsimp only [Int.toNat_natCast]; rw [if_neg (by simp [fb10]), if_pos (by omega)]
            exact ⟨by rw [hE], by rw [hE]; exact sep1 _ _⟩
          · refine Gx.skip ?_
            refine Gx.blkN ?_
            refine Gx.thenN ?_
            refine Gx.seq ?_
            obtain ⟨rr, rfl⟩ := Int.eq_ofNat_of_zero_le (a := rnd) (by omega)
            refine Gx.regionO (fun j => j == 10 || j == 11) 14 [0, 1, 2, 3, 4, 5, 6, 7, 8, 9, 10, 11, 12, 13] (fun us => match us with | [] => [Hp.rec_ b1 [.int .i64 kind, .int .i64 who, .int .i64 ((bb : Nat) : Int), .int .i64 ((rr : Nat) : Int), .int .i64 hi], Hp.rec_ S [.int .i64 ((c.n : Nat) : Int), .int .i64 ((c.need : Nat) : Int), .int .u32 ((c.L : Nat) : Int), bv, vv, mv, .map (some lb), .map (some gb)], Hp.own FK 2 bv s.bl, Hp.own FV 1 vv s.vt, Hp.own FR 2 mv s.ms, Hp.map Tryd.prog 92 tripL vI lb s.lt, Hp.map Tryd.prog 93 pairL vI gb s.gv, R] | [u1] => [Hp.rec_ (sB u1) [.int .i64 ((bb : Nat) : Int), .int .i64 ((rr : Nat) : Int)], Hp.rec_ b1 [.int .i64 kind, .int .i64 who, .int .i64 ((bb : Nat) : Int), .int .i64 ((rr : Nat) : Int), .int .i64 hi], Hp.rec_ S [.int .i64 ((c.n : Nat) : Int), .int .i64 ((c.need : Nat) : Int), .int .u32 ((c.L : Nat) : Int), bv, vv, mv, .map (some lb), .map (some gb)], Hp.own FK 2 bv s.bl, Hp.own FV 1 vv s.vt, Hp.own FR 2 mv s.ms, Hp.map Tryd.prog 92 tripL vI lb s.lt, Hp.map Tryd.prog 93 pairL vI gb s.gv, R] | u1 :: u2 :: _ => [Hp.rec_ b1 [.int .i64 kind, .int .i64 who, .int .i64 ((bb : Nat) : Int), .int .i64 ((rr : Nat) : Int), .int .i64 hi], Hp.rec_ S [.int .i64 ((c.n : Nat) : Int), .int .i64 ((c.need : Nat) : Int), .int .u32 ((c.L : Nat) : Int), bv, vv, mv, .map (some lb), .map (some gb)], Hp.own FK 2 u2 (s.bl ++ [(⟨((bb : Nat) : Int), rr⟩ : Bk)]), Hp.own FV 1 vv s.vt, Hp.own FR 2 mv s.ms, Hp.map Tryd.prog 92 tripL vI lb s.lt, Hp.map Tryd.prog 93 pairL vI gb s.gv, R]) Tryd.mixed (by kernel_rfl) rfl ?_
            refine Gw.val rfl rfl rfl rfl rfl (fun us => val_move rfl rfl) ?_
            refine Gw.val rfl rfl rfl rfl rfl (fun us => val_move rfl rfl) ?_
            refine Gw.val rfl rfl rfl rfl rfl (fun us => val_nilCheck rfl rfl) ?_
            refine Gw.val rfl rfl rfl rfl rfl (fun us => Val.cast (val_fieldAddr rfl Tryd.underlying53 rfl Tryd.ty27 rfl rfl) (v' := ptr S 3) rfl) ?_
            refine Gw.val rfl rfl rfl rfl rfl (fun us => match us with | [] => val_load rfl Tryd.ty27 rfl rfl (cell_rec (k := 1) rfl rfl) | [u1] => val_load rfl Tryd.ty27 rfl rfl (cell_rec (k := 2) rfl rfl) | u1 :: u2 :: _ => val_load rfl Tryd.ty27 rfl rfl (cell_rec (k := 1) rfl rfl)) ?_
            refine Gw.val rfl rfl rfl rfl rfl (fun us => Val.cast (val_fieldAddr rfl Tryd.underlying55 rfl Tryd.ty3 rfl rfl) (v' := ptr b1 2) rfl) ?_
            refine Gw.val rfl rfl rfl rfl rfl (fun us => match us with | [] => val_load rfl Tryd.ty3 rfl rfl (cell_rec (k := 0) rfl rfl) | [u1] => val_load rfl Tryd.ty3 rfl rfl (cell_rec (k := 1) rfl rfl) | u1 :: u2 :: _ => val_load rfl Tryd.ty3 rfl rfl (cell_rec (k := 0) rfl rfl)) ?_
            refine Gw.val rfl rfl rfl rfl rfl (fun us => Val.cast (val_fieldAddr rfl Tryd.underlying55 rfl Tryd.ty3 rfl rfl) (v' := ptr b1 3) rfl) ?_
            refine Gw.val rfl rfl rfl rfl rfl (fun us => match us with | [] => val_load rfl Tryd.ty3 rfl rfl (cell_rec (k := 0) rfl rfl) | [u1] => val_load rfl Tryd.ty3 rfl rfl (cell_rec (k := 1) rfl rfl) | u1 :: u2 :: _ => val_load rfl Tryd.ty3 rfl rfl (cell_rec (k := 0) rfl rfl)) ?_
            refine Gw.val rfl rfl rfl rfl rfl (fun us => val_build rfl (qs := [(0, .int .i64 ((bb : Nat) : Int)), (1, .int .i64 ((rr : Nat) : Int))]) rfl rfl (fun w => by go_simp) (v := .agg #[.int .i64 ((bb : Nat) : Int), .int .i64 ((rr : Nat) : Int)])) ?_
            refine Gw.chg rfl rfl rfl rfl rfl (fun v => ∃ b11, v = .slice (some ⟨b11, 0, none⟩) 1 1) (Eff.mono (eff_buildSlice rfl (qs := [(0, .agg #[.int .i64 ((bb : Nat) : Int), .int .i64 ((rr : Nat) : Int)])]) rfl rfl (cs := #[.int .i64 ((bb : Nat) : Int), .int .i64 ((rr : Nat) : Int)]) (vs := [.int .i64 ((bb : Nat) : Int), .int .i64 ((rr : Nat) : Int)]) (E := 47) rfl (fun w => by first | (go_simp; done) | (go_simp; rfl))) (by rintro _ _ ⟨b11, rfl, rfl⟩; exact ⟨⟨b11, rfl⟩, rfl⟩)) ?_
            rintro _ ⟨b11, rfl⟩
            refine Gw.chg rfl rfl rfl rfl rfl IsS (Eff.mono (eff_push (r := (⟨((bb : Nat) : Int), rr⟩ : Bk)) rfl Tryd.eK FK_len FK_one rfl rfl (k := 0) rfl rfl (k' := 2) rfl (by omega) (by omega)) (fun _ _ h => ⟨h.1, congrArg sep h.2⟩)) ?_
            intro v12 hiv12
            refine Gw.val rfl rfl rfl rfl rfl (fun us => val_nilCheck rfl rfl) ?_
            refine Gw.val rfl rfl rfl rfl rfl (fun us => Val.cast (val_fieldAddr rfl Tryd.underlying53 rfl Tryd.ty27 rfl rfl) (v' := ptr S 3) rfl) ?_
            refine Gw.done ?_
            refine Gx.norm (l' := [Hp.rec_ b1 [.int .i64 kind, .int .i64 who, .int .i64 ((bb : Nat) : Int), .int .i64 ((rr : Nat) : Int), .int .i64 hi], Hp.rec_ S [.int .i64 ((c.n : Nat) : Int), .int .i64 ((c.need : Nat) : Int), .int .u32 ((c.L : Nat) : Int), bv, vv, mv, .map (some lb), .map (some gb)], Hp.own FK 2 v12 (s.bl ++ [(⟨((bb : Nat) : Int), rr⟩ : Bk)]), Hp.own FV 1 vv s.vt, Hp.own FR 2 mv s.ms, Hp.map Tryd.prog 92 tripL vI lb s.lt, Hp.map Tryd.prog 93 pairL vI gb s.gv, R]) rfl ?_
            refine Gx.eff0 rfl rfl (eff_store rfl Tryd.ty27 rfl rfl (us := [v12]) hiv12.cellsL rfl hiv12.all (k := 1) rfl (rfl) (vs' := [.int .i64 ((c.n : Nat) : Int), .int .i64 ((c.need : Nat) : Int), .int .u32 ((c.L : Nat) : Int), v12, vv, mv, .map (some lb), .map (some gb)]) (rfl) (l' := [Hp.rec_ b1 [.int .i64 kind, .int .i64 who, .int .i64 ((bb : Nat) : Int), .int .i64 ((rr : Nat) : Int), .int .i64 hi], Hp.rec_ S [.int .i64 ((c.n : Nat) : Int), .int .i64 ((c.need : Nat) : Int), .int .u32 ((c.L : Nat) : Int), v12, vv, mv, .map (some lb), .map (some gb)], Hp.own FK 2 v12 (s.bl ++ [(⟨((bb : Nat) : Int), rr⟩ : Bk)]), Hp.own FV 1 vv s.vt, Hp.own FR 2 mv s.ms, Hp.map Tryd.prog 92 tripL vI lb s.lt, Hp.map Tryd.prog 93 pairL vI gb s.gv, R]) rfl) ?_
            rintro _ _ rfl
            refine Gx.done ?_
            refine Gx.thenN ?_
            refine Gx.seq ?_
            refine Gx.region ?_
            refine Gx.val rfl rfl rfl (val_move rfl rfl) ?_
            refine Gx.val rfl rfl rfl (val_move rfl rfl) ?_
            refine Gx.val rfl rfl rfl (val_nilCheck rfl rfl) ?_
            refine Gx.val rfl rfl rfl (Val.cast (val_fieldAddr rfl Tryd.underlying53 rfl Tryd.ty48 rfl rfl) (v' := ptr S 4) rfl) ?_
            refine Gx.val rfl rfl rfl (val_load rfl Tryd.ty48 rfl rfl (cell_rec (k := 1) rfl rfl)) ?_
            refine Gx.eff rfl rfl rfl (eff_buildSlice rfl (qs := [(0, .int .u32 0)]) rfl rfl (cs := #[.int .u32 0]) (vs := [.int .u32 0]) (E := 22) rfl (fun w => by first | (go_simp; done) | (go_simp; rfl))) ?_
            rintro _ _ ⟨b13, rfl, rfl⟩
            refine Gx.eff rfl rfl rfl (eff_push (r := 0) rfl Tryd.eV FV_len FV_one rfl rfl (k := 0) rfl rfl (k' := 3) rfl (by omega) (by omega)) ?_
            rintro v14 _ ⟨hiv14, rfl⟩
            refine Gx.norm (l' := [Hp.rec_ b1 [.int .i64 kind, .int .i64 who, .int .i64 ((bb : Nat) : Int), .int .i64 ((rr : Nat) : Int), .int .i64 hi], Hp.rec_ S [.int .i64 ((c.n : Nat) : Int), .int .i64 ((c.need : Nat) : Int), .int .u32 ((c.L : Nat) : Int), v12, vv, mv, .map (some lb), .map (some gb)], Hp.own FK 2 v12 (s.bl ++ [(⟨((bb : Nat) : Int), rr⟩ : Bk)]), Hp.own FV 1 v14 (s.vt ++ [0]), Hp.own FR 2 mv s.ms, Hp.map Tryd.prog 92 tripL vI lb s.lt, Hp.map Tryd.prog 93 pairL vI gb s.gv, R]) rfl ?_
            refine Gx.val rfl rfl rfl (val_nilCheck rfl rfl) ?_
            refine Gx.val rfl rfl rfl (Val.cast (val_fieldAddr rfl Tryd.underlying53 rfl Tryd.ty48 rfl rfl) (v' := ptr S 4) rfl) ?_
            refine Gx.eff0 rfl rfl (eff_store rfl Tryd.ty48 rfl rfl (us := [v14]) hiv14.cellsL rfl hiv14.all (k := 1) rfl (rfl) (vs' := [.int .i64 ((c.n : Nat) : Int), .int .i64 ((c.need : Nat) : Int), .int .u32 ((c.L : Nat) : Int), v12, v14, mv, .map (some lb), .map (some gb)]) (rfl) (l' := [Hp.rec_ b1 [.int .i64 kind, .int .i64 who, .int .i64 ((bb : Nat) : Int), .int .i64 ((rr : Nat) : Int), .int .i64 hi], Hp.rec_ S [.int .i64 ((c.n : Nat) : Int), .int .i64 ((c.need : Nat) : Int), .int .u32 ((c.L : Nat) : Int), v12, v14, mv, .map (some lb), .map (some gb)], Hp.own FK 2 v12 (s.bl ++ [(⟨((bb : Nat) : Int), rr⟩ : Bk)]), Hp.own FV 1 v14 (s.vt ++ [0]), Hp.own FR 2 mv s.ms, Hp.map Tryd.prog 92 tripL vI lb s.lt, Hp.map Tryd.prog 93 pairL vI gb s.gv, R]) rfl) ?_
            rintro _ _ rfl
            refine Gx.done ?_
            refine Gx.thenN ?_
            refine Gx.seq ?_
            refine Gx.region ?_
            refine Gx.val rfl rfl rfl (val_assign rfl rfl) ?_
            refine Gx.done ?_
            refine Gx.thenN ?_
            refine Gx.ret ?_
            have fb15 : (certM c s bb) = true := by simpa using h7
            refine Gx.front 6 rfl ?_
            refine Gx.front 6 rfl ?_
            refine Gx.front 6 rfl ?_
            refine Gx.front 6 rfl ?_
            refine Gx.front 6 rfl ?_
            refine Gx.front 6 rfl ?_
            refine Gx.sat (l' := [worldH S c (⟨s.bl ++ [⟨((bb : Nat) : Int), rr⟩], s.vt ++ [0], s.ms, s.lt, s.gv⟩ : MS), Hp.rec_ b1 [.int .i64 kind, .int .i64 who, .int .i64 ((bb : Nat) : Int), .int .i64 ((rr : Nat) : Int), .int .i64 hi], R]) (fun w H => worldH.shut (S := S) (c := c) (s := (⟨s.bl ++ [⟨((bb : Nat) : Int), rr⟩], s.vt ++ [0], s.ms, s.lt, s.gv⟩ : MS)) (bv := v12) (vv := v14) (mv := mv) (lb := lb) (gb := gb) (R := sep [Hp.rec_ b1 [.int .i64 kind, .int .i64 who, .int .i64 ((bb : Nat) : Int), .int .i64 ((rr : Nat) : Int), .int .i64 hi], R]) H) ?_
            refine Gx.drop 1 rfl ?_
            refine Gx.norm (l' := [worldH S c (⟨s.bl ++ [⟨((bb : Nat) : Int), rr⟩], s.vt ++ [0], s.ms, s.lt, s.gv⟩ : MS), R]) rfl ?_
            refine Gx.ret1 Tryd.results16 rfl ?_
            have hE : behindM c s ⟨kind, who, ((bb : Nat) : Int), ((rr : Nat) : Int), hi⟩ = (0, (⟨s.bl ++ [⟨((bb : Nat) : Int), rr⟩], s.vt ++ [0], s.ms, s.lt, s.gv⟩ : MS)) := by
              unfold behindM; rw [if_neg (by rw [isN_no]; dsimp only [Int.toNat_natCast]; rw [eR]; omega)]; dsimp only [Int.toNat_natCast]; rw [if_neg (by simp [fb15]), if_neg (by omega)]
            exact ⟨by rw [hE], by rw [hE]; exact sep1 _ _⟩

theorem learn_any {W w : World} {S T : Nat} {c : MC} {s : MS} {R : Hp} {i : Nat} {b : Int} (hi : i < c.n) (ok : OkM c) (bd : BdM T c s) (hT : T ≤ 1000) (H : Sat W w (worldH S c s * R)) :
    Calls Tryd.prog 19 #[ptr S 0, .int .i64 ((i : Nat) : Int), .int .i64 b] w (Ret W fun v l => v = .int .i64 (learnM c s i b).1 ∧ sep l = worldH S c (learnM c s i b).2 * R) := by
  have hcn := ok.n7
  have hL := ok.L
  have hb40 := bd.b40
  have hvl := bd.vlen
  have hml := bd.mlen
  have hpos := bd.pos
  have hltl := bd.ltl
  have hgvl := bd.gvl
  obtain ⟨bv, vv, mv, lb, gb, H⟩ := worldH.open_ H
  have hbv : IsS bv := isS_own (H.at_ (k := 1) rfl)
  have hvv : IsS vv := isS_own (H.at_ (k := 2) rfl)
  have hmv : IsS mv := isS_own (H.at_ (k := 3) rfl)
  refine Gx.enter (l := [Hp.rec_ S [.int .i64 ((c.n : Nat) : Int), .int .i64 ((c.need : Nat) : Int), .int .u32 ((c.L : Nat) : Int), bv, vv, mv, .map (some lb), .map (some gb)], Hp.own FK 2 bv s.bl, Hp.own FV 1 vv s.vt, Hp.own FR 2 mv s.ms, Hp.map Tryd.prog 92 tripL vI lb s.lt, Hp.map Tryd.prog 93 pairL vI gb s.gv, R]) Tryd.func19 rfl Tryd.ntmps19 rfl (H) ?_
  refine Gx.know (m' := [(0, ptr S 0), (1, .int .i64 ((i : Nat) : Int)), (2, .int .i64 b)]) (.cons rfl (.cons rfl (.cons rfl .nil))) ?_
  refine Gx.seq ?_
  refine Gx.region ?_
  refine Gx.val rfl rfl rfl (val_assign rfl rfl) ?_
  refine Gx.done ?_
  refine Gx.thenN ?_
  refine Gx.seq ?_
  refine Gx.seq ?_
  refine Gx.region ?_
  refine Gx.val rfl rfl rfl (val_move rfl rfl) ?_
  refine Gx.val rfl rfl rfl (val_move rfl rfl) ?_
  refine Gx.val rfl rfl rfl (val_call (vs := [ptr S 0, .int .i64 b]) rfl Tryd.fn30 rfl (fun w H => block_any (b := b) ((H.at_ (k := 0) rfl).rec_.1) ((H.at_ (k := 0) rfl).cell 3 rfl) ((H.at_ (k := 1) rfl).sls (by first | omega | (simp; omega))))) ?_
  refine Gx.val rfl rfl rfl (val_not rfl rfl) ?_
  refine Gx.done ?_
  refine Gx.thenN ?_
  refine Gx.bool rfl (fun h1 => ?_) (fun h1 => ?_)
  · refine Gx.seq ?_
    refine Gx.region ?_
    refine Gx.val rfl rfl rfl (val_assign rfl rfl) ?_
    refine Gx.done ?_
    refine Gx.thenN ?_
    refine Gx.ret ?_
    refine Gx.thenR ?_
    have hN2 := isN_no.1 (show (isN s.bl.length b) = false by simpa using h1)
    refine Gx.front 5 rfl ?_
    refine Gx.front 5 rfl ?_
    refine Gx.front 5 rfl ?_
    refine Gx.front 5 rfl ?_
    refine Gx.front 5 rfl ?_
    refine Gx.front 5 rfl ?_
    refine Gx.sat (l' := [worldH S c s, R]) (fun w H => worldH.shut (S := S) (c := c) (s := s) (bv := bv) (vv := vv) (mv := mv) (lb := lb) (gb := gb) (R := sep [R]) H) ?_
    refine Gx.norm (l' := [worldH S c s, R]) rfl ?_
    refine Gx.ret1 Tryd.results19 rfl ?_
    have hE : learnM c s i b = (2, s) := by
      unfold learnM; rw [if_pos (isN_no.2 (by assumption))]
    exact ⟨by rw [hE], by rw [hE]; exact sep1 _ _⟩
  · refine Gx.skip ?_
    refine Gx.thenN ?_
    refine Gx.seq ?_
    refine Gx.seq ?_
    have hN3 := isN_iff.1 (show (isN s.bl.length b) = true by simpa using h1)
    obtain ⟨bb, rfl⟩ := Int.eq_ofNat_of_zero_le (a := b) (by omega)
    obtain ⟨x, hx⟩ := get_of_lt (xs := s.bl) (k := bb) (by omega)
    have hx9 := bd.rnd _ _ hx
    have eR : rndM s bb = x.rnd := by unfold rndM; rw [hx]; rfl
    obtain ⟨m, hm⟩ := get_of_lt (xs := s.ms) (k := i) (by omega)
    have hm9 := bd.mb _ (List.mem_of_getElem? hm)
    have eM : memM s i = m := by unfold memM; rw [hm]; rfl
    refine Gx.region ?_
    refine Gx.val rfl rfl rfl (val_move rfl rfl) ?_
    refine Gx.val rfl rfl rfl (val_move rfl rfl) ?_
    refine Gx.val rfl rfl rfl (val_call (vs := [ptr S 0, .int .i64 ((bb : Nat) : Int)]) rfl Tryd.fn9 rfl (fun w H => cert_any (s := s) (b := bb) ((H.at_ (k := 0) rfl).rec_.1) ((H.at_ (k := 0) rfl).cell 1 rfl) ((H.at_ (k := 0) rfl).cell 4 rfl) ((H.at_ (k := 2) rfl).sls (by first | omega | (simp; omega))) (bd.v128 ok) (by omega))) ?_
    refine Gx.val rfl rfl rfl (val_not rfl rfl) ?_
    refine Gx.val rfl rfl rfl (val_move rfl rfl) ?_
    refine Gx.casesB (t := 15) rfl (fun h4 => ?_) (fun h4 => ?_)
    · refine Gx.skipg rfl rfl rfl rfl rfl rfl ?_
      refine Gx.skipg rfl rfl rfl rfl rfl rfl ?_
      refine Gx.skipg rfl rfl rfl rfl rfl rfl ?_
      refine Gx.val rfl rfl rfl (val_pickT rfl rfl rfl) ?_
      refine Gx.done ?_
      refine Gx.thenN ?_
      refine Gx.t rfl ?_
      refine Gx.seq ?_
      refine Gx.region ?_
      refine Gx.val rfl rfl rfl (val_assign rfl rfl) ?_
      refine Gx.done ?_
      refine Gx.thenN ?_
      refine Gx.ret ?_
      refine Gx.thenR ?_
      have fb5 : (certM c s bb) = false := by simpa using h4
      refine Gx.front 5 rfl ?_
      refine Gx.front 5 rfl ?_
      refine Gx.front 5 rfl ?_
      refine Gx.front 5 rfl ?_
      refine Gx.front 5 rfl ?_
      refine Gx.front 5 rfl ?_
      refine Gx.sat (l' := [worldH S c s, R]) (fun w H => worldH.shut (S := S) (c := c) (s := s) (bv := bv) (vv := vv) (mv := mv) (lb := lb) (gb := gb) (R := sep [R]) H) ?_
      refine Gx.norm (l' := [worldH S c s, R]) rfl ?_
      refine Gx.ret1 Tryd.results19 rfl ?_
      have hE : learnM c s i ((bb : Nat) : Int) = (6, s) := by
        unfold learnM; rw [if_neg (by rw [isN_no]; omega)]; dsimp only [Int.toNat_natCast]; rw [if_pos (by simp [fb5])]
      exact ⟨by rw [hE], by rw [hE]; exact sep1 _ _⟩
    · refine Gx.valg rfl rfl rfl rfl rfl (val_move rfl rfl) ?_
      refine Gx.valg rfl rfl rfl rfl rfl (val_move rfl rfl) ?_
      refine Gx.valg rfl rfl rfl rfl rfl (val_call (vs := [ptr S 0, .int .i64 ((i : Nat) : Int)]) rfl Tryd.fn31 rfl (fun w H => lies_any (i := i) ((H.at_ (k := 0) rfl).rec_.1) ((H.at_ (k := 0) rfl).cell 2 rfl) hL (by omega))) ?_
      refine Gx.val rfl rfl rfl (val_pickF rfl rfl rfl) ?_
      refine Gx.done ?_
      refine Gx.thenN ?_
      refine Gx.bool rfl (fun h6 => ?_) (fun h6 => ?_)
      · refine Gx.seq ?_
        refine Gx.region ?_
        refine Gx.val rfl rfl rfl (val_assign rfl rfl) ?_
        refine Gx.done ?_
        refine Gx.thenN ?_
        refine Gx.ret ?_
        refine Gx.thenR ?_
        have fb7 : (certM c s bb) = true := by simpa using h4
        have fb8 : (liesB c.L i) = true := by simpa using h6
        refine Gx.front 5 rfl ?_
        refine Gx.front 5 rfl ?_
        refine Gx.front 5 rfl ?_
        refine Gx.front 5 rfl ?_
        refine Gx.front 5 rfl ?_
        refine Gx.front 5 rfl ?_
        refine Gx.sat (l' := [worldH S c s, R]) (fun w H => worldH.shut (S := S) (c := c) (s := s) (bv := bv) (vv := vv) (mv := mv) (lb := lb) (gb := gb) (R := sep [R]) H) ?_
        refine Gx.norm (l' := [worldH S c s, R]) rfl ?_
        refine Gx.ret1 Tryd.results19 rfl ?_
        have hE : learnM c s i ((bb : Nat) : Int) = (6, s) := by
          unfold learnM; rw [if_neg (by rw [isN_no]; omega)]; dsimp only [Int.toNat_natCast]; rw [if_pos (by simp [fb7, fb8])]
        exact ⟨by rw [hE], by rw [hE]; exact sep1 _ _⟩
      · refine Gx.skip ?_
        refine Gx.thenN ?_
        refine Gx.seq ?_
        refine Gx.regionO (fun j => false) 24 [0, 1, 2, 3, 4, 5, 6, 7, 8, 9, 10, 11, 12, 13, 14, 15, 16, 17, 18, 19, 20, 21, 22, 23] (fun _ => [Hp.rec_ S [.int .i64 ((c.n : Nat) : Int), .int .i64 ((c.need : Nat) : Int), .int .u32 ((c.L : Nat) : Int), bv, vv, mv, .map (some lb), .map (some gb)], Hp.own FK 2 bv s.bl, Hp.own FV 1 vv s.vt, Hp.own FR 2 mv s.ms, Hp.map Tryd.prog 92 tripL vI lb s.lt, Hp.map Tryd.prog 93 pairL vI gb s.gv, R]) Tryd.mixed (by kernel_rfl) rfl ?_
        refine Gw.val rfl rfl rfl rfl rfl (fun us => val_move rfl rfl) ?_
        refine Gw.val rfl rfl rfl rfl rfl (fun us => val_nilCheck rfl rfl) ?_
        refine Gw.val rfl rfl rfl rfl rfl (fun us => Val.cast (val_fieldAddr rfl Tryd.underlying53 rfl Tryd.ty49 rfl rfl) (v' := ptr S 5) rfl) ?_
        refine Gw.val0 rfl rfl rfl (by kernel_rfl) rfl rfl (val_load rfl Tryd.ty49 rfl rfl (cell_rec (k := 0) rfl rfl)) ?_
        refine Gw.val rfl rfl rfl rfl rfl (fun us => val_move rfl rfl) ?_
        refine Gw.val rfl rfl rfl rfl rfl (fun us => val_move rfl rfl) ?_
        refine Gw.val rfl rfl rfl rfl rfl (fun us => val_nilCheck rfl rfl) ?_
        refine Gw.val rfl rfl rfl rfl rfl (fun us => Val.cast (val_fieldAddr rfl Tryd.underlying53 rfl Tryd.ty49 rfl rfl) (v' := ptr S 5) rfl) ?_
        refine Gw.val0 rfl rfl rfl (by kernel_rfl) rfl rfl (val_load rfl Tryd.ty49 rfl rfl (cell_rec (k := 0) rfl rfl)) ?_
        refine Gw.val rfl rfl rfl rfl rfl (fun us => val_move rfl rfl) ?_
        refine Gw.val0 rfl rfl rfl (by kernel_rfl) rfl rfl (val_ixa rfl Tryd.underlying49 Tryd.ty90 rfl rfl (j := i) (rfl) (reach_own (k := 3) rfl hm)) ?_
        refine Gw.val rfl rfl rfl rfl rfl (fun us => Val.cast (val_fieldAddr rfl Tryd.underlying90 rfl Tryd.ty3 rfl rfl) (v' := ptr (sB mv) (sO mv + i * 2 + 1)) rfl) ?_
        refine Gw.val0 rfl rfl rfl (by kernel_rfl) rfl rfl (val_load rfl Tryd.ty3 rfl rfl (cell_own (i := 1) (k := 3) rfl hm rfl)) ?_
        refine Gw.val rfl rfl rfl rfl rfl (fun us => val_move rfl rfl) ?_
        refine Gw.val rfl rfl rfl rfl rfl (fun us => val_nilCheck rfl rfl) ?_
        refine Gw.val rfl rfl rfl rfl rfl (fun us => Val.cast (val_fieldAddr rfl Tryd.underlying53 rfl Tryd.ty27 rfl rfl) (v' := ptr S 3) rfl) ?_
        refine Gw.val0 rfl rfl rfl (by kernel_rfl) rfl rfl (val_load rfl Tryd.ty27 rfl rfl (cell_rec (k := 0) rfl rfl)) ?_
        refine Gw.val rfl rfl rfl rfl rfl (fun us => val_move rfl rfl) ?_
        refine Gw.val0 rfl rfl rfl (by kernel_rfl) rfl rfl (val_ixa rfl Tryd.underlying27 Tryd.ty47 rfl rfl (j := bb) (rfl) (reach_own (k := 1) rfl hx)) ?_
        refine Gw.val rfl rfl rfl rfl rfl (fun us => Val.cast (val_fieldAddr rfl Tryd.underlying47 rfl Tryd.ty3 rfl rfl) (v' := ptr (sB bv) (sO bv + bb * 2 + 1)) rfl) ?_
        refine Gw.val0 rfl rfl rfl (by kernel_rfl) rfl rfl (val_load rfl Tryd.ty3 rfl rfl (cell_own (i := 1) (k := 1) rfl hx rfl)) ?_
        refine Gw.val rfl rfl rfl rfl rfl (fun us => val_max rfl rfl rfl (r := ((max m.kn x.rnd : Nat) : Int)) (maxI _ _)) ?_
        refine Gw.val0 rfl rfl rfl (by kernel_rfl) rfl rfl (val_ixa rfl Tryd.underlying49 Tryd.ty90 rfl rfl (j := i) (rfl) (reach_own (k := 3) rfl hm)) ?_
        refine Gw.val rfl rfl rfl rfl rfl (fun us => Val.cast (val_fieldAddr rfl Tryd.underlying90 rfl Tryd.ty3 rfl rfl) (v' := ptr (sB mv) (sO mv + i * 2 + 1)) rfl) ?_
        refine Gw.done ?_
        refine Gx.norm (l' := [Hp.rec_ S [.int .i64 ((c.n : Nat) : Int), .int .i64 ((c.need : Nat) : Int), .int .u32 ((c.L : Nat) : Int), bv, vv, mv, .map (some lb), .map (some gb)], Hp.own FK 2 bv s.bl, Hp.own FV 1 vv s.vt, Hp.own FR 2 mv s.ms, Hp.map Tryd.prog 92 tripL vI lb s.lt, Hp.map Tryd.prog 93 pairL vI gb s.gv, R]) rfl ?_
        refine Gx.eff0 rfl rfl (eff_storeEl (i := 1) (e' := (⟨m.vo, max m.kn x.rnd⟩ : Mm)) rfl Tryd.ty3 rfl rfl rfl rfl (k := 3) rfl FR_len hm (by decide) (rfl) (l' := [Hp.rec_ S [.int .i64 ((c.n : Nat) : Int), .int .i64 ((c.need : Nat) : Int), .int .u32 ((c.L : Nat) : Int), bv, vv, mv, .map (some lb), .map (some gb)], Hp.own FK 2 bv s.bl, Hp.own FV 1 vv s.vt, Hp.own FR 2 mv ((s.ms).set i (⟨m.vo, max m.kn x.rnd⟩ : Mm)), Hp.map Tryd.prog 92 tripL vI lb s.lt, Hp.map Tryd.prog 93 pairL vI gb s.gv, R]) rfl) ?_
        rintro _ _ rfl
        refine Gx.done ?_
        refine Gx.thenN ?_
        refine Gx.seq ?_
        refine Gx.region ?_
        refine Gx.val rfl rfl rfl (val_assign rfl rfl) ?_
        refine Gx.done ?_
        refine Gx.thenN ?_
        refine Gx.ret ?_
        have fb9 : (certM c s bb) = true := by simpa using h4
        have fb10 : (liesB c.L i) = false := by simpa using h6
        refine Gx.front 5 rfl ?_
        refine Gx.front 5 rfl ?_
        refine Gx.front 5 rfl ?_
        refine Gx.front 5 rfl ?_
        refine Gx.front 5 rfl ?_
        refine Gx.front 5 rfl ?_
        refine Gx.sat (l' := [worldH S c (⟨s.bl, s.vt, s.ms.set i ⟨m.vo, max m.kn x.rnd⟩, s.lt, s.gv⟩ : MS), R]) (fun w H => worldH.shut (S := S) (c := c) (s := (⟨s.bl, s.vt, s.ms.set i ⟨m.vo, max m.kn x.rnd⟩, s.lt, s.gv⟩ : MS)) (bv := bv) (vv := vv) (mv := mv) (lb := lb) (gb := gb) (R := sep [R]) H) ?_
        refine Gx.norm (l' := [worldH S c (⟨s.bl, s.vt, s.ms.set i ⟨m.vo, max m.kn x.rnd⟩, s.lt, s.gv⟩ : MS), R]) rfl ?_
        refine Gx.ret1 Tryd.results19 rfl ?_
        have hE : learnM c s i ((bb : Nat) : Int) = (0, (⟨s.bl, s.vt, s.ms.set i ⟨m.vo, max m.kn x.rnd⟩, s.lt, s.gv⟩ : MS)) := by
          unfold learnM; rw [if_neg (by rw [isN_no]; omega)]; dsimp only [Int.toNat_natCast]; rw [if_neg (by simp [fb9, fb10]), eM, eR]
        exact ⟨by rw [hE], by rw [hE]; exact sep1 _ _⟩

theorem vote_any {W w : World} {S T : Nat} {c : MC} {s : MS} {R : Hp} {i : Nat} {b : Int} (hi : i < c.n) (ok : OkM c) (bd : BdM T c s) (hT : T ≤ 1000) (H : Sat W w (worldH S c s * R)) :
    Calls Tryd.prog 17 #[ptr S 0, .int .i64 ((i : Nat) : Int), .int .i64 b] w (Ret W fun v l => v = .int .i64 (voteStep c s i b).1 ∧ sep l = worldH S c (voteStep c s i b).2 * R) := by
  have hcn := ok.n7
  have hL := ok.L
  have hb40 := bd.b40
  have hvl := bd.vlen
  have hml := bd.mlen
  have hpos := bd.pos
  have hltl := bd.ltl
  have hgvl := bd.gvl
  obtain ⟨bv, vv, mv, lb, gb, H⟩ := worldH.open_ H
  have hbv : IsS bv := isS_own (H.at_ (k := 1) rfl)
  have hvv : IsS vv := isS_own (H.at_ (k := 2) rfl)
  have hmv : IsS mv := isS_own (H.at_ (k := 3) rfl)
  refine Gx.enter (l := [Hp.rec_ S [.int .i64 ((c.n : Nat) : Int), .int .i64 ((c.need : Nat) : Int), .int .u32 ((c.L : Nat) : Int), bv, vv, mv, .map (some lb), .map (some gb)], Hp.own FK 2 bv s.bl, Hp.own FV 1 vv s.vt, Hp.own FR 2 mv s.ms, Hp.map Tryd.prog 92 tripL vI lb s.lt, Hp.map Tryd.prog 93 pairL vI gb s.gv, R]) Tryd.func17 rfl Tryd.ntmps17 rfl (H) ?_
  refine Gx.know (m' := [(0, ptr S 0), (1, .int .i64 ((i : Nat) : Int)), (2, .int .i64 b)]) (.cons rfl (.cons rfl (.cons rfl .nil))) ?_
  refine Gx.seq ?_
  refine Gx.region ?_
  refine Gx.val rfl rfl rfl (val_assign rfl rfl) ?_
  refine Gx.done ?_
  refine Gx.thenN ?_
  refine Gx.seq ?_
  refine Gx.seq ?_
  refine Gx.region ?_
  refine Gx.val rfl rfl rfl (val_move rfl rfl) ?_
  refine Gx.val rfl rfl rfl (val_move rfl rfl) ?_
  refine Gx.val rfl rfl rfl (val_call (vs := [ptr S 0, .int .i64 b]) rfl Tryd.fn30 rfl (fun w H => block_any (b := b) ((H.at_ (k := 0) rfl).rec_.1) ((H.at_ (k := 0) rfl).cell 3 rfl) ((H.at_ (k := 1) rfl).sls (by first | omega | (simp; omega))))) ?_
  refine Gx.val rfl rfl rfl (val_not rfl rfl) ?_
  refine Gx.val rfl rfl rfl (val_move rfl rfl) ?_
  refine Gx.casesB (t := 12) rfl (fun h1 => ?_) (fun h1 => ?_)
  · refine Gx.skipg rfl rfl rfl rfl rfl rfl ?_
    refine Gx.skipg rfl rfl rfl rfl rfl rfl ?_
    refine Gx.val rfl rfl rfl (val_pickT rfl rfl rfl) ?_
    refine Gx.done ?_
    refine Gx.thenN ?_
    refine Gx.t rfl ?_
    refine Gx.seq ?_
    refine Gx.region ?_
    refine Gx.val rfl rfl rfl (val_assign rfl rfl) ?_
    refine Gx.done ?_
    refine Gx.thenN ?_
    refine Gx.ret ?_
    refine Gx.thenR ?_
    have hN2 := isN_no.1 (show (isN s.bl.length b) = false by simpa using h1)
    refine Gx.front 5 rfl ?_
    refine Gx.front 5 rfl ?_
    refine Gx.front 5 rfl ?_
    refine Gx.front 5 rfl ?_
    refine Gx.front 5 rfl ?_
    refine Gx.front 5 rfl ?_
    refine Gx.sat (l' := [worldH S c s, R]) (fun w H => worldH.shut (S := S) (c := c) (s := s) (bv := bv) (vv := vv) (mv := mv) (lb := lb) (gb := gb) (R := sep [R]) H) ?_
    refine Gx.norm (l' := [worldH S c s, R]) rfl ?_
    refine Gx.ret1 Tryd.results17 rfl ?_
    have hE : voteStep c s i b = (2, s) := by
      unfold voteStep; rw [if_pos (by rw [isN_no]; omega)]
    exact ⟨by rw [hE], by rw [hE]; exact sep1 _ _⟩
  · refine Gx.valg rfl rfl rfl rfl rfl (val_move rfl rfl) ?_
    refine Gx.valg rfl rfl rfl rfl rfl (val_eql rfl rfl rfl) ?_
    refine Gx.val rfl rfl rfl (val_pickF rfl rfl rfl) ?_
    refine Gx.done ?_
    refine Gx.thenN ?_
    refine Gx.dec rfl (fun h3 => ?_) (fun h3 => ?_)
    · refine Gx.seq ?_
      refine Gx.region ?_
      refine Gx.val rfl rfl rfl (val_assign rfl rfl) ?_
      refine Gx.done ?_
      refine Gx.thenN ?_
      refine Gx.ret ?_
      refine Gx.thenR ?_
      have hN4 := isN_iff.1 (show (isN s.bl.length b) = true by simpa using h1)
      refine Gx.front 5 rfl ?_
      refine Gx.front 5 rfl ?_
      refine Gx.front 5 rfl ?_
      refine Gx.front 5 rfl ?_
      refine Gx.front 5 rfl ?_
      refine Gx.front 5 rfl ?_
      refine Gx.sat (l' := [worldH S c s, R]) (fun w H => worldH.shut (S := S) (c := c) (s := s) (bv := bv) (vv := vv) (mv := mv) (lb := lb) (gb := gb) (R := sep [R]) H) ?_
      refine Gx.norm (l' := [worldH S c s, R]) rfl ?_
      refine Gx.ret1 Tryd.results17 rfl ?_
      have hE : voteStep c s i b = (2, s) := by
        unfold voteStep; rw [if_pos (by rw [isN_no]; omega)]
      exact ⟨by rw [hE], by rw [hE]; exact sep1 _ _⟩
    · refine Gx.skip ?_
      refine Gx.thenN ?_
      refine Gx.seq ?_
      refine Gx.seq ?_
      have hN5 := isN_iff.1 (show (isN s.bl.length b) = true by simpa using h1)
      obtain ⟨bb, rfl⟩ := Int.eq_ofNat_of_zero_le (a := b) (by omega)
      obtain ⟨x, hx⟩ := get_of_lt (xs := s.bl) (k := bb) (by omega)
      have hx9 := bd.rnd _ _ hx
      have eR : rndM s bb = x.rnd := by unfold rndM; rw [hx]; rfl
      obtain ⟨p, y, hpe, hpb, hy, hyr⟩ := bd.par bb x (by omega) hx
      have hy9 := bd.rnd _ _ hy
      have eP : parM s bb = p := by unfold parM; rw [hx]; show x.par.toNat = p; rw [hpe]; rfl
      have eY : rndM s p = y.rnd := by unfold rndM; rw [hy]; rfl
      obtain ⟨m, hm⟩ := get_of_lt (xs := s.ms) (k := i) (by omega)
      have hm9 := bd.mb _ (List.mem_of_getElem? hm)
      have eM : memM s i = m := by unfold memM; rw [hm]; rfl
      obtain ⟨v0, hv0⟩ := get_of_lt (xs := s.vt) (k := bb) (by omega)
      have hv1 : v0 < 128 := bd.v128 ok _ (List.mem_of_getElem? hv0)
      have eV : voteM s bb = v0 := by unfold voteM; rw [hv0]; rfl
      refine Gx.region ?_
      refine Gx.val rfl rfl rfl (val_move rfl rfl) ?_
      refine Gx.val rfl rfl rfl (val_nilCheck rfl rfl) ?_
      refine Gx.val rfl rfl rfl (Val.cast (val_fieldAddr rfl Tryd.underlying53 rfl Tryd.ty48 rfl rfl) (v' := ptr S 4) rfl) ?_
      refine Gx.val rfl rfl rfl (val_load rfl Tryd.ty48 rfl rfl (cell_rec (k := 0) rfl rfl)) ?_
      refine Gx.val rfl rfl rfl (val_move rfl rfl) ?_
      refine Gx.val rfl rfl rfl (val_ixa rfl Tryd.underlying48 Tryd.ty22 rfl rfl (j := bb) (rfl) (reach_own (k := 2) rfl hv0)) ?_
      refine Gx.val rfl rfl rfl (val_load rfl Tryd.ty22 rfl rfl (cell_own (i := 0) (k := 2) rfl hv0 rfl)) ?_
      refine Gx.val rfl rfl rfl (val_move rfl rfl) ?_
      refine Gx.val rfl rfl rfl (val_shr (b := i) rfl rfl rfl rfl (by show i ≤ 32; omega) (shr32 _ _)) ?_
      refine Gx.val rfl rfl rfl (val_and rfl rfl rfl (and32 (sh_lt i (by omega)) (by decide : 1 < 4294967296))) ?_
      refine Gx.val rfl rfl rfl (Val.cast (val_eql rfl rfl rfl) (v' := .bool (v0.testBit i)) (congrArg Value.bool (bool_of (bitI v0 i)))) ?_
      refine Gx.val rfl rfl rfl (val_move rfl rfl) ?_
      refine Gx.casesB (t := 27) rfl (fun h6 => ?_) (fun h6 => ?_)
      · refine Gx.skipg rfl rfl rfl rfl rfl rfl ?_
        refine Gx.skipg rfl rfl rfl rfl rfl rfl ?_
        refine Gx.skipg rfl rfl rfl rfl rfl rfl ?_
        refine Gx.skipg rfl rfl rfl rfl rfl rfl ?_
        refine Gx.skipg rfl rfl rfl rfl rfl rfl ?_
        refine Gx.skipu rfl rfl rfl rfl rfl ?_
        refine Gx.skipu rfl rfl rfl rfl rfl ?_
        refine Gx.skipu rfl rfl rfl rfl rfl ?_
        refine Gx.skipu rfl rfl rfl rfl rfl ?_
        refine Gx.skipu rfl rfl rfl rfl rfl ?_
        refine Gx.skipg rfl rfl rfl rfl rfl rfl ?_
        refine Gx.val rfl rfl rfl (val_pickT rfl rfl rfl) ?_
        refine Gx.done ?_
        refine Gx.thenN ?_
        refine Gx.t rfl ?_
        refine Gx.seq ?_
        refine Gx.region ?_
        refine Gx.val rfl rfl rfl (val_assign rfl rfl) ?_
        refine Gx.done ?_
        refine Gx.thenN ?_
        refine Gx.ret ?_
        refine Gx.thenR ?_
        have fb7 : (v0.testBit i) = true := by simpa using h6
        refine Gx.front 5 rfl ?_
        refine Gx.front 5 rfl ?_
        refine Gx.front 5 rfl ?_
        refine Gx.front 5 rfl ?_
        refine Gx.front 5 rfl ?_
        refine Gx.front 5 rfl ?_
        refine Gx.sat (l' := [worldH S c s, R]) (fun w H => worldH.shut (S := S) (c := c) (s := s) (bv := bv) (vv := vv) (mv := mv) (lb := lb) (gb := gb) (R := sep [R]) H) ?_
        refine Gx.norm (l' := [worldH S c s, R]) rfl ?_
        refine Gx.ret1 Tryd.results17 rfl ?_
        have hE : voteStep c s i ((bb : Nat) : Int) = (6, s) := by
          unfold voteStep; rw [if_neg (by rw [isN_no]; omega)]; dsimp only [Int.toNat_natCast]; rw [if_pos (by rw [eV]; simp [fb7])]
        exact ⟨by rw [hE], by rw [hE]; exact sep1 _ _⟩
      · refine Gx.valg rfl rfl rfl rfl rfl (val_move rfl rfl) ?_
        refine Gx.valg rfl rfl rfl rfl rfl (val_move rfl rfl) ?_
        refine Gx.valg rfl rfl rfl rfl rfl (val_call (vs := [ptr S 0, .int .i64 ((i : Nat) : Int)]) rfl Tryd.fn31 rfl (fun w H => lies_any (i := i) ((H.at_ (k := 0) rfl).rec_.1) ((H.at_ (k := 0) rfl).cell 2 rfl) hL (by omega))) ?_
        refine Gx.valg rfl rfl rfl rfl rfl (val_not rfl rfl) ?_
        refine Gx.valg rfl rfl rfl rfl rfl (val_move rfl rfl) ?_
        refine Gx.casesB (t := 32) rfl (fun h8 => ?_) (fun h8 => ?_)
        · refine Gx.valg rfl rfl rfl rfl rfl (val_move rfl rfl) ?_
          refine Gx.valg rfl rfl rfl rfl rfl (val_move rfl rfl) ?_
          refine Gx.valg rfl rfl rfl rfl rfl (val_move rfl rfl) ?_
          refine Gx.effg rfl rfl rfl rfl rfl (eff_call (vs := [ptr S 0, .int .i64 ((i : Nat) : Int), .int .i64 ((bb : Nat) : Int)]) rfl Tryd.fn32 rfl (fun w H => agrees_any (s := s) (i := i) (b := bb) ok bd (by omega) (by omega) (by omega) (H.at4 (k := 0) (k' := 0) (k2 := 1) (k3 := 1) rfl rfl rfl rfl))) ?_
          rintro _ l9 ⟨rfl, hl9⟩
          refine Gx.sepEq (l' := [Hp.rec_ S [.int .i64 ((c.n : Nat) : Int), .int .i64 ((c.need : Nat) : Int), .int .u32 ((c.L : Nat) : Int), bv, vv, mv, .map (some lb), .map (some gb)], Hp.own FK 2 bv s.bl, Hp.own FR 2 mv s.ms, Hp.map Tryd.prog 92 tripL vI lb s.lt, Hp.own FV 1 vv s.vt, Hp.map Tryd.prog 93 pairL vI gb s.gv, R]) hl9 ?_
          refine Gx.valg rfl rfl rfl rfl rfl (val_not rfl rfl) ?_
          refine Gx.valg rfl rfl rfl rfl rfl (val_pickT rfl rfl rfl) ?_
          refine Gx.val rfl rfl rfl (val_pickF rfl rfl rfl) ?_
          refine Gx.done ?_
          refine Gx.thenN ?_
          refine Gx.bool rfl (fun h10 => ?_) (fun h10 => ?_)
          · refine Gx.seq ?_
            refine Gx.region ?_
            refine Gx.val rfl rfl rfl (val_assign rfl rfl) ?_
            refine Gx.done ?_
            refine Gx.thenN ?_
            refine Gx.ret ?_
            refine Gx.thenR ?_
            have fb11 : (v0.testBit i) = false := by simpa using h6
            have fb12 : (liesB c.L i) = false := by simpa using h8
            have fb13 : (agreesM c s i bb) = false := by simpa using h10
            refine Gx.front 5 rfl ?_
            refine Gx.front 4 rfl ?_
            refine Gx.front 4 rfl ?_
            refine Gx.front 5 rfl ?_
            refine Gx.front 5 rfl ?_
            refine Gx.front 5 rfl ?_
            refine Gx.sat (l' := [worldH S c s, R]) (fun w H => worldH.shut (S := S) (c := c) (s := s) (bv := bv) (vv := vv) (mv := mv) (lb := lb) (gb := gb) (R := sep [R]) H) ?_
            refine Gx.norm (l' := [worldH S c s, R]) rfl ?_
            refine Gx.ret1 Tryd.results17 rfl ?_
            have hE : voteStep c s i ((bb : Nat) : Int) = (6, s) := by
              unfold voteStep; rw [if_neg (by rw [isN_no]; omega)]; dsimp only [Int.toNat_natCast]; rw [if_pos (by rw [eV]; simp [fb11, fb12, fb13])]
            exact ⟨by rw [hE], by rw [hE]; exact sep1 _ _⟩
          · refine Gx.skip ?_
            refine Gx.thenN ?_
            refine Gx.seq ?_
            refine Gx.regionO (fun j => false) 11 [0, 1, 2, 3, 4, 5, 6, 7, 8, 9, 10] (fun _ => [Hp.rec_ S [.int .i64 ((c.n : Nat) : Int), .int .i64 ((c.need : Nat) : Int), .int .u32 ((c.L : Nat) : Int), bv, vv, mv, .map (some lb), .map (some gb)], Hp.own FK 2 bv s.bl, Hp.own FR 2 mv s.ms, Hp.map Tryd.prog 92 tripL vI lb s.lt, Hp.own FV 1 vv s.vt, Hp.map Tryd.prog 93 pairL vI gb s.gv, R]) Tryd.mixed (by kernel_rfl) rfl ?_
            refine Gw.val rfl rfl rfl rfl rfl (fun us => val_move rfl rfl) ?_
            refine Gw.val rfl rfl rfl rfl rfl (fun us => val_nilCheck rfl rfl) ?_
            refine Gw.val rfl rfl rfl rfl rfl (fun us => Val.cast (val_fieldAddr rfl Tryd.underlying53 rfl Tryd.ty48 rfl rfl) (v' := ptr S 4) rfl) ?_
            refine Gw.val0 rfl rfl rfl (by kernel_rfl) rfl rfl (val_load rfl Tryd.ty48 rfl rfl (cell_rec (k := 0) rfl rfl)) ?_
            refine Gw.val rfl rfl rfl rfl rfl (fun us => val_move rfl rfl) ?_
            refine Gw.val0 rfl rfl rfl (by kernel_rfl) rfl rfl (val_ixa rfl Tryd.underlying48 Tryd.ty22 rfl rfl (j := bb) (rfl) (reach_own (k := 4) rfl hv0)) ?_
            refine Gw.val0 rfl rfl rfl (by kernel_rfl) rfl rfl (val_load rfl Tryd.ty22 rfl rfl (cell_own (i := 0) (k := 4) rfl hv0 rfl)) ?_
            refine Gw.val rfl rfl rfl rfl rfl (fun us => val_move rfl rfl) ?_
            refine Gw.val rfl rfl rfl rfl rfl (fun us => val_shl (b := i) rfl rfl rfl rfl (by show i ≤ 32; omega) (shl1 (by omega))) ?_
            refine Gw.val rfl rfl rfl rfl rfl (fun us => val_or rfl rfl rfl (or32 (by omega) (Nat.lt_trans (pow128 (by omega)) (by decide)))) ?_
            refine Gw.val0 rfl rfl rfl (by kernel_rfl) rfl rfl (val_ixa rfl Tryd.underlying48 Tryd.ty22 rfl rfl (j := bb) (rfl) (reach_own (k := 4) rfl hv0)) ?_
            refine Gw.done ?_
            refine Gx.norm (l' := [Hp.rec_ S [.int .i64 ((c.n : Nat) : Int), .int .i64 ((c.need : Nat) : Int), .int .u32 ((c.L : Nat) : Int), bv, vv, mv, .map (some lb), .map (some gb)], Hp.own FK 2 bv s.bl, Hp.own FR 2 mv s.ms, Hp.map Tryd.prog 92 tripL vI lb s.lt, Hp.own FV 1 vv s.vt, Hp.map Tryd.prog 93 pairL vI gb s.gv, R]) rfl ?_
            refine Gx.eff0 rfl rfl (eff_storeElA (v0 ||| 2 ^ i) rfl Tryd.ty22 rfl rfl rfl FV_one (k := 4) rfl FV_len hv0 (l' := [Hp.rec_ S [.int .i64 ((c.n : Nat) : Int), .int .i64 ((c.need : Nat) : Int), .int .u32 ((c.L : Nat) : Int), bv, vv, mv, .map (some lb), .map (some gb)], Hp.own FK 2 bv s.bl, Hp.own FR 2 mv s.ms, Hp.map Tryd.prog 92 tripL vI lb s.lt, Hp.own FV 1 vv ((s.vt).set bb (v0 ||| 2 ^ i)), Hp.map Tryd.prog 93 pairL vI gb s.gv, R]) rfl) ?_
            rintro _ _ rfl
            refine Gx.done ?_
            refine Gx.thenN ?_
            refine Gx.seq ?_
            refine Gx.seq ?_
            refine Gx.region ?_
            refine Gx.val rfl rfl rfl (val_move rfl rfl) ?_
            refine Gx.val rfl rfl rfl (val_move rfl rfl) ?_
            refine Gx.val rfl rfl rfl (val_call (vs := [ptr S 0, .int .i64 ((i : Nat) : Int)]) rfl Tryd.fn31 rfl (fun w H => lies_any (i := i) ((H.at_ (k := 0) rfl).rec_.1) ((H.at_ (k := 0) rfl).cell 2 rfl) hL (by omega))) ?_
            refine Gx.val rfl rfl rfl (val_not rfl rfl) ?_
            refine Gx.done ?_
            refine Gx.thenN ?_
            refine Gx.boolT rfl (h8) ?_
            refine Gx.seq ?_
            refine Gx.region ?_
            refine Gx.val rfl rfl rfl (val_move rfl rfl) ?_
            refine Gx.val rfl rfl rfl (val_nilCheck rfl rfl) ?_
            refine Gx.val rfl rfl rfl (Val.cast (val_fieldAddr rfl Tryd.underlying53 rfl Tryd.ty49 rfl rfl) (v' := ptr S 5) rfl) ?_
            refine Gx.val rfl rfl rfl (val_load rfl Tryd.ty49 rfl rfl (cell_rec (k := 0) rfl rfl)) ?_
            refine Gx.val rfl rfl rfl (val_move rfl rfl) ?_
            refine Gx.val rfl rfl rfl (val_ixa rfl Tryd.underlying49 Tryd.ty90 rfl rfl (j := i) (rfl) (reach_own (k := 2) rfl hm)) ?_
            refine Gx.val rfl rfl rfl (val_assign rfl rfl) ?_
            refine Gx.done ?_
            refine Gx.thenN ?_
            refine Gx.seq ?_
            refine Gx.region ?_
            refine Gx.val rfl rfl rfl (val_move rfl rfl) ?_
            refine Gx.val rfl rfl rfl (val_move rfl rfl) ?_
            refine Gx.val rfl rfl rfl (val_nilCheck rfl rfl) ?_
            refine Gx.val rfl rfl rfl (Val.cast (val_fieldAddr rfl Tryd.underlying53 rfl Tryd.ty27 rfl rfl) (v' := ptr S 3) rfl) ?_
            refine Gx.val rfl rfl rfl (val_load rfl Tryd.ty27 rfl rfl (cell_rec (k := 0) rfl rfl)) ?_
            refine Gx.val rfl rfl rfl (val_move rfl rfl) ?_
            refine Gx.val rfl rfl rfl (val_ixa rfl Tryd.underlying27 Tryd.ty47 rfl rfl (j := bb) (rfl) (reach_own (k := 1) rfl hx)) ?_
            refine Gx.val rfl rfl rfl (Val.cast (val_fieldAddr rfl Tryd.underlying47 rfl Tryd.ty3 rfl rfl) (v' := ptr (sB bv) (sO bv + bb * 2 + 1)) rfl) ?_
            refine Gx.val rfl rfl rfl (val_load rfl Tryd.ty3 rfl rfl (cell_own (i := 1) (k := 1) rfl hx rfl)) ?_
            refine Gx.val rfl rfl rfl (val_nilCheck rfl rfl) ?_
            refine Gx.val rfl rfl rfl (Val.cast (val_fieldAddr rfl Tryd.underlying90 rfl Tryd.ty3 rfl rfl) (v' := ptr (sB mv) (sO mv + i * 2)) rfl) ?_
            refine Gx.eff0 rfl rfl (eff_storeEl (i := 0) (e' := (⟨x.rnd, m.kn⟩ : Mm)) rfl Tryd.ty3 rfl rfl rfl rfl (k := 2) rfl FR_len hm (by decide) (rfl) (l' := [Hp.rec_ S [.int .i64 ((c.n : Nat) : Int), .int .i64 ((c.need : Nat) : Int), .int .u32 ((c.L : Nat) : Int), bv, vv, mv, .map (some lb), .map (some gb)], Hp.own FK 2 bv s.bl, Hp.own FR 2 mv ((s.ms).set i (⟨x.rnd, m.kn⟩ : Mm)), Hp.map Tryd.prog 92 tripL vI lb s.lt, Hp.own FV 1 vv ((s.vt).set bb (v0 ||| 2 ^ i)), Hp.map Tryd.prog 93 pairL vI gb s.gv, R]) rfl) ?_
            rintro _ _ rfl
            refine Gx.done ?_
            refine Gx.thenN ?_
            refine Gx.regionO (fun j => false) 23 [0, 1, 2, 3, 4, 5, 6, 7, 8, 9, 10, 11, 12, 13, 14, 15, 16, 17, 18, 19, 20, 21, 22] (fun _ => [Hp.rec_ S [.int .i64 ((c.n : Nat) : Int), .int .i64 ((c.need : Nat) : Int), .int .u32 ((c.L : Nat) : Int), bv, vv, mv, .map (some lb), .map (some gb)], Hp.own FK 2 bv s.bl, Hp.own FR 2 mv ((s.ms).set i (⟨x.rnd, m.kn⟩ : Mm)), Hp.map Tryd.prog 92 tripL vI lb s.lt, Hp.own FV 1 vv ((s.vt).set bb (v0 ||| 2 ^ i)), Hp.map Tryd.prog 93 pairL vI gb s.gv, R]) Tryd.mixed (by kernel_rfl) rfl ?_
            refine Gw.val rfl rfl rfl rfl rfl (fun us => val_move rfl rfl) ?_
            refine Gw.val rfl rfl rfl rfl rfl (fun us => val_move rfl rfl) ?_
            refine Gw.val rfl rfl rfl rfl rfl (fun us => val_nilCheck rfl rfl) ?_
            refine Gw.val rfl rfl rfl rfl rfl (fun us => Val.cast (val_fieldAddr rfl Tryd.underlying90 rfl Tryd.ty3 rfl rfl) (v' := ptr (sB mv) (sO mv + i * 2 + 1)) rfl) ?_
            refine Gw.val0 rfl rfl rfl (by kernel_rfl) rfl rfl (val_load rfl Tryd.ty3 rfl rfl (cell_own (i := 1) (k := 2) rfl (List.getElem?_set_self (List.getElem?_eq_some_iff.1 hm).1) rfl)) ?_
            refine Gw.val rfl rfl rfl rfl rfl (fun us => val_move rfl rfl) ?_
            refine Gw.val rfl rfl rfl rfl rfl (fun us => val_nilCheck rfl rfl) ?_
            refine Gw.val rfl rfl rfl rfl rfl (fun us => Val.cast (val_fieldAddr rfl Tryd.underlying53 rfl Tryd.ty27 rfl rfl) (v' := ptr S 3) rfl) ?_
            refine Gw.val0 rfl rfl rfl (by kernel_rfl) rfl rfl (val_load rfl Tryd.ty27 rfl rfl (cell_rec (k := 0) rfl rfl)) ?_
            refine Gw.val rfl rfl rfl rfl rfl (fun us => val_move rfl rfl) ?_
            refine Gw.val rfl rfl rfl rfl rfl (fun us => val_nilCheck rfl rfl) ?_
            refine Gw.val rfl rfl rfl rfl rfl (fun us => Val.cast (val_fieldAddr rfl Tryd.underlying53 rfl Tryd.ty27 rfl rfl) (v' := ptr S 3) rfl) ?_
            refine Gw.val0 rfl rfl rfl (by kernel_rfl) rfl rfl (val_load rfl Tryd.ty27 rfl rfl (cell_rec (k := 0) rfl rfl)) ?_
            refine Gw.val rfl rfl rfl rfl rfl (fun us => val_move rfl rfl) ?_
            refine Gw.val0 rfl rfl rfl (by kernel_rfl) rfl rfl (val_ixa rfl Tryd.underlying27 Tryd.ty47 rfl rfl (j := bb) (rfl) (reach_own (k := 1) rfl hx)) ?_
            refine Gw.val rfl rfl rfl rfl rfl (fun us => Val.cast (val_fieldAddr rfl Tryd.underlying47 rfl Tryd.ty3 rfl rfl) (v' := ptr (sB bv) (sO bv + bb * 2)) rfl) ?_
            refine Gw.val0 rfl rfl rfl (by kernel_rfl) rfl rfl (val_load rfl Tryd.ty3 rfl rfl (cell_own (i := 0) (k := 1) rfl hx rfl)) ?_
            refine Gw.val0 rfl rfl rfl (by kernel_rfl) rfl rfl (val_ixa rfl Tryd.underlying27 Tryd.ty47 rfl rfl (j := p) (hpe) (reach_own (k := 1) rfl hy)) ?_
            refine Gw.val rfl rfl rfl rfl rfl (fun us => Val.cast (val_fieldAddr rfl Tryd.underlying47 rfl Tryd.ty3 rfl rfl) (v' := ptr (sB bv) (sO bv + p * 2 + 1)) rfl) ?_
            refine Gw.val0 rfl rfl rfl (by kernel_rfl) rfl rfl (val_load rfl Tryd.ty3 rfl rfl (cell_own (i := 1) (k := 1) rfl hy rfl)) ?_
            refine Gw.val rfl rfl rfl rfl rfl (fun us => val_max rfl rfl rfl (r := ((max m.kn y.rnd : Nat) : Int)) (maxI _ _)) ?_
            refine Gw.val rfl rfl rfl rfl rfl (fun us => val_nilCheck rfl rfl) ?_
            refine Gw.val rfl rfl rfl rfl rfl (fun us => Val.cast (val_fieldAddr rfl Tryd.underlying90 rfl Tryd.ty3 rfl rfl) (v' := ptr (sB mv) (sO mv + i * 2 + 1)) rfl) ?_
            refine Gw.done ?_
            refine Gx.norm (l' := [Hp.rec_ S [.int .i64 ((c.n : Nat) : Int), .int .i64 ((c.need : Nat) : Int), .int .u32 ((c.L : Nat) : Int), bv, vv, mv, .map (some lb), .map (some gb)], Hp.own FK 2 bv s.bl, Hp.own FR 2 mv ((s.ms).set i (⟨x.rnd, m.kn⟩ : Mm)), Hp.map Tryd.prog 92 tripL vI lb s.lt, Hp.own FV 1 vv ((s.vt).set bb (v0 ||| 2 ^ i)), Hp.map Tryd.prog 93 pairL vI gb s.gv, R]) rfl ?_
            refine Gx.eff0 rfl rfl (eff_storeEl (i := 1) (e' := (⟨x.rnd, max m.kn y.rnd⟩ : Mm)) rfl Tryd.ty3 rfl rfl rfl rfl (k := 2) rfl FR_len (List.getElem?_set_self (List.getElem?_eq_some_iff.1 hm).1) (by decide) (rfl) (l' := [Hp.rec_ S [.int .i64 ((c.n : Nat) : Int), .int .i64 ((c.need : Nat) : Int), .int .u32 ((c.L : Nat) : Int), bv, vv, mv, .map (some lb), .map (some gb)], Hp.own FK 2 bv s.bl, Hp.own FR 2 mv (((s.ms).set i (⟨x.rnd, m.kn⟩ : Mm)).set i (⟨x.rnd, max m.kn y.rnd⟩ : Mm)), Hp.map Tryd.prog 92 tripL vI lb s.lt, Hp.own FV 1 vv ((s.vt).set bb (v0 ||| 2 ^ i)), Hp.map Tryd.prog 93 pairL vI gb s.gv, R]) rfl) ?_
            rintro _ _ rfl
            refine Gx.done ?_
            refine Gx.thenN ?_
            refine Gx.seq ?_
            refine Gx.region ?_
            refine Gx.val rfl rfl rfl (val_assign rfl rfl) ?_
            refine Gx.done ?_
            refine Gx.thenN ?_
            refine Gx.ret ?_
            have fb14 : (v0.testBit i) = false := by simpa using h6
            have fb15 : (liesB c.L i) = false := by simpa using h8
            have fb16 : (agreesM c s i bb) = true := by simpa using h10
            refine Gx.norm (l' := [Hp.rec_ S [.int .i64 ((c.n : Nat) : Int), .int .i64 ((c.need : Nat) : Int), .int .u32 ((c.L : Nat) : Int), bv, vv, mv, .map (some lb), .map (some gb)], Hp.own FK 2 bv s.bl, Hp.own FR 2 mv (s.ms.set i ⟨x.rnd, max m.kn y.rnd⟩), Hp.map Tryd.prog 92 tripL vI lb s.lt, Hp.own FV 1 vv ((s.vt).set bb (v0 ||| 2 ^ i)), Hp.map Tryd.prog 93 pairL vI gb s.gv, R]) (by rw [List.set_set] <;> rfl) ?_
            refine Gx.front 5 rfl ?_
            refine Gx.front 4 rfl ?_
            refine Gx.front 4 rfl ?_
            refine Gx.front 5 rfl ?_
            refine Gx.front 5 rfl ?_
            refine Gx.front 5 rfl ?_
            refine Gx.sat (l' := [worldH S c (⟨s.bl, s.vt.set bb (v0 ||| 2 ^ i), (s.ms.set i ⟨x.rnd, max m.kn y.rnd⟩), s.lt, s.gv⟩ : MS), R]) (fun w H => worldH.shut (S := S) (c := c) (s := (⟨s.bl, s.vt.set bb (v0 ||| 2 ^ i), (s.ms.set i ⟨x.rnd, max m.kn y.rnd⟩), s.lt, s.gv⟩ : MS)) (bv := bv) (vv := vv) (mv := mv) (lb := lb) (gb := gb) (R := sep [R]) H) ?_
            refine Gx.norm (l' := [worldH S c (⟨s.bl, s.vt.set bb (v0 ||| 2 ^ i), (s.ms.set i ⟨x.rnd, max m.kn y.rnd⟩), s.lt, s.gv⟩ : MS), R]) rfl ?_
            refine Gx.ret1 Tryd.results17 rfl ?_
            have hE : voteStep c s i ((bb : Nat) : Int) = (0, (⟨s.bl, s.vt.set bb (v0 ||| 2 ^ i), (s.ms.set i ⟨x.rnd, max m.kn y.rnd⟩), s.lt, s.gv⟩ : MS)) := by
              unfold voteStep; rw [if_neg (by rw [isN_no]; omega)]; dsimp only [Int.toNat_natCast]; rw [if_neg (by rw [eV]; simp [fb14, fb15, fb16])]; unfold votedM; rw [eV, eR, eP, eY, eM, if_neg (by intro q; simp_all)]
            exact ⟨by rw [hE], by rw [hE]; exact sep1 _ _⟩
        · refine Gx.skipg rfl rfl rfl rfl rfl rfl ?_
          refine Gx.skipg rfl rfl rfl rfl rfl rfl ?_
          refine Gx.skipg rfl rfl rfl rfl rfl rfl ?_
          refine Gx.skipg rfl rfl rfl rfl rfl rfl ?_
          refine Gx.skipg rfl rfl rfl rfl rfl rfl ?_
          refine Gx.valg rfl rfl rfl rfl rfl (val_pickF rfl rfl rfl) ?_
          refine Gx.val rfl rfl rfl (val_pickF rfl rfl rfl) ?_
          refine Gx.done ?_
          refine Gx.thenN ?_
          refine Gx.f rfl ?_
          refine Gx.skip ?_
          refine Gx.thenN ?_
          refine Gx.seq ?_
          refine Gx.regionO (fun j => false) 11 [0, 1, 2, 3, 4, 5, 6, 7, 8, 9, 10] (fun _ => [Hp.rec_ S [.int .i64 ((c.n : Nat) : Int), .int .i64 ((c.need : Nat) : Int), .int .u32 ((c.L : Nat) : Int), bv, vv, mv, .map (some lb), .map (some gb)], Hp.own FK 2 bv s.bl, Hp.own FV 1 vv s.vt, Hp.own FR 2 mv s.ms, Hp.map Tryd.prog 92 tripL vI lb s.lt, Hp.map Tryd.prog 93 pairL vI gb s.gv, R]) Tryd.mixed (by kernel_rfl) rfl ?_
          refine Gw.val rfl rfl rfl rfl rfl (fun us => val_move rfl rfl) ?_
          refine Gw.val rfl rfl rfl rfl rfl (fun us => val_nilCheck rfl rfl) ?_
          refine Gw.val rfl rfl rfl rfl rfl (fun us => Val.cast (val_fieldAddr rfl Tryd.underlying53 rfl Tryd.ty48 rfl rfl) (v' := ptr S 4) rfl) ?_
          refine Gw.val0 rfl rfl rfl (by kernel_rfl) rfl rfl (val_load rfl Tryd.ty48 rfl rfl (cell_rec (k := 0) rfl rfl)) ?_
          refine Gw.val rfl rfl rfl rfl rfl (fun us => val_move rfl rfl) ?_
          refine Gw.val0 rfl rfl rfl (by kernel_rfl) rfl rfl (val_ixa rfl Tryd.underlying48 Tryd.ty22 rfl rfl (j := bb) (rfl) (reach_own (k := 2) rfl hv0)) ?_
          refine Gw.val0 rfl rfl rfl (by kernel_rfl) rfl rfl (val_load rfl Tryd.ty22 rfl rfl (cell_own (i := 0) (k := 2) rfl hv0 rfl)) ?_
          refine Gw.val rfl rfl rfl rfl rfl (fun us => val_move rfl rfl) ?_
          refine Gw.val rfl rfl rfl rfl rfl (fun us => val_shl (b := i) rfl rfl rfl rfl (by show i ≤ 32; omega) (shl1 (by omega))) ?_
          refine Gw.val rfl rfl rfl rfl rfl (fun us => val_or rfl rfl rfl (or32 (by omega) (Nat.lt_trans (pow128 (by omega)) (by decide)))) ?_
          refine Gw.val0 rfl rfl rfl (by kernel_rfl) rfl rfl (val_ixa rfl Tryd.underlying48 Tryd.ty22 rfl rfl (j := bb) (rfl) (reach_own (k := 2) rfl hv0)) ?_
          refine Gw.done ?_
          refine Gx.norm (l' := [Hp.rec_ S [.int .i64 ((c.n : Nat) : Int), .int .i64 ((c.need : Nat) : Int), .int .u32 ((c.L : Nat) : Int), bv, vv, mv, .map (some lb), .map (some gb)], Hp.own FK 2 bv s.bl, Hp.own FV 1 vv s.vt, Hp.own FR 2 mv s.ms, Hp.map Tryd.prog 92 tripL vI lb s.lt, Hp.map Tryd.prog 93 pairL vI gb s.gv, R]) rfl ?_
          refine Gx.eff0 rfl rfl (eff_storeElA (v0 ||| 2 ^ i) rfl Tryd.ty22 rfl rfl rfl FV_one (k := 2) rfl FV_len hv0 (l' := [Hp.rec_ S [.int .i64 ((c.n : Nat) : Int), .int .i64 ((c.need : Nat) : Int), .int .u32 ((c.L : Nat) : Int), bv, vv, mv, .map (some lb), .map (some gb)], Hp.own FK 2 bv s.bl, Hp.own FV 1 vv ((s.vt).set bb (v0 ||| 2 ^ i)), Hp.own FR 2 mv s.ms, Hp.map Tryd.prog 92 tripL vI lb s.lt, Hp.map Tryd.prog 93 pairL vI gb s.gv, R]) rfl) ?_
          rintro _ _ rfl
          refine Gx.done ?_
          refine Gx.thenN ?_
          refine Gx.seq ?_
          refine Gx.seq ?_
          refine Gx.region ?_
          refine Gx.val rfl rfl rfl (val_move rfl rfl) ?_
          refine Gx.val rfl rfl rfl (val_move rfl rfl) ?_
          refine Gx.val rfl rfl rfl (val_call (vs := [ptr S 0, .int .i64 ((i : Nat) : Int)]) rfl Tryd.fn31 rfl (fun w H => lies_any (i := i) ((H.at_ (k := 0) rfl).rec_.1) ((H.at_ (k := 0) rfl).cell 2 rfl) hL (by omega))) ?_
          refine Gx.val rfl rfl rfl (val_not rfl rfl) ?_
          refine Gx.done ?_
          refine Gx.thenN ?_
          refine Gx.boolF rfl (h8) ?_
          refine Gx.skip ?_
          refine Gx.thenN ?_
          refine Gx.seq ?_
          refine Gx.region ?_
          refine Gx.val rfl rfl rfl (val_assign rfl rfl) ?_
          refine Gx.done ?_
          refine Gx.thenN ?_
          refine Gx.ret ?_
          have fb17 : (v0.testBit i) = false := by simpa using h6
          have fb18 : (liesB c.L i) = true := by simpa using h8
          refine Gx.front 5 rfl ?_
          refine Gx.front 5 rfl ?_
          refine Gx.front 5 rfl ?_
          refine Gx.front 5 rfl ?_
          refine Gx.front 5 rfl ?_
          refine Gx.front 5 rfl ?_
          refine Gx.sat (l' := [worldH S c (⟨s.bl, s.vt.set bb (v0 ||| 2 ^ i), s.ms, s.lt, s.gv⟩ : MS), R]) (fun w H => worldH.shut (S := S) (c := c) (s := (⟨s.bl, s.vt.set bb (v0 ||| 2 ^ i), s.ms, s.lt, s.gv⟩ : MS)) (bv := bv) (vv := vv) (mv := mv) (lb := lb) (gb := gb) (R := sep [R]) H) ?_
          refine Gx.norm (l' := [worldH S c (⟨s.bl, s.vt.set bb (v0 ||| 2 ^ i), s.ms, s.lt, s.gv⟩ : MS), R]) rfl ?_
          refine Gx.ret1 Tryd.results17 rfl ?_
          have hE : voteStep c s i ((bb : Nat) : Int) = (0, (⟨s.bl, s.vt.set bb (v0 ||| 2 ^ i), s.ms, s.lt, s.gv⟩ : MS)) := by
            unfold voteStep; rw [if_neg (by rw [isN_no]; omega)]; dsimp only [Int.toNat_natCast]; rw [if_neg (by rw [eV]; simp [fb17, fb18])]; unfold votedM; rw [eV, eR, eP, eY, eM, if_pos (by assumption)]
          exact ⟨by rw [hE], by rw [hE]; exact sep1 _ _⟩

end Go.Proofs.YtfeeociajllbhaaDoor.Mt
