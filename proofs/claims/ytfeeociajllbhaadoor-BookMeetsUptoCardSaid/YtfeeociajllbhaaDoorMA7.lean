/- A step of the assembly. The walk. No condition. -/
import Derived.Test.YtfeeociajllbhaaDoorMA6
namespace Go.Proofs.YtfeeociajllbhaaDoor.Mt
open Go.RowKit
set_option linter.unusedVariables false
set_option linter.unusedSimpArgs false
set_option maxRecDepth 100000

def restH (q : Value × Value × Value × Nat × Nat) (s : MS) : Hp := Hp.own FK 2 q.1 s.bl * (Hp.own FV 1 q.2.1 s.vt * (Hp.own FR 2 q.2.2.1 s.ms * (mapL q.2.2.2.1 s.lt * mapG q.2.2.2.2 s.gv)))
theorem worldH.two {W w : World} {S : Nat} {c : MC} {s : MS} {R : Hp} (H : Sat W w (worldH S c s * R)) : ∃ q : Value × Value × Value × Nat × Nat, Sat W w (recS S c q.1 q.2.1 q.2.2.1 q.2.2.2.1 q.2.2.2.2 * (restH q s * R)) := by
  obtain ⟨q, H⟩ := H.ex
  exact ⟨q, H.cast (by unfold restH; simp only [Hp.mul_assoc])⟩
theorem worldH.one {W w : World} {S : Nat} {c : MC} {s : MS} {bv vv mv : Value} {lb gb : Nat} {R : Hp} (H : Sat W w (recS S c bv vv mv lb gb * (restH (bv, vv, mv, lb, gb) s * R))) : Sat W w (worldH S c s * R) :=
  worldH.shut (bv := bv) (vv := vv) (mv := mv) (lb := lb) (gb := gb) (H.cast (by unfold restH; simp only [Hp.mul_assoc]))
theorem step_any {W w : World} {S T : Nat} {c : MC} {s : MS} {x : Sy} {R : Hp} (ok : OkM c) (bd : BdM T c s) (hT : T ≤ 1000) (H : Sat W w (worldH S c s * R)) :
    Calls Tryd.prog 8 #[ptr S 0, .agg #[.int .i64 x.kind, .int .i64 x.who, .int .i64 x.blk, .int .i64 x.rnd, .int .i64 x.hi]] w (Ret W fun v l => v = .int .i64 (stepM c s x).1 ∧ sep l = worldH S c (stepM c s x).2 * R) := by
  obtain ⟨kind, who, blk, rnd, hi⟩ := x
  dsimp only
  have hcn := ok.n7
  refine Gx.enter (l := [worldH S c s, R]) Tryd.func8 rfl Tryd.ntmps8 rfl ((H.cast (sep1 _ _).symm)) ?_
  refine Gx.know (m' := [(0, ptr S 0), (1, .agg #[.int .i64 kind, .int .i64 who, .int .i64 blk, .int .i64 rnd, .int .i64 hi])]) (.cons rfl (.cons rfl .nil)) ?_
  refine Gx.seq ?_
  refine Gx.region ?_
  refine Gx.eff rfl rfl rfl (eff_box rfl rfl (vs := [.int .i64 kind, .int .i64 who, .int .i64 blk, .int .i64 rnd, .int .i64 hi]) rfl) ?_
  rintro _ _ ⟨b1, rfl, rfl⟩
  refine Gx.val rfl rfl rfl (val_assign rfl rfl) ?_
  refine Gx.done ?_
  refine Gx.thenN ?_
  refine Gx.seq ?_
  refine Gx.block ?_
  refine Gx.seq ?_
  refine Gx.region ?_
  refine Gx.val rfl rfl rfl (Val.cast (val_fieldAddr rfl Tryd.underlying55 rfl Tryd.ty3 rfl rfl) (v' := ptr b1 0) rfl) ?_
  refine Gx.val rfl rfl rfl (val_load rfl Tryd.ty3 rfl rfl (cell_rec (k := 0) rfl rfl)) ?_
  refine Gx.val rfl rfl rfl (val_lss rfl rfl rfl) ?_
  refine Gx.val rfl rfl rfl (val_move rfl rfl) ?_
  refine Gx.cases (t := 9) rfl (fun h2 => ?_) (fun h2 => ?_)
  · refine Gx.skipg rfl rfl rfl rfl rfl rfl ?_
    refine Gx.skipg rfl rfl rfl rfl rfl rfl ?_
    refine Gx.skipg rfl rfl rfl rfl rfl rfl ?_
    refine Gx.val rfl rfl rfl (val_pickT rfl rfl rfl) ?_
    refine Gx.val rfl rfl rfl (val_assign rfl rfl) ?_
    refine Gx.done ?_
    refine Gx.thenN ?_
    refine Gx.t rfl ?_
    refine Gx.seq ?_
    refine Gx.region ?_
    refine Gx.val rfl rfl rfl (val_assign rfl rfl) ?_
    refine Gx.done ?_
    refine Gx.thenN ?_
    refine Gx.ret ?_
    refine Gx.blkR ?_
    refine Gx.thenR ?_
    refine Gx.drop 0 rfl ?_
    refine Gx.norm (l' := [worldH S c s, R]) rfl ?_
    have hE : stepM c s ⟨kind, who, blk, rnd, hi⟩ = (4, s) := by
      unfold stepM; rw [if_pos (by dsimp only; omega)]
    refine Gx.ret1 Tryd.results8 rfl ?_
    exact ⟨by rw [hE], by rw [hE]; exact sep1 _ _⟩
  · refine Gx.valg rfl rfl rfl rfl rfl (Val.cast (val_fieldAddr rfl Tryd.underlying55 rfl Tryd.ty3 rfl rfl) (v' := ptr b1 0) rfl) ?_
    refine Gx.valg rfl rfl rfl rfl rfl (val_load rfl Tryd.ty3 rfl rfl (cell_rec (k := 0) rfl rfl)) ?_
    refine Gx.valg rfl rfl rfl rfl rfl (val_gtr rfl rfl rfl) ?_
    refine Gx.val rfl rfl rfl (val_pickF rfl rfl rfl) ?_
    refine Gx.val rfl rfl rfl (val_assign rfl rfl) ?_
    refine Gx.done ?_
    refine Gx.thenN ?_
    refine Gx.dec rfl (fun h3 => ?_) (fun h3 => ?_)
    · refine Gx.seq ?_
      refine Gx.region ?_
      refine Gx.val rfl rfl rfl (val_assign rfl rfl) ?_
      refine Gx.done ?_
      refine Gx.thenN ?_
      refine Gx.ret ?_
      refine Gx.blkR ?_
      refine Gx.thenR ?_
      refine Gx.drop 0 rfl ?_
      refine Gx.norm (l' := [worldH S c s, R]) rfl ?_
      have hE : stepM c s ⟨kind, who, blk, rnd, hi⟩ = (4, s) := by
        unfold stepM; rw [if_pos (by dsimp only; omega)]
      refine Gx.ret1 Tryd.results8 rfl ?_
      exact ⟨by rw [hE], by rw [hE]; exact sep1 _ _⟩
    · refine Gx.seq ?_
      refine Gx.region ?_
      refine Gx.val rfl rfl rfl (Val.cast (val_fieldAddr rfl Tryd.underlying55 rfl Tryd.ty3 rfl rfl) (v' := ptr b1 0) rfl) ?_
      refine Gx.val rfl rfl rfl (val_load rfl Tryd.ty3 rfl rfl (cell_rec (k := 0) rfl rfl)) ?_
      refine Gx.val rfl rfl rfl (val_eql rfl rfl rfl) ?_
      refine Gx.val rfl rfl rfl (val_assign rfl rfl) ?_
      refine Gx.done ?_
      refine Gx.thenN ?_
      refine Gx.dec rfl (fun h4 => ?_) (fun h4 => ?_)
      · refine Gx.seq ?_
        refine Gx.region ?_
        refine Gx.val rfl rfl rfl (val_move rfl rfl) ?_
        refine Gx.val rfl rfl rfl (Val.cast (val_loadA rfl Tryd.ty55 rfl rfl rfl (cells_rec (k := 0) rfl)) (v' := .agg #[.int .i64 kind, .int .i64 who, .int .i64 blk, .int .i64 rnd, .int .i64 hi]) rfl) ?_
        refine Gx.eff rfl rfl rfl (eff_call (vs := [ptr S 0, .agg #[.int .i64 kind, .int .i64 who, .int .i64 blk, .int .i64 rnd, .int .i64 hi]]) rfl Tryd.fn16 rfl (fun w H => behind_any ok bd hT (H.at_ (k := 1) rfl))) ?_
        rintro _ l5 ⟨rfl, hl5⟩
        refine Gx.sepEq (l' := [worldH S c (behindM c s ⟨kind, who, blk, rnd, hi⟩).2, Hp.rec_ b1 [.int .i64 kind, .int .i64 who, .int .i64 blk, .int .i64 rnd, .int .i64 hi], R]) hl5 ?_
        refine Gx.val rfl rfl rfl (val_assign rfl rfl) ?_
        refine Gx.done ?_
        refine Gx.thenN ?_
        refine Gx.ret ?_
        refine Gx.blkR ?_
        refine Gx.thenR ?_
        refine Gx.drop 1 rfl ?_
        refine Gx.norm (l' := [worldH S c (behindM c s ⟨kind, who, blk, rnd, hi⟩).2, R]) rfl ?_
        have hE : stepM c s ⟨kind, who, blk, rnd, hi⟩ = ((behindM c s ⟨kind, who, blk, rnd, hi⟩).1, (behindM c s ⟨kind, who, blk, rnd, hi⟩).2) := by
          unfold stepM; rw [if_neg (by dsimp only; omega), if_pos (by dsimp only; omega)]
        refine Gx.ret1 Tryd.results8 rfl ?_
        exact ⟨by rw [hE], by rw [hE]; exact sep1 _ _⟩
      · refine Gx.seq ?_
        refine Gx.front 1 rfl ?_
        refine Gx.exists_ (α := Value × Value × Value × Nat × Nat) (l' := fun q => [Hp.rec_ S [.int .i64 ((c.n : Nat) : Int), .int .i64 ((c.need : Nat) : Int), .int .u32 ((c.L : Nat) : Int), q.1, q.2.1, q.2.2.1, .map (some q.2.2.2.1), .map (some q.2.2.2.2)], restH q s, Hp.rec_ b1 [.int .i64 kind, .int .i64 who, .int .i64 blk, .int .i64 rnd, .int .i64 hi], R]) (fun w H => by obtain ⟨q, H⟩ := worldH.two H; exact ⟨q, H⟩) ?_
        rintro ⟨bv, vv, mv, lb, gb⟩
        refine Gx.norm (l' := [Hp.rec_ S [.int .i64 ((c.n : Nat) : Int), .int .i64 ((c.need : Nat) : Int), .int .u32 ((c.L : Nat) : Int), bv, vv, mv, .map (some lb), .map (some gb)], restH (bv, vv, mv, lb, gb) s, Hp.rec_ b1 [.int .i64 kind, .int .i64 who, .int .i64 blk, .int .i64 rnd, .int .i64 hi], R]) rfl ?_
        refine Gx.regionQ Tryd.mixed (by kernel_rfl) ?_
        refine Gq.val rfl rfl rfl (Val.cast (val_fieldAddr rfl Tryd.underlying55 rfl Tryd.ty3 rfl rfl) (v' := ptr b1 1) rfl) ?_
        refine Gq.val rfl rfl rfl (val_load rfl Tryd.ty3 rfl rfl (cell_rec (k := 2) rfl rfl)) ?_
        refine Gq.val rfl rfl rfl (val_lss rfl rfl rfl) ?_
        refine Gq.val rfl rfl rfl (val_move rfl rfl) ?_
        refine Gq.cases (t := 25) rfl (fun h6 => ?_) (fun h6 => ?_)
        · refine Gq.skipg rfl rfl rfl rfl rfl rfl ?_
          refine Gq.skipg rfl rfl rfl rfl rfl rfl ?_
          refine Gq.skipg rfl rfl rfl rfl rfl rfl ?_
          refine Gq.skipg rfl rfl rfl rfl rfl rfl ?_
          refine Gq.skipg rfl rfl rfl rfl rfl rfl ?_
          refine Gq.skipg rfl rfl rfl rfl rfl rfl ?_
          refine Gq.skipg rfl rfl rfl rfl rfl rfl ?_
          refine Gq.val rfl rfl rfl (val_pickT rfl rfl rfl) ?_
          refine Gq.val rfl rfl rfl (val_assign rfl rfl) ?_
          refine Gq.done ?_
          refine Gx.thenN ?_
          refine Gx.t rfl ?_
          refine Gx.seq ?_
          refine Gx.front 1 rfl ?_
          refine Gx.front 1 rfl ?_
          refine Gx.sat (l' := [worldH S c s, Hp.rec_ b1 [.int .i64 kind, .int .i64 who, .int .i64 blk, .int .i64 rnd, .int .i64 hi], R]) (fun w H => worldH.one (R := sep [Hp.rec_ b1 [.int .i64 kind, .int .i64 who, .int .i64 blk, .int .i64 rnd, .int .i64 hi], R]) H) ?_
          refine Gx.region ?_
          refine Gx.val rfl rfl rfl (val_assign rfl rfl) ?_
          refine Gx.done ?_
          refine Gx.thenN ?_
          refine Gx.ret ?_
          refine Gx.blkR ?_
          refine Gx.thenR ?_
          refine Gx.drop 1 rfl ?_
          refine Gx.norm (l' := [worldH S c s, R]) rfl ?_
          have hE : stepM c s ⟨kind, who, blk, rnd, hi⟩ = (2, s) := by
            unfold stepM; rw [if_neg (by dsimp only; omega), if_neg (by dsimp only; omega), if_pos (by rw [isN_no]; dsimp only; omega)]
          refine Gx.ret1 Tryd.results8 rfl ?_
          exact ⟨by rw [hE], by rw [hE]; exact sep1 _ _⟩
        · refine Gq.valg rfl rfl rfl rfl rfl (Val.cast (val_fieldAddr rfl Tryd.underlying55 rfl Tryd.ty3 rfl rfl) (v' := ptr b1 1) rfl) ?_
          refine Gq.valg rfl rfl rfl rfl rfl (val_load rfl Tryd.ty3 rfl rfl (cell_rec (k := 2) rfl rfl)) ?_
          refine Gq.valg rfl rfl rfl rfl rfl (val_move rfl rfl) ?_
          refine Gq.valg rfl rfl rfl rfl rfl (val_nilCheck rfl rfl) ?_
          refine Gq.valg rfl rfl rfl rfl rfl (Val.cast (val_fieldAddr rfl Tryd.underlying53 rfl Tryd.ty3 rfl rfl) (v' := ptr S 0) rfl) ?_
          refine Gq.valg rfl rfl rfl rfl rfl (val_load rfl Tryd.ty3 rfl rfl (cell_rec (k := 0) rfl rfl)) ?_
          refine Gq.valg rfl rfl rfl rfl rfl (val_geq rfl rfl rfl) ?_
          refine Gq.val rfl rfl rfl (val_pickF rfl rfl rfl) ?_
          refine Gq.val rfl rfl rfl (val_assign rfl rfl) ?_
          refine Gq.done ?_
          refine Gx.thenN ?_
          refine Gx.dec rfl (fun h7 => ?_) (fun h7 => ?_)
          · refine Gx.seq ?_
            refine Gx.front 1 rfl ?_
            refine Gx.front 1 rfl ?_
            refine Gx.sat (l' := [worldH S c s, Hp.rec_ b1 [.int .i64 kind, .int .i64 who, .int .i64 blk, .int .i64 rnd, .int .i64 hi], R]) (fun w H => worldH.one (R := sep [Hp.rec_ b1 [.int .i64 kind, .int .i64 who, .int .i64 blk, .int .i64 rnd, .int .i64 hi], R]) H) ?_
            refine Gx.region ?_
            refine Gx.val rfl rfl rfl (val_assign rfl rfl) ?_
            refine Gx.done ?_
            refine Gx.thenN ?_
            refine Gx.ret ?_
            refine Gx.blkR ?_
            refine Gx.thenR ?_
            refine Gx.drop 1 rfl ?_
            refine Gx.norm (l' := [worldH S c s, R]) rfl ?_
            have hE : stepM c s ⟨kind, who, blk, rnd, hi⟩ = (2, s) := by
              unfold stepM; rw [if_neg (by dsimp only; omega), if_neg (by dsimp only; omega), if_pos (by rw [isN_no]; dsimp only; omega)]
            refine Gx.ret1 Tryd.results8 rfl ?_
            exact ⟨by rw [hE], by rw [hE]; exact sep1 _ _⟩
          · refine Gx.seq ?_
            obtain ⟨ww, rfl⟩ := Int.eq_ofNat_of_zero_le (a := who) (by omega)
            refine Gx.front 1 rfl ?_
            refine Gx.front 1 rfl ?_
            refine Gx.sat (l' := [worldH S c s, Hp.rec_ b1 [.int .i64 kind, .int .i64 ((ww : Nat) : Int), .int .i64 blk, .int .i64 rnd, .int .i64 hi], R]) (fun w H => worldH.one (R := sep [Hp.rec_ b1 [.int .i64 kind, .int .i64 ((ww : Nat) : Int), .int .i64 blk, .int .i64 rnd, .int .i64 hi], R]) H) ?_
            refine Gx.region ?_
            refine Gx.val rfl rfl rfl (Val.cast (val_fieldAddr rfl Tryd.underlying55 rfl Tryd.ty3 rfl rfl) (v' := ptr b1 0) rfl) ?_
            refine Gx.val rfl rfl rfl (val_load rfl Tryd.ty3 rfl rfl (cell_rec (k := 1) rfl rfl)) ?_
            refine Gx.val rfl rfl rfl (val_eql rfl rfl rfl) ?_
            refine Gx.val rfl rfl rfl (val_assign rfl rfl) ?_
            refine Gx.done ?_
            refine Gx.thenN ?_
            refine Gx.dec rfl (fun h8 => ?_) (fun h8 => ?_)
            · refine Gx.seq ?_
              refine Gx.region ?_
              refine Gx.val rfl rfl rfl (val_move rfl rfl) ?_
              refine Gx.val rfl rfl rfl (Val.cast (val_fieldAddr rfl Tryd.underlying55 rfl Tryd.ty3 rfl rfl) (v' := ptr b1 1) rfl) ?_
              refine Gx.val rfl rfl rfl (val_load rfl Tryd.ty3 rfl rfl (cell_rec (k := 1) rfl rfl)) ?_
              refine Gx.val rfl rfl rfl (Val.cast (val_fieldAddr rfl Tryd.underlying55 rfl Tryd.ty3 rfl rfl) (v' := ptr b1 2) rfl) ?_
              refine Gx.val rfl rfl rfl (val_load rfl Tryd.ty3 rfl rfl (cell_rec (k := 1) rfl rfl)) ?_
              refine Gx.eff rfl rfl rfl (eff_call (vs := [ptr S 0, .int .i64 ((ww : Nat) : Int), .int .i64 blk]) rfl Tryd.fn17 rfl (fun w H => vote_any (i := ww) (by omega) ok bd hT (H.at_ (k := 0) rfl))) ?_
              rintro _ l9 ⟨rfl, hl9⟩
              refine Gx.sepEq (l' := [worldH S c (voteStep c s ww blk).2, Hp.rec_ b1 [.int .i64 kind, .int .i64 ((ww : Nat) : Int), .int .i64 blk, .int .i64 rnd, .int .i64 hi], R]) hl9 ?_
              refine Gx.val rfl rfl rfl (val_assign rfl rfl) ?_
              refine Gx.done ?_
              refine Gx.thenN ?_
              refine Gx.ret ?_
              refine Gx.blkR ?_
              refine Gx.thenR ?_
              refine Gx.drop 1 rfl ?_
              refine Gx.norm (l' := [worldH S c (voteStep c s ww blk).2, R]) rfl ?_
              have hE : stepM c s ⟨kind, ((ww : Nat) : Int), blk, rnd, hi⟩ = ((voteStep c s ww blk).1, (voteStep c s ww blk).2) := by
                unfold stepM; rw [if_neg (by dsimp only; omega), if_neg (by dsimp only; omega), if_neg (by rw [isN_no]; dsimp only; omega), if_pos (by dsimp only; omega)]; dsimp only [Int.toNat_natCast]
              refine Gx.ret1 Tryd.results8 rfl ?_
              exact ⟨by rw [hE], by rw [hE]; exact sep1 _ _⟩
            · refine Gx.seq ?_
              refine Gx.region ?_
              refine Gx.val rfl rfl rfl (Val.cast (val_fieldAddr rfl Tryd.underlying55 rfl Tryd.ty3 rfl rfl) (v' := ptr b1 0) rfl) ?_
              refine Gx.val rfl rfl rfl (val_load rfl Tryd.ty3 rfl rfl (cell_rec (k := 1) rfl rfl)) ?_
              refine Gx.val rfl rfl rfl (val_eql rfl rfl rfl) ?_
              refine Gx.val rfl rfl rfl (val_assign rfl rfl) ?_
              refine Gx.done ?_
              refine Gx.thenN ?_
              refine Gx.dec rfl (fun h10 => ?_) (fun h10 => ?_)
              · refine Gx.seq ?_
                refine Gx.region ?_
                refine Gx.val rfl rfl rfl (val_move rfl rfl) ?_
                refine Gx.val rfl rfl rfl (Val.cast (val_loadA rfl Tryd.ty55 rfl rfl rfl (cells_rec (k := 1) rfl)) (v' := .agg #[.int .i64 kind, .int .i64 ((ww : Nat) : Int), .int .i64 blk, .int .i64 rnd, .int .i64 hi]) rfl) ?_
                refine Gx.eff rfl rfl rfl (eff_call (vs := [ptr S 0, .agg #[.int .i64 kind, .int .i64 ((ww : Nat) : Int), .int .i64 blk, .int .i64 rnd, .int .i64 hi]]) rfl Tryd.fn18 rfl (fun w H => late_any (i := ww) (by omega) ok bd hT (H.at_ (k := 0) rfl))) ?_
                rintro _ l11 ⟨rfl, hl11⟩
                refine Gx.sepEq (l' := [worldH S c (lateM c s ww ⟨kind, ((ww : Nat) : Int), blk, rnd, hi⟩).2, Hp.rec_ b1 [.int .i64 kind, .int .i64 ((ww : Nat) : Int), .int .i64 blk, .int .i64 rnd, .int .i64 hi], R]) hl11 ?_
                refine Gx.val rfl rfl rfl (val_assign rfl rfl) ?_
                refine Gx.done ?_
                refine Gx.thenN ?_
                refine Gx.ret ?_
                refine Gx.blkR ?_
                refine Gx.thenR ?_
                refine Gx.drop 1 rfl ?_
                refine Gx.norm (l' := [worldH S c (lateM c s ww ⟨kind, ((ww : Nat) : Int), blk, rnd, hi⟩).2, R]) rfl ?_
                have hE : stepM c s ⟨kind, ((ww : Nat) : Int), blk, rnd, hi⟩ = ((lateM c s ww ⟨kind, ((ww : Nat) : Int), blk, rnd, hi⟩).1, (lateM c s ww ⟨kind, ((ww : Nat) : Int), blk, rnd, hi⟩).2) := by
                  unfold stepM; rw [if_neg (by dsimp only; omega), if_neg (by dsimp only; omega), if_neg (by rw [isN_no]; dsimp only; omega), if_neg (by dsimp only; omega), if_pos (by dsimp only; omega)]; dsimp only [Int.toNat_natCast]
                refine Gx.ret1 Tryd.results8 rfl ?_
                exact ⟨by rw [hE], by rw [hE]; exact sep1 _ _⟩
              · refine Gx.skip ?_
                refine Gx.blkN ?_
                refine Gx.thenN ?_
                refine Gx.seq ?_
                refine Gx.region ?_
                refine Gx.val rfl rfl rfl (val_move rfl rfl) ?_
                refine Gx.val rfl rfl rfl (Val.cast (val_fieldAddr rfl Tryd.underlying55 rfl Tryd.ty3 rfl rfl) (v' := ptr b1 1) rfl) ?_
                refine Gx.val rfl rfl rfl (val_load rfl Tryd.ty3 rfl rfl (cell_rec (k := 1) rfl rfl)) ?_
                refine Gx.val rfl rfl rfl (Val.cast (val_fieldAddr rfl Tryd.underlying55 rfl Tryd.ty3 rfl rfl) (v' := ptr b1 2) rfl) ?_
                refine Gx.val rfl rfl rfl (val_load rfl Tryd.ty3 rfl rfl (cell_rec (k := 1) rfl rfl)) ?_
                refine Gx.eff rfl rfl rfl (eff_call (vs := [ptr S 0, .int .i64 ((ww : Nat) : Int), .int .i64 blk]) rfl Tryd.fn19 rfl (fun w H => learn_any (i := ww) (by omega) ok bd hT (H.at_ (k := 0) rfl))) ?_
                rintro _ l12 ⟨rfl, hl12⟩
                refine Gx.sepEq (l' := [worldH S c (learnM c s ww blk).2, Hp.rec_ b1 [.int .i64 kind, .int .i64 ((ww : Nat) : Int), .int .i64 blk, .int .i64 rnd, .int .i64 hi], R]) hl12 ?_
                refine Gx.val rfl rfl rfl (val_assign rfl rfl) ?_
                refine Gx.done ?_
                refine Gx.thenN ?_
                refine Gx.ret ?_
                refine Gx.drop 1 rfl ?_
                refine Gx.norm (l' := [worldH S c (learnM c s ww blk).2, R]) rfl ?_
                have hE : stepM c s ⟨kind, ((ww : Nat) : Int), blk, rnd, hi⟩ = ((learnM c s ww blk).1, (learnM c s ww blk).2) := by
                  unfold stepM; rw [if_neg (by dsimp only; omega), if_neg (by dsimp only; omega), if_neg (by rw [isN_no]; dsimp only; omega), if_neg (by dsimp only; omega), if_neg (by dsimp only; omega)]; dsimp only [Int.toNat_natCast]
                refine Gx.ret1 Tryd.results8 rfl ?_
                exact ⟨by rw [hE], by rw [hE]; exact sep1 _ _⟩

end Go.Proofs.YtfeeociajllbhaaDoor.Mt
