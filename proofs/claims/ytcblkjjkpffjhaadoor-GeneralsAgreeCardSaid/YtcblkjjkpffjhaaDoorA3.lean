/- What each of a set holds. The walk. No condition. -/
import Derived.Test.YtcblkjjkpffjhaaDoorP1
namespace Go.Proofs.YtcblkjjkpffjhaaDoor
open Go.RowKit
set_option linter.unusedVariables false
set_option linter.unusedSimpArgs false
set_option maxRecDepth 100000

theorem got_step {c : Cp} {way : List Nat} {s u : Nat} {x : Bool} {gm : Mb} (hg : GM (fun j => if s.testBit j = true ∧ ¬ u.testBit j = true then some (sentP c way j x) else none) gm) (hu : u < 128) (h0 : u ≠ 0) (hsub : ∀ j, u.testBit j = true → s.testBit j = true) :
    GM (fun j => if s.testBit j = true ∧ ¬ (u &&& (u - 1)).testBit j = true then some (sentP c way j x) else none) (putM gm (lo u) (sentP c way (lo u) x)) := by
  refine ⟨fun j => ?_, putM_nodup _ _ hg.nd⟩
  rw [getM_put, hg.get]
  have hb := lo_bit hu h0
  by_cases e : lo u = j
  · subst e
    rw [if_pos rfl, if_pos ⟨hsub _ hb.1, by rw [drop_bit hu]; simp⟩]
  · rw [if_neg e]
    have : (u &&& (u - 1)).testBit j = u.testBit j := by rw [drop_bit hu, show decide (j ≠ lo u) = true from decide_eq_true (fun q => e q.symm), Bool.and_true]
    rw [this]
theorem got_small {f : Nat → Option Bool} {s u : Nat} {gm : Mb} (hg : GM (fun j => if s.testBit j = true ∧ ¬ u.testBit j = true then f j else none) gm) (hs : s < 128) (p : Nat × Bool) (hp : p ∈ gm) : p.1 < 7 := by
  obtain ⟨j, v⟩ := p
  have := hg.mem.1 hp
  refine Nat.lt_of_not_le fun hj => ?_
  rw [if_neg (by rw [bit_hi hs hj]; simp)] at this
  cases this
abbrev GOT (c : Cp) (d : Nat) (way : List Nat) (s : Nat) (x : Bool) (ms : Mb) : Prop := GM (fun j => if s.testBit j = true then some (sprd c d way s x j) else none) ms
theorem got_end {c : Cp} {way : List Nat} {s : Nat} {x : Bool} {gm : Mb} (hg : GM (fun j => if s.testBit j = true ∧ ¬ (0 : Nat).testBit j = true then some (sentP c way j x) else none) gm) : GM (fun j => if s.testBit j = true then some (sentP c way j x) else none) gm :=
  ⟨fun j => by rw [hg.get]; simp, hg.nd⟩
theorem spread0 {W : World} {c : Cp} {wv : Value} {way : List Nat} {s : Nat} {x : Bool} (htr : c.tr < 4294967296) (hli : c.li < 18446744073709551616) (hT : HT W) (hs : SlS FN 1 W wv way) (h1w : 1 ≤ way.length) (h6 : ∀ i ∈ way, i < 7) (hs128 : s < 128) (h4 : way.length ≤ 4) :
    Calls Tryd.prog 9 #[.agg #[.int .u32 ((c.tr : Nat) : Int), .int .u64 ((c.li : Nat) : Int)], wv, .int .u32 ((s : Nat) : Int), .int .i64 0, .bool x] W (Ret W fun v l9 => ∃ b ms, v = .map (some b) ∧ l9 = [Hp.map Tryd.prog 3 natL boolV b ms] ∧ GOT c 0 way s x ms) := by
  have hsS := hs128
  refine Gx.enter (l := []) Tryd.func9 rfl Tryd.ntmps9 rfl (Sat.start W) ?_
  refine Gx.know (m' := [(0, .agg #[.int .u32 ((c.tr : Nat) : Int), .int .u64 ((c.li : Nat) : Int)]), (1, wv), (2, .int .u32 ((s : Nat) : Int)), (3, .int .i64 0), (4, .bool x)]) (.cons rfl (.cons rfl (.cons rfl (.cons rfl (.cons rfl .nil))))) ?_
  refine Gx.seq ?_
  refine Gx.region ?_
  refine Gx.eff rfl rfl rfl (eff_box rfl rfl (vs := [.int .u32 ((c.tr : Nat) : Int), .int .u64 ((c.li : Nat) : Int)]) rfl) ?_
  rintro _ _ ⟨b1, rfl, rfl⟩
  refine Gx.val rfl rfl rfl (val_assign rfl rfl) ?_
  refine Gx.done ?_
  refine Gx.thenN ?_
  refine Gx.seq ?_
  refine Gx.region ?_
  refine Gx.eff rfl rfl rfl (eff_makeMap 3 natL boolV rfl) ?_
  rintro _ _ ⟨b2, rfl, rfl⟩
  refine Gx.val rfl rfl rfl (val_assign rfl rfl) ?_
  refine Gx.done ?_
  refine Gx.thenN ?_
  refine Gx.seq ?_
  refine Gx.seq ?_
  refine Gx.region ?_
  refine Gx.val rfl rfl rfl (val_move rfl rfl) ?_
  refine Gx.val rfl rfl rfl (val_assign rfl rfl) ?_
  refine Gx.done ?_
  refine Gx.thenN ?_
  refine Gx.block ?_
  refine Gx.loop (ι := Nat × Mb) (fun ξ => (ξ.1 < 128) ∧ (∀ j, ξ.1.testBit j = true → s.testBit j = true) ∧ (GM (fun j => if s.testBit j = true ∧ ¬ ξ.1.testBit j = true then some (sentP c way j x) else none) ξ.2)) (fun ξ => [(0, .agg #[.int .u32 ((c.tr : Nat) : Int), .int .u64 ((c.li : Nat) : Int)]), (1, wv), (2, .int .u32 ((s : Nat) : Int)), (3, .int .i64 0), (4, .bool x), (5, ptr b1 0), (11, .map (some b2)), (12, .int .u32 ((ξ.1 : Nat) : Int))]) (fun ξ => [Hp.map Tryd.prog 3 natL boolV b2 ξ.2, Hp.rec_ b1 [.int .u32 ((c.tr : Nat) : Int), .int .u64 ((c.li : Nat) : Int)]]) (fun ξ => ξ.1) (s, []) ⟨by first | omega | (dsimp only; omega), fun j h => h, ⟨fun j => by dsimp only; rw [if_neg (fun h => h.2 h.1)]; rfl, List.Pairwise.nil⟩⟩ ((.cons rfl (.cons rfl (.cons rfl (.cons rfl (.cons rfl (.cons rfl (.cons rfl (.cons rfl .nil))))))))) rfl ?_
  rintro ⟨u, gm⟩ ⟨hu, hsub, hg⟩
  dsimp only at hu hsub hg
  refine Gx.know (m' := [(0, .agg #[.int .u32 ((c.tr : Nat) : Int), .int .u64 ((c.li : Nat) : Int)]), (1, wv), (2, .int .u32 ((s : Nat) : Int)), (3, .int .i64 0), (4, .bool x), (5, ptr b1 0), (11, .map (some b2)), (12, .int .u32 ((u : Nat) : Int))]) (.cons rfl (.cons rfl (.cons rfl (.cons rfl (.cons rfl (.cons rfl (.cons rfl (.cons rfl .nil)))))))) (Gx.norm (l' := [Hp.map Tryd.prog 3 natL boolV b2 gm, Hp.rec_ b1 [.int .u32 ((c.tr : Nat) : Int), .int .u64 ((c.li : Nat) : Int)]]) rfl ?_)
  refine Gx.seq ?_
  refine Gx.seq ?_
  refine Gx.region ?_
  refine Gx.val rfl rfl rfl (val_move rfl rfl) ?_
  refine Gx.val rfl rfl rfl (val_neq rfl rfl rfl) ?_
  refine Gx.done ?_
  refine Gx.thenN ?_
  refine Gx.dec rfl (fun h3 => ?_) (fun h3 => ?_)
  · refine Gx.skip ?_
    refine Gx.thenN ?_
    refine Gx.seq ?_
    refine Gx.block ?_
    refine Gx.seq ?_
    have h0 : u ≠ 0 := by omega
    have hgl : gm.length ≤ 7 := keys_len hg.nd fun p hp => got_small hg hsS p hp
    refine Gx.region ?_
    refine Gx.val rfl rfl rfl (val_move rfl rfl) ?_
    refine Gx.val rfl rfl rfl (val_call (vs := [.int .u32 ((u : Nat) : Int)]) rfl Tryd.fn11 rfl (fun w H => tz_any (hT.below H.below) hu h0)) ?_
    refine Gx.val rfl rfl rfl (val_assign rfl rfl) ?_
    refine Gx.done ?_
    refine Gx.thenN ?_
    refine Gx.region ?_
    refine Gx.val rfl rfl rfl (val_move rfl rfl) ?_
    refine Gx.val rfl rfl rfl (val_move rfl rfl) ?_
    refine Gx.val rfl rfl rfl (Val.cast (val_loadA rfl Tryd.ty33 rfl rfl rfl (cells_rec (k := 1) rfl)) (v' := .agg #[.int .u32 ((c.tr : Nat) : Int), .int .u64 ((c.li : Nat) : Int)]) rfl) ?_
    refine Gx.val rfl rfl rfl (val_move rfl rfl) ?_
    refine Gx.val rfl rfl rfl (val_move rfl rfl) ?_
    refine Gx.val rfl rfl rfl (val_move rfl rfl) ?_
    refine Gx.val rfl rfl rfl (val_call (vs := [.agg #[.int .u32 ((c.tr : Nat) : Int), .int .u64 ((c.li : Nat) : Int)], wv, .int .i64 ((lo u : Nat) : Int), .bool x]) rfl Tryd.fn12 rfl (fun w H => sent_any htr hli (hs.below H.below) h1w (by omega) h6 (lo_bit hu h0).2)) ?_
    refine Gx.eff0 rfl rfl (eff_mapUpdate (vf := boolV) rfl Tryd.underlying34 Tryd.kN natK rfl rfl rfl (i := lo u) (r := sentP c way (lo u) x) (by have := (lo_bit hu h0).2; omega) (k := 0) rfl (by unfold maxLen; omega) (l' := [Hp.map Tryd.prog 3 natL boolV b2 (putM gm (lo u) (sentP c way (lo u) x)), Hp.rec_ b1 [.int .u32 ((c.tr : Nat) : Int), .int .u64 ((c.li : Nat) : Int)]]) rfl) ?_
    rintro _ _ rfl
    refine Gx.done ?_
    refine Gx.blkN ?_
    refine Gx.thenN ?_
    refine Gx.region ?_
    refine Gx.val rfl rfl rfl (val_move rfl rfl) ?_
    refine Gx.val rfl rfl rfl (val_move rfl rfl) ?_
    refine Gx.val rfl rfl rfl (val_sub rfl rfl rfl (sub32 h0 (by omega))) ?_
    refine Gx.val rfl rfl rfl (val_and rfl rfl rfl (and32 (by omega) (by omega))) ?_
    refine Gx.val rfl rfl rfl (val_assign rfl rfl) ?_
    refine Gx.done ?_
    refine Gx.thenN ?_
    exact Gx.round (u &&& (u - 1), putM gm (lo u) (sentP c way (lo u) x)) ⟨Nat.lt_trans (drop_lt hu h0) hu, fun j h => hsub j (by rw [drop_bit hu] at h; simp at h; exact h.1), got_step hg hu h0 hsub⟩ (drop_lt hu h0) ((.cons rfl (.cons rfl (.cons rfl (.cons rfl (.cons rfl (.cons rfl (.cons rfl (.cons rfl .nil))))))))) rfl
  · refine Gx.exit ?_
    refine Gx.thenE ?_
    refine Gx.thenE ?_
    refine Gx.blkE ?_
    refine Gx.thenN ?_
    refine Gx.seq ?_
    refine Gx.seq ?_
    refine Gx.region ?_
    refine Gx.val rfl rfl rfl (val_move rfl rfl) ?_
    refine Gx.val rfl rfl rfl (Val.cast (val_eql rfl rfl rfl) (v' := .bool true) rfl) ?_
    refine Gx.done ?_
    refine Gx.thenN ?_
    refine Gx.t rfl ?_
    refine Gx.seq ?_
    refine Gx.region ?_
    refine Gx.val rfl rfl rfl (val_move rfl rfl) ?_
    refine Gx.val rfl rfl rfl (val_assign rfl rfl) ?_
    refine Gx.done ?_
    refine Gx.thenN ?_
    refine Gx.ret ?_
    refine Gx.thenR ?_
    refine Gx.drop 1 rfl ?_
    refine Gx.ret1 Tryd.results9 rfl ?_
    obtain rfl : u = 0 := by omega
    exact ⟨_, _, rfl, rfl, got_end hg⟩

end Go.Proofs.YtcblkjjkpffjhaaDoor
