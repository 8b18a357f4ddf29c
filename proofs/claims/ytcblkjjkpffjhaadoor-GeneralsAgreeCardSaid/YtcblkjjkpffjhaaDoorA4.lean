/- What each of a set holds, at every depth. The walk. No condition. -/
import Derived.Test.YtcblkjjkpffjhaaDoorP2
namespace Go.Proofs.YtcblkjjkpffjhaaDoor
open Go.RowKit
set_option linter.unusedVariables false
set_option linter.unusedSimpArgs false
set_option maxRecDepth 100000

theorem spread_any {c : Cp} (htr : c.tr < 4294967296) (hli : c.li < 18446744073709551616) : ∀ (n : Nat) {W : World} {wv : Value} {way : List Nat} {s : Nat} {x : Bool}, HT W → SlS FN 1 W wv way → 1 ≤ way.length → way.length + n ≤ 4 → (∀ i ∈ way, i < 7) → s < 128 →
    Calls Tryd.prog 9 #[.agg #[.int .u32 ((c.tr : Nat) : Int), .int .u64 ((c.li : Nat) : Int)], wv, .int .u32 ((s : Nat) : Int), .int .i64 ((n : Nat) : Int), .bool x] W (Ret W fun v l9 => ∃ b, v = .map (some b) ∧ l9 = [gotH c n way s x b]) := by
  intro n
  induction n with
  | zero => intro W wv way s x hT hs h1w h4 h6 hs128; exact spread0_H htr hli hT hs h1w h6 hs128 (by omega)
  | succ dp ih =>
    intro W wv way s x hT hs h1w h4 h6 hs128
    have hsS := hs128
    refine Gx.enter (l := []) Tryd.func9 rfl Tryd.ntmps9 rfl (Sat.start W) ?_
    refine Gx.know (m' := [(0, .agg #[.int .u32 ((c.tr : Nat) : Int), .int .u64 ((c.li : Nat) : Int)]), (1, wv), (2, .int .u32 ((s : Nat) : Int)), (3, .int .i64 ((dp + 1 : Nat) : Int)), (4, .bool x)]) (.cons rfl (.cons rfl (.cons rfl (.cons rfl (.cons rfl .nil))))) ?_
    refine Gx.seq ?_
    refine Gx.region ?_
    refine Gx.eff rfl rfl rfl (eff_box rfl rfl (vs := [.int .u32 ((c.tr : Nat) : Int), .int .u64 ((c.li : Nat) : Int)]) rfl) ?_
    rintro _ _ ⟨b1, rfl, rfl⟩
    refine Gx.val rfl rfl rfl (val_assign rfl rfl) ?_
    refine Gx.done ?_
    refine Gx.thenN ?_
    refine Gx.seq ?_
    refine Gx.region ?_
    refine Gx.eff rfl rfl rfl (eff_makeMap 3 natL boolV rfl) ?_
    rintro _ _ ⟨b2, rfl, rfl⟩
    refine Gx.val rfl rfl rfl (val_assign rfl rfl) ?_
    refine Gx.done ?_
    refine Gx.thenN ?_
    refine Gx.seq ?_
    refine Gx.seq ?_
    refine Gx.region ?_
    refine Gx.val rfl rfl rfl (val_move rfl rfl) ?_
    refine Gx.val rfl rfl rfl (val_assign rfl rfl) ?_
    refine Gx.done ?_
    refine Gx.thenN ?_
    refine Gx.block ?_
    refine Gx.loop (ι := Nat × Mb) (fun ξ => (ξ.1 < 128) ∧ (∀ j, ξ.1.testBit j = true → s.testBit j = true) ∧ (GM (fun j => if s.testBit j = true ∧ ¬ ξ.1.testBit j = true then some (sentP c way j x) else none) ξ.2)) (fun ξ => [(0, .agg #[.int .u32 ((c.tr : Nat) : Int), .int .u64 ((c.li : Nat) : Int)]), (1, wv), (2, .int .u32 ((s : Nat) : Int)), (3, .int .i64 ((dp + 1 : Nat) : Int)), (4, .bool x), (5, ptr b1 0), (11, .map (some b2)), (12, .int .u32 ((ξ.1 : Nat) : Int))]) (fun ξ => [Hp.map Tryd.prog 3 natL boolV b2 ξ.2, Hp.rec_ b1 [.int .u32 ((c.tr : Nat) : Int), .int .u64 ((c.li : Nat) : Int)]]) (fun ξ => ξ.1) (s, []) ⟨by first | omega | (dsimp only; omega), fun j h => h, ⟨fun j => by dsimp only; rw [if_neg (fun h => h.2 h.1)]; rfl, List.Pairwise.nil⟩⟩ ((.cons rfl (.cons rfl (.cons rfl (.cons rfl (.cons rfl (.cons rfl (.cons rfl (.cons rfl .nil))))))))) rfl ?_
    rintro ⟨u, gm⟩ ⟨hu, hsub, hg⟩
    dsimp only at hu hsub hg
    refine Gx.know (m' := [(0, .agg #[.int .u32 ((c.tr : Nat) : Int), .int .u64 ((c.li : Nat) : Int)]), (1, wv), (2, .int .u32 ((s : Nat) : Int)), (3, .int .i64 ((dp + 1 : Nat) : Int)), (4, .bool x), (5, ptr b1 0), (11, .map (some b2)), (12, .int .u32 ((u : Nat) : Int))]) (.cons rfl (.cons rfl (.cons rfl (.cons rfl (.cons rfl (.cons rfl (.cons rfl (.cons rfl .nil)))))))) (Gx.norm (l' := [Hp.map Tryd.prog 3 natL boolV b2 gm, Hp.rec_ b1 [.int .u32 ((c.tr : Nat) : Int), .int .u64 ((c.li : Nat) : Int)]]) rfl ?_)
    refine Gx.seq ?_
    refine Gx.seq ?_
    refine Gx.region ?_
    refine Gx.val rfl rfl rfl (val_move rfl rfl) ?_
    refine Gx.val rfl rfl rfl (val_neq rfl rfl rfl) ?_
    refine Gx.done ?_
    refine Gx.thenN ?_
    refine Gx.dec rfl (fun h3 => ?_) (fun h3 => ?_)
    · refine Gx.skip ?_
      refine Gx.thenN ?_
      refine Gx.seq ?_
      refine Gx.block ?_
      refine Gx.seq ?_
      have h0 : u ≠ 0 := by omega
      have hgl : gm.length ≤ 7 := keys_len hg.nd fun p hp => got_small hg hsS p hp
      refine Gx.region ?_
      refine Gx.val rfl rfl rfl (val_move rfl rfl) ?_
      refine Gx.val rfl rfl rfl (val_call (vs := [.int .u32 ((u : Nat) : Int)]) rfl Tryd.fn11 rfl (fun w H => tz_any (hT.below H.below) hu h0)) ?_
      refine Gx.val rfl rfl rfl (val_assign rfl rfl) ?_
      refine Gx.done ?_
      refine Gx.thenN ?_
      refine Gx.region ?_
      refine Gx.val rfl rfl rfl (val_move rfl rfl) ?_
      refine Gx.val rfl rfl rfl (val_move rfl rfl) ?_
      refine Gx.val rfl rfl rfl (Val.cast (val_loadA rfl Tryd.ty33 rfl rfl rfl (cells_rec (k := 1) rfl)) (v' := .agg #[.int .u32 ((c.tr : Nat) : Int), .int .u64 ((c.li : Nat) : Int)]) rfl) ?_
      refine Gx.val rfl rfl rfl (val_move rfl rfl) ?_
      refine Gx.val rfl rfl rfl (val_move rfl rfl) ?_
      refine Gx.val rfl rfl rfl (val_move rfl rfl) ?_
      refine Gx.val rfl rfl rfl (val_call (vs := [.agg #[.int .u32 ((c.tr : Nat) : Int), .int .u64 ((c.li : Nat) : Int)], wv, .int .i64 ((lo u : Nat) : Int), .bool x]) rfl Tryd.fn12 rfl (fun w H => sent_any htr hli (hs.below H.below) h1w (by omega) h6 (lo_bit hu h0).2)) ?_
      refine Gx.eff0 rfl rfl (eff_mapUpdate (vf := boolV) rfl Tryd.underlying34 Tryd.kN natK rfl rfl rfl (i := lo u) (r := sentP c way (lo u) x) (by have := (lo_bit hu h0).2; omega) (k := 0) rfl (by unfold maxLen; omega) (l' := [Hp.map Tryd.prog 3 natL boolV b2 (putM gm (lo u) (sentP c way (lo u) x)), Hp.rec_ b1 [.int .u32 ((c.tr : Nat) : Int), .int .u64 ((c.li : Nat) : Int)]]) rfl) ?_
      rintro _ _ rfl
      refine Gx.done ?_
      refine Gx.blkN ?_
      refine Gx.thenN ?_
      refine Gx.region ?_
      refine Gx.val rfl rfl rfl (val_move rfl rfl) ?_
      refine Gx.val rfl rfl rfl (val_move rfl rfl) ?_
      refine Gx.val rfl rfl rfl (val_sub rfl rfl rfl (sub32 h0 (by omega))) ?_
      refine Gx.val rfl rfl rfl (val_and rfl rfl rfl (and32 (by omega) (by omega))) ?_
      refine Gx.val rfl rfl rfl (val_assign rfl rfl) ?_
      refine Gx.done ?_
      refine Gx.thenN ?_
      exact Gx.round (u &&& (u - 1), putM gm (lo u) (sentP c way (lo u) x)) ⟨Nat.lt_trans (drop_lt hu h0) hu, fun j h => hsub j (by rw [drop_bit hu] at h; simp at h; exact h.1), got_step hg hu h0 hsub⟩ (drop_lt hu h0) ((.cons rfl (.cons rfl (.cons rfl (.cons rfl (.cons rfl (.cons rfl (.cons rfl (.cons rfl .nil))))))))) rfl
    · refine Gx.exit ?_
      refine Gx.thenE ?_
      refine Gx.thenE ?_
      refine Gx.blkE ?_
      refine Gx.thenN ?_
      refine Gx.seq ?_
      refine Gx.seq ?_
      refine Gx.region ?_
      refine Gx.val rfl rfl rfl (val_move rfl rfl) ?_
      refine Gx.val rfl rfl rfl (val_eql rfl rfl rfl) ?_
      refine Gx.done ?_
      refine Gx.thenN ?_
      refine Gx.decF rfl (by omega) ?_
      refine Gx.skip ?_
      refine Gx.thenN ?_
      refine Gx.seq ?_
      obtain rfl : u = 0 := by omega
      have hgot := got_end hg
      have hgl : gm.length ≤ 7 := keys_len hgot.nd fun p hp => got_small hg hsS p hp
      refine Gx.region ?_
      refine Gx.eff rfl rfl rfl (eff_makeMap 3 natL intV rfl) ?_
      rintro _ _ ⟨b4, rfl, rfl⟩
      refine Gx.eff rfl rfl rfl (eff_alloc rfl Tryd.ty40 (vs := [.map none]) rfl) ?_
      rintro _ _ ⟨b5, rfl, rfl⟩
      refine Gx.eff0 rfl rfl (eff_store rfl Tryd.ty40 rfl rfl (us := [.map (some b4)]) rfl rfl rfl (k := 0) rfl (rfl) (vs' := [.map (some b4)]) (rfl) (l' := [Hp.rec_ b5 [.map (some b4)], Hp.map Tryd.prog 3 natL intV b4 ([]), Hp.map Tryd.prog 3 natL boolV b2 gm, Hp.rec_ b1 [.int .u32 ((c.tr : Nat) : Int), .int .u64 ((c.li : Nat) : Int)]]) rfl) ?_
      rintro _ _ rfl
      refine Gx.done ?_
      refine Gx.thenN ?_
      refine Gx.seq ?_
      refine Gx.region ?_
      refine Gx.val rfl rfl rfl (Val.cast (val_makeFunc (us := []) (vs := [ptr b5 0]) rfl rfl rfl) (v' := .func (.func 13) #[] #[ptr b5 0]) rfl) ?_
      refine Gx.val rfl rfl rfl (val_assign rfl rfl) ?_
      refine Gx.done ?_
      refine Gx.thenN ?_
      refine Gx.seq ?_
      refine Gx.seq ?_
      refine Gx.region ?_
      refine Gx.val rfl rfl rfl (val_move rfl rfl) ?_
      refine Gx.eff rfl rfl rfl (eff_range rfl Tryd.underlying34 rfl (k := 2) rfl) ?_
      rintro _ _ ⟨r6, rfl, rfl⟩
      refine Gx.norm (l' := [Hp.rec_ b5 [.map (some b4)], Hp.map Tryd.prog 3 natL intV b4 ([]), Hp.iter Tryd.prog 3 natL boolV b2 r6 gm gm, Hp.rec_ b1 [.int .u32 ((c.tr : Nat) : Int), .int .u64 ((c.li : Nat) : Int)]]) rfl ?_
      refine Gx.done ?_
      refine Gx.thenN ?_
      refine Gx.block ?_
      refine Gx.front 3 rfl ?_
      refine Gx.front 1 rfl ?_
      refine Gx.front 3 rfl ?_
      refine Gx.front 3 rfl ?_
      refine Gx.loop (ι := Mb × Mi) (fun ξ => (∀ p ∈ ξ.1, p.1 < 7 ∧ s.testBit p.1 = true ∧ p.2 = sentP c way p.1 x) ∧ (∀ j, getI ξ.2 j = sumC c dp way s x gm j - sumC c dp way s x ξ.1 j) ∧ (ξ.1.length ≤ 7) ∧ (∀ j ∈ ξ.2.map (·.1), s.testBit j = true) ∧ (ξ.2.Pairwise (fun p q => p.1 ≠ q.1)) ∧ (∀ j, s.testBit j = true → (∃ p ∈ ξ.1, p.1 = j) ∨ (getM ξ.2 j).isSome = true)) (fun ξ => [(0, .agg #[.int .u32 ((c.tr : Nat) : Int), .int .u64 ((c.li : Nat) : Int)]), (1, wv), (2, .int .u32 ((s : Nat) : Int)), (3, .int .i64 ((dp + 1 : Nat) : Int)), (4, .bool x), (5, ptr b1 0), (11, .map (some b2)), (14, ptr b5 0), (15, .func (.func 13) #[] #[ptr b5 0]), (46, ptr r6 0)]) (fun ξ => [Hp.map Tryd.prog 3 natL intV b4 ξ.2, Hp.iter Tryd.prog 3 natL boolV b2 r6 gm ξ.1, Hp.rec_ b5 [.map (some b4)], Hp.rec_ b1 [.int .u32 ((c.tr : Nat) : Int), .int .u64 ((c.li : Nat) : Int)]]) (fun ξ => ξ.1.length) (gm, []) ⟨got_in hs128 hgot, fun j => by show (0 : Int) = _; dsimp only; omega, hgl, fun j hj => (by cases hj), List.Pairwise.nil, fun j hj => .inl ⟨(j, _), hgot.mem.2 (if_pos hj), rfl⟩⟩ ((.cons rfl (.cons rfl (.cons rfl (.cons rfl (.cons rfl (.cons rfl (.cons rfl (.cons rfl (.cons rfl (.cons rfl .nil))))))))))) rfl ?_
      rintro ⟨left, vm⟩ ⟨hin, hv, hll, hvk, hvn, hxall⟩
      dsimp only at hin hv hll hvk hvn hxall
      refine Gx.know (m' := [(0, .agg #[.int .u32 ((c.tr : Nat) : Int), .int .u64 ((c.li : Nat) : Int)]), (1, wv), (2, .int .u32 ((s : Nat) : Int)), (3, .int .i64 ((dp + 1 : Nat) : Int)), (4, .bool x), (5, ptr b1 0), (11, .map (some b2)), (14, ptr b5 0), (15, .func (.func 13) #[] #[ptr b5 0]), (46, ptr r6 0)]) (.cons rfl (.cons rfl (.cons rfl (.cons rfl (.cons rfl (.cons rfl (.cons rfl (.cons rfl (.cons rfl (.cons rfl .nil)))))))))) (Gx.norm (l' := [Hp.map Tryd.prog 3 natL intV b4 vm, Hp.iter Tryd.prog 3 natL boolV b2 r6 gm left, Hp.rec_ b5 [.map (some b4)], Hp.rec_ b1 [.int .u32 ((c.tr : Nat) : Int), .int .u64 ((c.li : Nat) : Int)]]) rfl ?_)
      have hvl := keys_len hvn (key_lt hs128 hvk)
      have hvb : ∀ j, -14 ≤ getI vm j ∧ getI vm j ≤ 14 := fun j => by have e1 := hv j; have e2 := sumC_bd c dp way s x gm j; have e3 := sumC_bd c dp way s x left j; omega
      refine Gx.seq ?_
      refine Gx.region ?_
      refine Gx.eff rfl rfl rfl (eff_next (kf := natV) rfl Tryd.kN (fun p hp => by have := hin p hp; omega) rfl (k := 1) rfl) ?_
      rintro _ _ (⟨hl7, rfl, rfl⟩ | ⟨ka8, xv9, rs10, hp11, rfl, rfl⟩)
      · refine Gx.norm (l' := [Hp.map Tryd.prog 3 natL intV b4 vm, Hp.map Tryd.prog 3 natL boolV b2 gm, Hp.rec_ b5 [.map (some b4)], Hp.rec_ b1 [.int .u32 ((c.tr : Nat) : Int), .int .u64 ((c.li : Nat) : Int)]]) rfl ?_
        refine Gx.val rfl rfl rfl (val_extract rfl rfl rfl) ?_
        refine Gx.done ?_
        refine Gx.thenN ?_
        refine Gx.seq ?_
        refine Gx.f rfl ?_
        refine Gx.exit ?_
        refine Gx.thenE ?_
        refine Gx.thenE ?_
        refine Gx.blkE ?_
        refine Gx.thenN ?_
        refine Gx.seq ?_
        have hleft0 : left = [] := hl7
        refine Gx.region ?_
        refine Gx.eff rfl rfl rfl (eff_makeMap 3 natL boolV rfl) ?_
        rintro _ _ ⟨b12, rfl, rfl⟩
        refine Gx.val rfl rfl rfl (val_assign rfl rfl) ?_
        refine Gx.done ?_
        refine Gx.thenN ?_
        refine Gx.seq ?_
        refine Gx.seq ?_
        refine Gx.region ?_
        refine Gx.val rfl rfl rfl (val_load rfl Tryd.ty40 rfl rfl (cell_rec (k := 3) rfl rfl)) ?_
        refine Gx.eff rfl rfl rfl (eff_range rfl Tryd.underlying40 rfl (k := 1) rfl) ?_
        rintro _ _ ⟨r13, rfl, rfl⟩
        refine Gx.norm (l' := [Hp.map Tryd.prog 3 natL boolV b12 ([]), Hp.iter Tryd.prog 3 natL intV b4 r13 vm vm, Hp.map Tryd.prog 3 natL boolV b2 gm, Hp.rec_ b5 [.map (some b4)], Hp.rec_ b1 [.int .u32 ((c.tr : Nat) : Int), .int .u64 ((c.li : Nat) : Int)]]) rfl ?_
        refine Gx.done ?_
        refine Gx.thenN ?_
        refine Gx.block ?_
        refine Gx.drop 4 rfl ?_
        refine Gx.drop 3 rfl ?_
        refine Gx.drop 2 rfl ?_
        refine Gx.loop (ι := Mi × Mb) (fun ξ => (∀ p ∈ ξ.1, p.1 < 7 ∧ p ∈ vm) ∧ (∀ j, (getM vm j).isSome = true → (∃ p ∈ ξ.1, p.1 = j) ∨ getM ξ.2 j = some (decide (0 < getI vm j))) ∧ (∀ j ∈ ξ.2.map (·.1), j ∈ vm.map (·.1)) ∧ (ξ.2.Pairwise (fun p q => p.1 ≠ q.1))) (fun ξ => [(20, .map (some b12)), (82, ptr r13 0)]) (fun ξ => [Hp.map Tryd.prog 3 natL boolV b12 ξ.2, Hp.iter Tryd.prog 3 natL intV b4 r13 vm ξ.1]) (fun ξ => ξ.1.length) (vm, []) ⟨fun p hp => ⟨key_lt hs128 hvk p hp, hp⟩, fun j hj => by obtain ⟨v, hv9⟩ := Option.isSome_iff_exists.1 hj; exact .inl ⟨(j, v), getM_some hv9, rfl⟩, fun j hj => (by cases hj), List.Pairwise.nil⟩ ((.cons rfl (.cons rfl .nil))) rfl ?_
        rintro ⟨left3, hm⟩ ⟨hin3, hh, hhk, hhn⟩
        dsimp only at hin3 hh hhk hhn
        refine Gx.know (m' := [(20, .map (some b12)), (82, ptr r13 0)]) (.cons rfl (.cons rfl .nil)) (Gx.norm (l' := [Hp.map Tryd.prog 3 natL boolV b12 hm, Hp.iter Tryd.prog 3 natL intV b4 r13 vm left3]) rfl ?_)
        have hhl := keys_len hhn fun p hp => by obtain ⟨q, hq, hqe⟩ := List.mem_map.1 (hhk _ (List.mem_map_of_mem hp)); rw [← hqe]; exact key_lt hs128 hvk q hq
        refine Gx.seq ?_
        refine Gx.region ?_
        refine Gx.eff rfl rfl rfl (eff_next (kf := natV) rfl Tryd.kN (fun p hp => by have := (hin3 p hp).1; omega) rfl (k := 1) rfl) ?_
        rintro _ _ (⟨hl14, rfl, rfl⟩ | ⟨ka15, xv16, rs17, hp18, rfl, rfl⟩)
        · refine Gx.norm (l' := [Hp.map Tryd.prog 3 natL boolV b12 hm, Hp.map Tryd.prog 3 natL intV b4 vm]) rfl ?_
          refine Gx.val rfl rfl rfl (val_extract rfl rfl rfl) ?_
          refine Gx.done ?_
          refine Gx.thenN ?_
          refine Gx.seq ?_
          refine Gx.f rfl ?_
          refine Gx.exit ?_
          refine Gx.thenE ?_
          refine Gx.thenE ?_
          refine Gx.blkE ?_
          refine Gx.thenN ?_
          refine Gx.seq ?_
          refine Gx.region ?_
          refine Gx.val rfl rfl rfl (val_move rfl rfl) ?_
          refine Gx.val rfl rfl rfl (val_assign rfl rfl) ?_
          refine Gx.done ?_
          refine Gx.thenN ?_
          refine Gx.ret ?_
          refine Gx.drop 1 rfl ?_
          have hfin : GOT c (dp + 1) way s x hm := by
            have e3 := hl14
            subst e3
            have e1 := hleft0
            subst e1
            exact got_final hs128 hgot hv hvk hxall hh hhk hhn
          refine Gx.sat (l' := [gotH c (dp + 1) way s x b12]) (fun w H => gotH.shut hfin H) ?_
          refine Gx.ret1 Tryd.results9 rfl ?_
          exact ⟨_, rfl, rfl⟩
        · refine Gx.norm (l' := [Hp.map Tryd.prog 3 natL boolV b12 hm, Hp.iterE Tryd.prog 3 natL intV natV b4 r13 vm rs17 ka15 xv16]) rfl ?_
          refine Gx.val rfl rfl rfl (val_extract rfl rfl rfl) ?_
          refine Gx.done ?_
          refine Gx.thenN ?_
          refine Gx.seq ?_
          refine Gx.t rfl ?_
          refine Gx.skip ?_
          refine Gx.thenN ?_
          refine Gx.block ?_
          refine Gx.seq ?_
          refine Gx.region ?_
          refine Gx.eff rfl rfl rfl (eff_entry rfl rfl (k := 1) rfl) ?_
          rintro _ _ ⟨rfl, rfl⟩
          refine Gx.norm (l' := [Hp.map Tryd.prog 3 natL boolV b12 hm, Hp.iter Tryd.prog 3 natL intV b4 r13 vm rs17]) rfl ?_
          refine Gx.val rfl rfl rfl (val_extract rfl rfl rfl) ?_
          refine Gx.val rfl rfl rfl (val_extract rfl rfl rfl) ?_
          refine Gx.val rfl rfl rfl (val_assign rfl rfl) ?_
          refine Gx.val rfl rfl rfl (val_assign rfl rfl) ?_
          refine Gx.done ?_
          refine Gx.thenN ?_
          refine Gx.region ?_
          refine Gx.val rfl rfl rfl (val_move rfl rfl) ?_
          refine Gx.val rfl rfl rfl (val_move rfl rfl) ?_
          refine Gx.val rfl rfl rfl (val_move rfl rfl) ?_
          refine Gx.val rfl rfl rfl (val_gtr rfl rfl rfl) ?_
          refine Gx.eff0 rfl rfl (eff_mapUpdate (vf := boolV) rfl Tryd.underlying34 Tryd.kN natK rfl rfl rfl (i := ka15) (r := (decide (0 < xv16))) (by have := (hin3 _ (hp18.mem_iff.2 (List.mem_cons_self ..))).1; dsimp only at this; omega) (k := 0) rfl (by unfold maxLen; omega) (l' := [Hp.map Tryd.prog 3 natL boolV b12 (putM hm ka15 (decide (0 < xv16))), Hp.iter Tryd.prog 3 natL intV b4 r13 vm rs17]) rfl) ?_
          rintro _ _ rfl
          refine Gx.done ?_
          refine Gx.blkN ?_
          refine Gx.thenN ?_
          exact Gx.round (rs17, putM hm ka15 (decide (0 < xv16))) ⟨fun p hq => hin3 p (hp18.mem_iff.2 (List.mem_cons_of_mem _ hq)), held_step hvn hh (hin3 _ (hp18.mem_iff.2 (List.mem_cons_self ..))).2 hp18, fun j hj => by rcases putM_keyI.1 hj with e | e; (rw [e]; exact List.mem_map_of_mem (hin3 _ (hp18.mem_iff.2 (List.mem_cons_self ..))).2); (exact hhk j e), putM_nodup _ _ hhn⟩ (by have e9 := hp18.length_eq; simp only [List.length_cons] at e9; dsimp only at e9 ⊢; omega) ((.cons rfl (.cons rfl .nil))) rfl
      · refine Gx.norm (l' := [Hp.map Tryd.prog 3 natL intV b4 vm, Hp.iterE Tryd.prog 3 natL boolV natV b2 r6 gm rs10 ka8 xv9, Hp.rec_ b5 [.map (some b4)], Hp.rec_ b1 [.int .u32 ((c.tr : Nat) : Int), .int .u64 ((c.li : Nat) : Int)]]) rfl ?_
        refine Gx.val rfl rfl rfl (val_extract rfl rfl rfl) ?_
        refine Gx.done ?_
        refine Gx.thenN ?_
        refine Gx.seq ?_
        refine Gx.t rfl ?_
        refine Gx.skip ?_
        refine Gx.thenN ?_
        refine Gx.block ?_
        refine Gx.seq ?_
        refine Gx.region ?_
        refine Gx.eff rfl rfl rfl (eff_entry rfl rfl (k := 1) rfl) ?_
        rintro _ _ ⟨rfl, rfl⟩
        refine Gx.norm (l' := [Hp.map Tryd.prog 3 natL intV b4 vm, Hp.iter Tryd.prog 3 natL boolV b2 r6 gm rs10, Hp.rec_ b5 [.map (some b4)], Hp.rec_ b1 [.int .u32 ((c.tr : Nat) : Int), .int .u64 ((c.li : Nat) : Int)]]) rfl ?_
        refine Gx.val rfl rfl rfl (val_extract rfl rfl rfl) ?_
        refine Gx.val rfl rfl rfl (val_extract rfl rfl rfl) ?_
        refine Gx.val rfl rfl rfl (val_assign rfl rfl) ?_
        refine Gx.val rfl rfl rfl (val_assign rfl rfl) ?_
        refine Gx.done ?_
        refine Gx.thenN ?_
        refine Gx.seq ?_
        have hwl : (way ++ [ka8]).length = way.length + 1 := by simp
        have hbb := hvb ka8
        have hme := hp11.mem_iff.2 (List.mem_cons_self ..)
        have hk7 := (hin _ hme).1
        have hks := (hin _ hme).2.1
        have hky := (hin _ hme).2.2
        dsimp only at hk7 hks hky
        refine Gx.region ?_
        refine Gx.val rfl rfl rfl (val_move rfl rfl) ?_
        refine Gx.val rfl rfl rfl (val_move rfl rfl) ?_
        refine Gx.val rfl rfl rfl (val_move rfl rfl) ?_
        refine Gx.eff rfl rfl rfl (eff_callV (vs := [.int .i64 ((ka8 : Nat) : Int), .bool xv9]) (fs := []) (cs := [ptr b5 0]) rfl Tryd.fn13 rfl rfl (fun w H => count_any hk7 hvl (by omega) (H.at2 (k := 2) (k' := 0) rfl rfl))) ?_
        rintro _ l19 ⟨rfl, hl19⟩
        refine Gx.sepEq (l' := [Hp.rec_ b5 [.map (some b4)], Hp.map Tryd.prog 3 natL intV b4 (cntM vm ka8 xv9), Hp.iter Tryd.prog 3 natL boolV b2 r6 gm rs10, Hp.rec_ b1 [.int .u32 ((c.tr : Nat) : Int), .int .u64 ((c.li : Nat) : Int)]]) hl19 ?_
        refine Gx.done ?_
        refine Gx.thenN ?_
        refine Gx.seq ?_
        -- region 15, in whatever order
        refine Gx.ones 8 (Gx.norm (l' := [Hp.rec_ b5 [.map (some b4)], Hp.map Tryd.prog 3 natL intV b4 (cntM vm ka8 xv9), Hp.iter Tryd.prog 3 natL boolV b2 r6 gm rs10, Hp.rec_ b1 [.int .u32 ((c.tr : Nat) : Int), .int .u64 ((c.li : Nat) : Int)], 1, 1, 1, 1, 1, 1, 1, 1]) rfl ?_)
        obtain ⟨pp20x4, pp20x4e⟩ : ∃ p : Done → Hp, p = fun d => cond (dn d 5) (Hp.own FN 1 (dv d 5) (way ++ [ka8])) (cond (dn d 2) (Hp.own FN 1 (dv d 2) way) (1)) := ⟨_, rfl⟩
        obtain ⟨pp20x5, pp20x5e⟩ : ∃ p : Done → Hp, p = fun d => cond (dn d 5) (1) (cond (dn d 4) (Hp.rec_ (sB (dv d 4)) [.int .i64 ((ka8 : Nat) : Int)]) (1)) := ⟨_, rfl⟩
        obtain ⟨pp20x6, pp20x6e⟩ : ∃ p : Done → Hp, p = fun d => cond (dn d 14) (gotR c dp (way ++ [ka8]) (delS s ka8) xv9 (mB (dv d 13)) (pB (dv d 14))) (cond (dn d 13) (gotH c dp (way ++ [ka8]) (delS s ka8) xv9 (mB (dv d 13))) (1)) := ⟨_, rfl⟩
        obtain ⟨pp20x7, pp20x7e⟩ : ∃ p : Done → Hp, p = fun d => cond (dn d 2) (Hp.pure (IsS (dv d 2))) 1 := ⟨_, rfl⟩
        obtain ⟨pp20x8, pp20x8e⟩ : ∃ p : Done → Hp, p = fun d => cond (dn d 4) (Hp.pure (dv d 4 = .slice (some ⟨sB (dv d 4), 0, none⟩) 1 1)) 1 := ⟨_, rfl⟩
        obtain ⟨pp20x9, pp20x9e⟩ : ∃ p : Done → Hp, p = fun d => cond (dn d 5) (Hp.pure (IsS (dv d 5))) 1 := ⟨_, rfl⟩
        obtain ⟨pp20x10, pp20x10e⟩ : ∃ p : Done → Hp, p = fun d => cond (dn d 13) (Hp.pure (dv d 13 = .map (some (mB (dv d 13))))) 1 := ⟨_, rfl⟩
        obtain ⟨pp20x11, pp20x11e⟩ : ∃ p : Done → Hp, p = fun d => cond (dn d 14) (Hp.pure (dv d 14 = ptr (pB (dv d 14)) 0)) 1 := ⟨_, rfl⟩
        refine Gx.regionF [2, 4, 5, 13, 14] [0, 1, 3, 6, 7, 8, 9, 10, 11, 12] (fun ιi => cond (Nat.beq ιi 0) [Hp.rec_ b1 [.int .u32 ((c.tr : Nat) : Int), .int .u64 ((c.li : Nat) : Int)]] ([])) (fun d => [Hp.rec_ b5 [.map (some b4)], Hp.map Tryd.prog 3 natL intV b4 (cntM vm ka8 xv9), Hp.iter Tryd.prog 3 natL boolV b2 r6 gm rs10, Hp.rec_ b1 [.int .u32 ((c.tr : Nat) : Int), .int .u64 ((c.li : Nat) : Int)], pp20x4 d, pp20x5 d, pp20x6 d, pp20x7 d, pp20x8 d, pp20x9 d, pp20x10 d, pp20x11 d]) Tryd.mixed (by kernel_rfl) (by kernel_rfl) (by rw [pp20x4e]; rw [pp20x5e]; rw [pp20x6e]; rw [pp20x7e]; rw [pp20x8e]; rw [pp20x9e]; rw [pp20x10e]; rw [pp20x11e]; rfl) ?_ ?_
        · intro ιi d w hc hs H
          by_cases hn0 : ιi = 0
          · subst hn0
            exact H.only (k := 3) rfl rfl
          · refine Sat.listed (l := []) H.noneL ?_
            simp only [beq_no hn0, cond_false]
        refine Gp.val rfl rfl rfl rfl (Val.cast (val_loadA rfl Tryd.ty33 rfl rfl rfl (cells_rec (k := 0) rfl)) (v' := .agg #[.int .u32 ((c.tr : Nat) : Int), .int .u64 ((c.li : Nat) : Int)]) rfl) ?_
        refine Gp.val rfl rfl rfl rfl (val_move rfl rfl) ?_
        refine Gp.val rfl rfl rfl rfl (val_move rfl rfl) ?_
        refine Gp.val rfl rfl rfl rfl (val_move rfl rfl) ?_
        refine Gp.val rfl rfl rfl rfl (val_move rfl rfl) ?_
        refine Gp.val rfl rfl rfl rfl (val_shl (b := ka8) rfl rfl rfl rfl (by show ka8 ≤ 32; omega) (shl1 (by omega))) ?_
        refine Gp.val rfl rfl rfl rfl (val_andNot rfl rfl rfl (del32 hs128 (by omega))) ?_
        refine Gp.val rfl rfl rfl rfl (val_move rfl rfl) ?_
        refine Gp.val rfl rfl rfl rfl (val_sub rfl rfl rfl (r := ((dp : Nat) : Int)) (w64 (by omega) (by omega))) ?_
        refine Gp.val rfl rfl rfl rfl (val_move rfl rfl) ?_
        refine Gp.done (uniq_of (by kernel_rfl)) (by rfl) (by kernel_rfl) ⟨⟨_, rfl, ?_⟩, ⟨_, rfl, ?_⟩, ⟨_, rfl, ?_⟩, ⟨_, rfl, ?_⟩, ⟨_, rfl, ?_⟩, trivial⟩ ?_
        · intro d hc hdi hpre a w hf H
          change Sat _ _ (sep [Hp.rec_ b5 [.map (some b4)], Hp.map Tryd.prog 3 natL intV b4 (cntM vm ka8 xv9), Hp.iter Tryd.prog 3 natL boolV b2 r6 gm rs10, Hp.rec_ b1 [.int .u32 ((c.tr : Nat) : Int), .int .u64 ((c.li : Nat) : Int)], pp20x4 d, pp20x5 d, pp20x6 d, pp20x7 d, pp20x8 d, pp20x9 d, pp20x10 d, pp20x11 d]) at H
          have q2 := hdi
          have q5 : dn d 5 = false := hc.not 5 2 rfl (by kernel_rfl) q2
          have q13 : dn d 13 = false := hc.not 13 5 rfl (by kernel_rfl) q5
          have q14 : dn d 14 = false := hc.not 14 13 rfl (by kernel_rfl) q13
          have n4 : pp20x4 d = 1 := by rw [pp20x4e]; simp only [q2, q5, cond_true, cond_false]
          have n6 : pp20x6 d = 1 := by rw [pp20x6e]; simp only [q13, q14, cond_true, cond_false]
          have n7 : pp20x7 d = 1 := by rw [pp20x7e]; simp only [q2, cond_true, cond_false]
          have n9 : pp20x9 d = 1 := by rw [pp20x9e]; simp only [q5, cond_true, cond_false]
          have n10 : pp20x10 d = 1 := by rw [pp20x10e]; simp only [q13, cond_true, cond_false]
          have n11 : pp20x11 d = 1 := by rw [pp20x11e]; simp only [q14, cond_true, cond_false]
          rw [n4, n6, n7, n9, n10, n11] at H
          refine EffAt.mono (Eff.at_ hf.slots H (eff_callV1 (S := IsS) (p := fun v => Hp.own FN 1 v way) (vs := [wv]) rfl Tryd.fn14 rfl (fun w H => clone_any (hs.below H.below) h1w (by omega)))) ?_
          rintro cw21 w2 ⟨_, ⟨hicw21, rfl⟩, H2⟩
          have H2 := Sat.fillAt H2 (k := 4) rfl
          have H2 := (Sat.pureI hicw21 H2).fillAt (k := 7) rfl
          obtain ⟨d2, hd2⟩ : ∃ d2, d2 = upd d 2 (cw21) := ⟨_, rfl⟩
          have m2 : dn d2 2 = true := by rw [hd2]; rfl
          have m5 : dn d2 5 = false := by rw [hd2]; exact q5
          have m13 : dn d2 13 = false := by rw [hd2]; exact q13
          have m14 : dn d2 14 = false := by rw [hd2]; exact q14
          rw [← hd2]
          change Sat _ _ (sep [Hp.rec_ b5 [.map (some b4)], Hp.map Tryd.prog 3 natL intV b4 (cntM vm ka8 xv9), Hp.iter Tryd.prog 3 natL boolV b2 r6 gm rs10, Hp.rec_ b1 [.int .u32 ((c.tr : Nat) : Int), .int .u64 ((c.li : Nat) : Int)], pp20x4 d2, pp20x5 d2, pp20x6 d2, pp20x7 d2, pp20x8 d2, pp20x9 d2, pp20x10 d2, pp20x11 d2])
          have u4 := congrFun pp20x4e d2
          simp only [m2, m5, cond_true, cond_false] at u4
          have u5 : pp20x5 d2 = pp20x5 d := by rw [hd2, pp20x5e]; rfl
          have u6 := congrFun pp20x6e d2
          simp only [m13, m14, cond_true, cond_false] at u6
          have u7 := congrFun pp20x7e d2
          simp only [m2, cond_true, cond_false] at u7
          have u8 : pp20x8 d2 = pp20x8 d := by rw [hd2, pp20x8e]; rfl
          have u9 := congrFun pp20x9e d2
          simp only [m5, cond_true, cond_false] at u9
          have u10 := congrFun pp20x10e d2
          simp only [m13, cond_true, cond_false] at u10
          have u11 := congrFun pp20x11e d2
          simp only [m14, cond_true, cond_false] at u11
          rw [u4, u5, u6, u7, u8, u9, u10, u11]
          subst hd2
          exact H2
        · intro d hc hdi hpre a w hf H
          change Sat _ _ (sep [Hp.rec_ b5 [.map (some b4)], Hp.map Tryd.prog 3 natL intV b4 (cntM vm ka8 xv9), Hp.iter Tryd.prog 3 natL boolV b2 r6 gm rs10, Hp.rec_ b1 [.int .u32 ((c.tr : Nat) : Int), .int .u64 ((c.li : Nat) : Int)], pp20x4 d, pp20x5 d, pp20x6 d, pp20x7 d, pp20x8 d, pp20x9 d, pp20x10 d, pp20x11 d]) at H
          have q4 := hdi
          have q5 : dn d 5 = false := hc.not 5 4 rfl (by kernel_rfl) q4
          have q13 : dn d 13 = false := hc.not 13 5 rfl (by kernel_rfl) q5
          have q14 : dn d 14 = false := hc.not 14 13 rfl (by kernel_rfl) q13
          have n5 : pp20x5 d = 1 := by rw [pp20x5e]; simp only [q4, q5, cond_true, cond_false]
          have n6 : pp20x6 d = 1 := by rw [pp20x6e]; simp only [q13, q14, cond_true, cond_false]
          have n8 : pp20x8 d = 1 := by rw [pp20x8e]; simp only [q4, cond_true, cond_false]
          have n9 : pp20x9 d = 1 := by rw [pp20x9e]; simp only [q5, cond_true, cond_false]
          have n10 : pp20x10 d = 1 := by rw [pp20x10e]; simp only [q13, cond_true, cond_false]
          have n11 : pp20x11 d = 1 := by rw [pp20x11e]; simp only [q14, cond_true, cond_false]
          rw [n5, n6, n8, n9, n10, n11] at H
          refine EffAt.mono (Eff.at_ hf.slots H (eff_buildSlice rfl (qs := [(0, .int .i64 ((ka8 : Nat) : Int))]) rfl rfl (cs := #[.int .i64 ((ka8 : Nat) : Int)]) (vs := [.int .i64 ((ka8 : Nat) : Int)]) (E := 3) rfl (fun w => by first | (go_simp; done) | (go_simp; rfl)))) ?_
          rintro _ w2 ⟨_, ⟨b22, rfl, rfl⟩, H2⟩
          have H2 := Sat.fillAt H2 (k := 5) rfl
          have H2 := (Sat.pureI (p := (.slice (some ⟨b22, 0, none⟩) 1 1 : Value) = .slice (some ⟨b22, 0, none⟩) 1 1) rfl H2).fillAt (k := 8) rfl
          obtain ⟨d2, hd2⟩ : ∃ d2, d2 = upd d 4 (.slice (some ⟨b22, 0, none⟩) 1 1) := ⟨_, rfl⟩
          have m4 : dn d2 4 = true := by rw [hd2]; rfl
          have m5 : dn d2 5 = false := by rw [hd2]; exact q5
          have m13 : dn d2 13 = false := by rw [hd2]; exact q13
          have m14 : dn d2 14 = false := by rw [hd2]; exact q14
          rw [← hd2]
          change Sat _ _ (sep [Hp.rec_ b5 [.map (some b4)], Hp.map Tryd.prog 3 natL intV b4 (cntM vm ka8 xv9), Hp.iter Tryd.prog 3 natL boolV b2 r6 gm rs10, Hp.rec_ b1 [.int .u32 ((c.tr : Nat) : Int), .int .u64 ((c.li : Nat) : Int)], pp20x4 d2, pp20x5 d2, pp20x6 d2, pp20x7 d2, pp20x8 d2, pp20x9 d2, pp20x10 d2, pp20x11 d2])
          have u4 : pp20x4 d2 = pp20x4 d := by rw [hd2, pp20x4e]; rfl
          have u5 := congrFun pp20x5e d2
          simp only [m4, m5, cond_true, cond_false] at u5
          have u6 := congrFun pp20x6e d2
          simp only [m13, m14, cond_true, cond_false] at u6
          have u7 : pp20x7 d2 = pp20x7 d := by rw [hd2, pp20x7e]; rfl
          have u8 := congrFun pp20x8e d2
          simp only [m4, cond_true, cond_false] at u8
          have u9 := congrFun pp20x9e d2
          simp only [m5, cond_true, cond_false] at u9
          have u10 := congrFun pp20x10e d2
          simp only [m13, cond_true, cond_false] at u10
          have u11 := congrFun pp20x11e d2
          simp only [m14, cond_true, cond_false] at u11
          rw [u4, u5, u6, u7, u8, u9, u10, u11]
          subst hd2
          exact H2
        · intro d hc hdi hpre a w hf H
          change Sat _ _ (sep [Hp.rec_ b5 [.map (some b4)], Hp.map Tryd.prog 3 natL intV b4 (cntM vm ka8 xv9), Hp.iter Tryd.prog 3 natL boolV b2 r6 gm rs10, Hp.rec_ b1 [.int .u32 ((c.tr : Nat) : Int), .int .u64 ((c.li : Nat) : Int)], pp20x4 d, pp20x5 d, pp20x6 d, pp20x7 d, pp20x8 d, pp20x9 d, pp20x10 d, pp20x11 d]) at H
          have q2 : dn d 2 = true := hpre 2 (by kernel_rfl)
          have q4 : dn d 4 = true := hpre 4 (by kernel_rfl)
          have q2 : dn d 2 = true := hpre 2 (by kernel_rfl)
          have q5 := hdi
          have q13 : dn d 13 = false := hc.not 13 5 rfl (by kernel_rfl) q5
          have q14 : dn d 14 = false := hc.not 14 13 rfl (by kernel_rfl) q13
          have e2 : IsS (dv d 2) := H.factAt (k := 7) rfl (by rw [pp20x7e]; simp only [q2, cond_true])
          have e4 : dv d 4 = .slice (some ⟨sB (dv d 4), 0, none⟩) 1 1 := H.factAt (k := 8) rfl (by rw [pp20x8e]; simp only [q4, cond_true])
          have n4 : pp20x4 d = Hp.own FN 1 (dv d 2) way := by rw [pp20x4e]; simp only [q2, q5, cond_true, cond_false]
          have n5 : pp20x5 d = Hp.rec_ (sB (dv d 4)) [.int .i64 ((ka8 : Nat) : Int)] := by rw [pp20x5e]; simp only [q4, q5, cond_true, cond_false]
          have n6 : pp20x6 d = 1 := by rw [pp20x6e]; simp only [q13, q14, cond_true, cond_false]
          have n9 : pp20x9 d = 1 := by rw [pp20x9e]; simp only [q5, cond_true, cond_false]
          have n10 : pp20x10 d = 1 := by rw [pp20x10e]; simp only [q13, cond_true, cond_false]
          have n11 : pp20x11 d = 1 := by rw [pp20x11e]; simp only [q14, cond_true, cond_false]
          rw [n4, n5, n6, n9, n10, n11] at H
          have s2 := hf.add hf.slots 2 rfl (by kernel_rfl) rfl q2 (v := (dv d 2)) rfl
          have s4 := hf.add s2 4 rfl (by kernel_rfl) rfl q4 (v := .slice (some ⟨sB (dv d 4), 0, none⟩) 1 1) e4
          refine EffAt.mono (Eff.at_ s4 H (eff_pushP (r := ka8) rfl Tryd.eN FN_len FN_one rfl rfl (k := 5) rfl rfl (k' := 4) rfl (by omega) (by omega))) ?_
          rintro v23 w2 ⟨_, ⟨hiv23, rfl⟩, H2⟩
          have H2 := (Sat.pureI hiv23 H2).fillAt (k := 9) rfl
          obtain ⟨d2, hd2⟩ : ∃ d2, d2 = upd d 5 (v23) := ⟨_, rfl⟩
          have m5 : dn d2 5 = true := by rw [hd2]; rfl
          have m2 : dn d2 2 = true := by rw [hd2]; exact q2
          have m4 : dn d2 4 = true := by rw [hd2]; exact q4
          have m13 : dn d2 13 = false := by rw [hd2]; exact q13
          have m14 : dn d2 14 = false := by rw [hd2]; exact q14
          rw [← hd2]
          change Sat _ _ (sep [Hp.rec_ b5 [.map (some b4)], Hp.map Tryd.prog 3 natL intV b4 (cntM vm ka8 xv9), Hp.iter Tryd.prog 3 natL boolV b2 r6 gm rs10, Hp.rec_ b1 [.int .u32 ((c.tr : Nat) : Int), .int .u64 ((c.li : Nat) : Int)], pp20x4 d2, pp20x5 d2, pp20x6 d2, pp20x7 d2, pp20x8 d2, pp20x9 d2, pp20x10 d2, pp20x11 d2])
          have u4 := congrFun pp20x4e d2
          simp only [m2, m5, cond_true, cond_false] at u4
          have u5 := congrFun pp20x5e d2
          simp only [m4, m5, cond_true, cond_false] at u5
          have u6 := congrFun pp20x6e d2
          simp only [m13, m14, cond_true, cond_false] at u6
          have u7 : pp20x7 d2 = pp20x7 d := by rw [hd2, pp20x7e]; rfl
          have u8 : pp20x8 d2 = pp20x8 d := by rw [hd2, pp20x8e]; rfl
          have u9 := congrFun pp20x9e d2
          simp only [m5, cond_true, cond_false] at u9
          have u10 := congrFun pp20x10e d2
          simp only [m13, cond_true, cond_false] at u10
          have u11 := congrFun pp20x11e d2
          simp only [m14, cond_true, cond_false] at u11
          rw [u4, u5, u6, u7, u8, u9, u10, u11]
          subst hd2
          exact H2
        · intro d hc hdi hpre a w hf H
          change Sat _ _ (sep [Hp.rec_ b5 [.map (some b4)], Hp.map Tryd.prog 3 natL intV b4 (cntM vm ka8 xv9), Hp.iter Tryd.prog 3 natL boolV b2 r6 gm rs10, Hp.rec_ b1 [.int .u32 ((c.tr : Nat) : Int), .int .u64 ((c.li : Nat) : Int)], pp20x4 d, pp20x5 d, pp20x6 d, pp20x7 d, pp20x8 d, pp20x9 d, pp20x10 d, pp20x11 d]) at H
          have q5 : dn d 5 = true := hpre 5 (by kernel_rfl)
          have q5 : dn d 5 = true := hpre 5 (by kernel_rfl)
          have q2 : dn d 2 = true := hc.pre 5 2 rfl (by kernel_rfl) q5
          have q4 : dn d 4 = true := hc.pre 5 4 rfl (by kernel_rfl) q5
          have q13 := hdi
          have q14 : dn d 14 = false := hc.not 14 13 rfl (by kernel_rfl) q13
          have e5 : IsS (dv d 5) := H.factAt (k := 9) rfl (by rw [pp20x9e]; simp only [q5, cond_true])
          have e2 : IsS (dv d 2) := H.factAt (k := 7) rfl (by rw [pp20x7e]; simp only [q2, cond_true])
          have e4 : dv d 4 = .slice (some ⟨sB (dv d 4), 0, none⟩) 1 1 := H.factAt (k := 8) rfl (by rw [pp20x8e]; simp only [q4, cond_true])
          have n4 : pp20x4 d = Hp.own FN 1 (dv d 5) (way ++ [ka8]) := by rw [pp20x4e]; simp only [q2, q5, cond_true, cond_false]
          have n5 : pp20x5 d = 1 := by rw [pp20x5e]; simp only [q4, q5, cond_true, cond_false]
          have n6 : pp20x6 d = 1 := by rw [pp20x6e]; simp only [q13, q14, cond_true, cond_false]
          have n10 : pp20x10 d = 1 := by rw [pp20x10e]; simp only [q13, cond_true, cond_false]
          have n11 : pp20x11 d = 1 := by rw [pp20x11e]; simp only [q14, cond_true, cond_false]
          rw [n4, n5, n6, n10, n11] at H
          have s5 := hf.add hf.slots 5 rfl (by kernel_rfl) rfl q5 (v := (dv d 5)) rfl
          refine EffAt.mono (Eff.at_ s5 H (eff_callB1 (mkv := fun b => .map (some b)) (p := gotH c dp (way ++ [ka8]) (delS s ka8) xv9) (vs := [.agg #[.int .u32 ((c.tr : Nat) : Int), .int .u64 ((c.li : Nat) : Int)], (dv d 5), .int .u32 ((delS s ka8 : Nat) : Int), .int .i64 ((dp : Nat) : Int), .bool xv9]) rfl Tryd.fn9 rfl (fun w H => ih (hT.below H.below) ((H.at_ (k := 4) rfl).sls (by omega)) (by omega) (by omega) (fun i hi => by rcases List.mem_append.1 hi with q | q; (exact h6 i q); (rw [List.mem_singleton] at q; rw [q]; exact hk7)) (delS_lt _ _)))) ?_
          rintro _ w2 ⟨_, ⟨b24, rfl, rfl⟩, H2⟩
          have H2 := Sat.fillAt H2 (k := 6) rfl
          have H2 := (Sat.pureI (p := (.map (some b24) : Value) = .map (some b24)) rfl H2).fillAt (k := 10) rfl
          obtain ⟨d2, hd2⟩ : ∃ d2, d2 = upd d 13 (.map (some b24)) := ⟨_, rfl⟩
          have m13 : dn d2 13 = true := by rw [hd2]; rfl
          have m5 : dn d2 5 = true := by rw [hd2]; exact q5
          have m2 : dn d2 2 = true := by rw [hd2]; exact q2
          have m4 : dn d2 4 = true := by rw [hd2]; exact q4
          have m14 : dn d2 14 = false := by rw [hd2]; exact q14
          rw [← hd2]
          change Sat _ _ (sep [Hp.rec_ b5 [.map (some b4)], Hp.map Tryd.prog 3 natL intV b4 (cntM vm ka8 xv9), Hp.iter Tryd.prog 3 natL boolV b2 r6 gm rs10, Hp.rec_ b1 [.int .u32 ((c.tr : Nat) : Int), .int .u64 ((c.li : Nat) : Int)], pp20x4 d2, pp20x5 d2, pp20x6 d2, pp20x7 d2, pp20x8 d2, pp20x9 d2, pp20x10 d2, pp20x11 d2])
          have u4 := congrFun pp20x4e d2
          simp only [m2, m5, cond_true, cond_false] at u4
          have u5 := congrFun pp20x5e d2
          simp only [m4, m5, cond_true, cond_false] at u5
          have u6 := congrFun pp20x6e d2
          simp only [m13, m14, cond_true, cond_false] at u6
          have u7 : pp20x7 d2 = pp20x7 d := by rw [hd2, pp20x7e]; rfl
          have u8 : pp20x8 d2 = pp20x8 d := by rw [hd2, pp20x8e]; rfl
          have u9 : pp20x9 d2 = pp20x9 d := by rw [hd2, pp20x9e]; rfl
          have u10 := congrFun pp20x10e d2
          simp only [m13, cond_true, cond_false] at u10
          have u11 := congrFun pp20x11e d2
          simp only [m14, cond_true, cond_false] at u11
          rw [u4, u5, u6, u7, u8, u9, u10, u11]
          subst hd2
          exact H2
        · intro d hc hdi hpre a w hf H
          change Sat _ _ (sep [Hp.rec_ b5 [.map (some b4)], Hp.map Tryd.prog 3 natL intV b4 (cntM vm ka8 xv9), Hp.iter Tryd.prog 3 natL boolV b2 r6 gm rs10, Hp.rec_ b1 [.int .u32 ((c.tr : Nat) : Int), .int .u64 ((c.li : Nat) : Int)], pp20x4 d, pp20x5 d, pp20x6 d, pp20x7 d, pp20x8 d, pp20x9 d, pp20x10 d, pp20x11 d]) at H
          have q13 : dn d 13 = true := hpre 13 (by kernel_rfl)
          have q5 : dn d 5 = true := hc.pre 13 5 rfl (by kernel_rfl) q13
          have q2 : dn d 2 = true := hc.pre 5 2 rfl (by kernel_rfl) q5
          have q4 : dn d 4 = true := hc.pre 5 4 rfl (by kernel_rfl) q5
          have q14 := hdi
          have e13 : dv d 13 = .map (some (mB (dv d 13))) := H.factAt (k := 10) rfl (by rw [pp20x10e]; simp only [q13, cond_true])
          have e5 : IsS (dv d 5) := H.factAt (k := 9) rfl (by rw [pp20x9e]; simp only [q5, cond_true])
          have e2 : IsS (dv d 2) := H.factAt (k := 7) rfl (by rw [pp20x7e]; simp only [q2, cond_true])
          have e4 : dv d 4 = .slice (some ⟨sB (dv d 4), 0, none⟩) 1 1 := H.factAt (k := 8) rfl (by rw [pp20x8e]; simp only [q4, cond_true])
          have n4 : pp20x4 d = Hp.own FN 1 (dv d 5) (way ++ [ka8]) := by rw [pp20x4e]; simp only [q2, q5, cond_true, cond_false]
          have n5 : pp20x5 d = 1 := by rw [pp20x5e]; simp only [q4, q5, cond_true, cond_false]
          have n6 : pp20x6 d = gotH c dp (way ++ [ka8]) (delS s ka8) xv9 (mB (dv d 13)) := by rw [pp20x6e]; simp only [q13, q14, cond_true, cond_false]
          have n11 : pp20x11 d = 1 := by rw [pp20x11e]; simp only [q14, cond_true, cond_false]
          rw [n4, n5, n6, n11] at H
          have s13 := hf.add hf.slots 13 rfl (by kernel_rfl) rfl q13 (v := .map (some (mB (dv d 13)))) e13
          refine EffAt.mono (Eff.at_ s13 H (eff_rangeH rfl Tryd.underlying34 rfl (k := 6) rfl)) ?_
          rintro _ w2 ⟨_, ⟨r25, rfl, rfl⟩, H2⟩
          have H2 := (Sat.pureI (p := (ptr r25 0 : Value) = ptr r25 0) rfl H2).fillAt (k := 11) rfl
          obtain ⟨d2, hd2⟩ : ∃ d2, d2 = upd d 14 (ptr r25 0) := ⟨_, rfl⟩
          have m14 : dn d2 14 = true := by rw [hd2]; rfl
          have m13 : dn d2 13 = true := by rw [hd2]; exact q13
          have m5 : dn d2 5 = true := by rw [hd2]; exact q5
          have m2 : dn d2 2 = true := by rw [hd2]; exact q2
          have m4 : dn d2 4 = true := by rw [hd2]; exact q4
          rw [← hd2]
          change Sat _ _ (sep [Hp.rec_ b5 [.map (some b4)], Hp.map Tryd.prog 3 natL intV b4 (cntM vm ka8 xv9), Hp.iter Tryd.prog 3 natL boolV b2 r6 gm rs10, Hp.rec_ b1 [.int .u32 ((c.tr : Nat) : Int), .int .u64 ((c.li : Nat) : Int)], pp20x4 d2, pp20x5 d2, pp20x6 d2, pp20x7 d2, pp20x8 d2, pp20x9 d2, pp20x10 d2, pp20x11 d2])
          have u4 := congrFun pp20x4e d2
          simp only [m2, m5, cond_true, cond_false] at u4
          have u5 := congrFun pp20x5e d2
          simp only [m4, m5, cond_true, cond_false] at u5
          have u6 := congrFun pp20x6e d2
          simp only [m13, m14, cond_true, cond_false] at u6
          have u7 : pp20x7 d2 = pp20x7 d := by rw [hd2, pp20x7e]; rfl
          have u8 : pp20x8 d2 = pp20x8 d := by rw [hd2, pp20x8e]; rfl
          have u9 : pp20x9 d2 = pp20x9 d := by rw [hd2, pp20x9e]; rfl
          have u10 : pp20x10 d2 = pp20x10 d := by rw [hd2, pp20x10e]; rfl
          have u11 := congrFun pp20x11e d2
          simp only [m14, cond_true, cond_false] at u11
          rw [u4, u5, u6, u7, u8, u9, u10, u11]
          subst hd2
          exact H2
        · intro d hc hall a hf w H
          change Sat _ _ (sep [Hp.rec_ b5 [.map (some b4)], Hp.map Tryd.prog 3 natL intV b4 (cntM vm ka8 xv9), Hp.iter Tryd.prog 3 natL boolV b2 r6 gm rs10, Hp.rec_ b1 [.int .u32 ((c.tr : Nat) : Int), .int .u64 ((c.li : Nat) : Int)], pp20x4 d, pp20x5 d, pp20x6 d, pp20x7 d, pp20x8 d, pp20x9 d, pp20x10 d, pp20x11 d]) at H
          have q2 : dn d 2 = true := hall 2 rfl
          have q4 : dn d 4 = true := hall 4 rfl
          have q5 : dn d 5 = true := hall 5 rfl
          have q13 : dn d 13 = true := hall 13 rfl
          have q14 : dn d 14 = true := hall 14 rfl
          have e2 : IsS (dv d 2) := H.factAt (k := 7) rfl (by rw [pp20x7e]; simp only [q2, cond_true])
          have e4 : dv d 4 = .slice (some ⟨sB (dv d 4), 0, none⟩) 1 1 := H.factAt (k := 8) rfl (by rw [pp20x8e]; simp only [q4, cond_true])
          have e5 : IsS (dv d 5) := H.factAt (k := 9) rfl (by rw [pp20x9e]; simp only [q5, cond_true])
          have e13 : dv d 13 = .map (some (mB (dv d 13))) := H.factAt (k := 10) rfl (by rw [pp20x10e]; simp only [q13, cond_true])
          have e14 : dv d 14 = ptr (pB (dv d 14)) 0 := H.factAt (k := 11) rfl (by rw [pp20x11e]; simp only [q14, cond_true])
          have n4 : pp20x4 d = Hp.own FN 1 (dv d 5) (way ++ [ka8]) := by rw [pp20x4e]; simp only [q2, q5, cond_true, cond_false]
          have n5 : pp20x5 d = 1 := by rw [pp20x5e]; simp only [q4, q5, cond_true, cond_false]
          have n6 : pp20x6 d = gotR c dp (way ++ [ka8]) (delS s ka8) xv9 (mB (dv d 13)) (pB (dv d 14)) := by rw [pp20x6e]; simp only [q13, q14, cond_true, cond_false]
          have n7 : pp20x7 d = Hp.pure (IsS (dv d 2)) := by rw [pp20x7e]; simp only [q2, cond_true]
          have n8 : pp20x8 d = Hp.pure (dv d 4 = .slice (some ⟨sB (dv d 4), 0, none⟩) 1 1) := by rw [pp20x8e]; simp only [q4, cond_true]
          have n9 : pp20x9 d = Hp.pure (IsS (dv d 5)) := by rw [pp20x9e]; simp only [q5, cond_true]
          have n10 : pp20x10 d = Hp.pure (dv d 13 = .map (some (mB (dv d 13)))) := by rw [pp20x10e]; simp only [q13, cond_true]
          have n11 : pp20x11 d = Hp.pure (dv d 14 = ptr (pB (dv d 14)) 0) := by rw [pp20x11e]; simp only [q14, cond_true]
          rw [n4, n5, n6, n7, n8, n9, n10, n11] at H
          clear n4 n5 n6 n7 n8 n9 n10 n11
          obtain ⟨z26, hz26⟩ : ∃ b, b = dv d 2 := ⟨_, rfl⟩
          rw [← hz26] at e2  H
          have s2 := hf.add hf.slots 2 rfl rfl rfl q2 (v := z26) hz26.symm
          obtain ⟨z27, hz27⟩ : ∃ b, b = sB (dv d 4) := ⟨_, rfl⟩
          rw [← hz27] at e4  H
          have s4 := hf.add s2 4 rfl rfl rfl q4 (v := .slice (some ⟨z27, 0, none⟩) 1 1) e4
          obtain ⟨z28, hz28⟩ : ∃ b, b = dv d 5 := ⟨_, rfl⟩
          rw [← hz28] at e5  H
          have s5 := hf.add s4 5 rfl rfl rfl q5 (v := z28) hz28.symm
          obtain ⟨z29, hz29⟩ : ∃ b, b = mB (dv d 13) := ⟨_, rfl⟩
          rw [← hz29] at e13  H
          have s13 := hf.add s5 13 rfl rfl rfl q13 (v := .map (some z29)) e13
          obtain ⟨z30, hz30⟩ : ∃ b, b = pB (dv d 14) := ⟨_, rfl⟩
          rw [← hz30] at e14  H
          have s14 := hf.add s13 14 rfl rfl rfl q14 (v := ptr z30 0) e14
          refine Gx.use s14 H ?_
          refine Gx.drop 11 rfl ?_
          refine Gx.drop 10 rfl ?_
          refine Gx.drop 9 rfl ?_
          refine Gx.drop 8 rfl ?_
          refine Gx.drop 7 rfl ?_
          refine Gx.drop 5 rfl ?_
          refine Gx.norm (l' := [Hp.rec_ b5 [.map (some b4)], Hp.map Tryd.prog 3 natL intV b4 (cntM vm ka8 xv9), Hp.iter Tryd.prog 3 natL boolV b2 r6 gm rs10, Hp.rec_ b1 [.int .u32 ((c.tr : Nat) : Int), .int .u64 ((c.li : Nat) : Int)], Hp.own FN 1 z28 (way ++ [ka8]), gotR c dp (way ++ [ka8]) (delS s ka8) xv9 z29 z30]) rfl ?_
          refine Gx.thenN ?_
          refine Gx.block ?_
          refine Gx.exists_ (l' := fun q9 : {ms : Mb // GOT c dp (way ++ [ka8]) (delS s ka8) xv9 ms} => [Hp.rec_ b5 [.map (some b4)], Hp.map Tryd.prog 3 natL intV b4 (cntM vm ka8 xv9), Hp.iter Tryd.prog 3 natL boolV b2 r6 gm rs10, Hp.rec_ b1 [.int .u32 ((c.tr : Nat) : Int), .int .u64 ((c.li : Nat) : Int)], Hp.own FN 1 z28 (way ++ [ka8]), Hp.iter Tryd.prog 3 natL boolV z29 z30 q9.1 q9.1]) (fun w H => by obtain ⟨ms, h, H1⟩ := gotR.open_ (H.at_ (k := 5) rfl); exact ⟨⟨ms, h⟩, Sat.back (k := 5) rfl rfl H1⟩) ?_
          rintro ⟨ms2, hg2⟩
          refine Gx.drop 4 rfl ?_
          refine Gx.front 3 rfl ?_
          refine Gx.front 3 rfl ?_
          refine Gx.front 2 rfl ?_
          refine Gx.front 4 rfl ?_
          refine Gx.front 4 rfl ?_
          refine Gx.loop (ι := Mb × Mi) (fun ξ => (∀ p ∈ ξ.1, p.1 < 7 ∧ s.testBit p.1 = true) ∧ (ξ.1.length ≤ 7) ∧ (∀ j, getI ξ.2 j = getI vm j + contr c dp way s x ka8 j - sumK ξ.1 j) ∧ (∀ j ∈ ξ.2.map (·.1), s.testBit j = true) ∧ (ξ.2.Pairwise (fun p q => p.1 ≠ q.1)) ∧ (∀ j, (getM vm j).isSome = true ∨ j = ka8 → (getM ξ.2 j).isSome = true)) (fun ξ => [(0, .agg #[.int .u32 ((c.tr : Nat) : Int), .int .u64 ((c.li : Nat) : Int)]), (1, wv), (2, .int .u32 ((s : Nat) : Int)), (3, .int .i64 ((dp + 1 : Nat) : Int)), (4, .bool x), (5, ptr b1 0), (11, .map (some b2)), (14, ptr b5 0), (15, .func (.func 13) #[] #[ptr b5 0]), (46, ptr r6 0), (16, .int .i64 ((ka8 : Nat) : Int)), (17, .bool xv9), (70, ptr z30 0)]) (fun ξ => [Hp.map Tryd.prog 3 natL intV b4 ξ.2, Hp.iter Tryd.prog 3 natL boolV z29 z30 ms2 ξ.1, Hp.rec_ b5 [.map (some b4)], Hp.iter Tryd.prog 3 natL boolV b2 r6 gm rs10, Hp.rec_ b1 [.int .u32 ((c.tr : Nat) : Int), .int .u64 ((c.li : Nat) : Int)]]) (fun ξ => ξ.1.length) (ms2, (cntM vm ka8 xv9)) ⟨got_in2 hs128 hg2, keys_len hg2.nd fun p hp => (got_in2 hs128 hg2 p hp).1, c2_start hs128 hky hg2, cnt_key hvk hks, putM_nodup _ _ hvn, fun j hj => cnt_some hj⟩ ((.cons rfl (.cons rfl (.cons rfl (.cons rfl (.cons rfl (.cons rfl (.cons rfl (.cons rfl (.cons rfl (.cons rfl (.cons rfl (.cons rfl (.cons rfl .nil)))))))))))))) rfl ?_
          rintro ⟨left2, vn⟩ ⟨hin2, hl2, hv2, hvk2, hvn2, hsm⟩
          dsimp only at hin2 hl2 hv2 hvk2 hvn2 hsm
          refine Gx.know (m' := [(0, .agg #[.int .u32 ((c.tr : Nat) : Int), .int .u64 ((c.li : Nat) : Int)]), (1, wv), (2, .int .u32 ((s : Nat) : Int)), (3, .int .i64 ((dp + 1 : Nat) : Int)), (4, .bool x), (5, ptr b1 0), (11, .map (some b2)), (14, ptr b5 0), (15, .func (.func 13) #[] #[ptr b5 0]), (46, ptr r6 0), (16, .int .i64 ((ka8 : Nat) : Int)), (17, .bool xv9), (70, ptr z30 0)]) (.cons rfl (.cons rfl (.cons rfl (.cons rfl (.cons rfl (.cons rfl (.cons rfl (.cons rfl (.cons rfl (.cons rfl (.cons rfl (.cons rfl (.cons rfl .nil))))))))))))) (Gx.norm (l' := [Hp.map Tryd.prog 3 natL intV b4 vn, Hp.iter Tryd.prog 3 natL boolV z29 z30 ms2 left2, Hp.rec_ b5 [.map (some b4)], Hp.iter Tryd.prog 3 natL boolV b2 r6 gm rs10, Hp.rec_ b1 [.int .u32 ((c.tr : Nat) : Int), .int .u64 ((c.li : Nat) : Int)]]) rfl ?_)
          have hvl2 := keys_len hvn2 (key_lt hs128 hvk2)
          have hvb2 : ∀ j, -100 ≤ getI vn j ∧ getI vn j ≤ 100 := fun j => by have e1 := hv2 j; have e2 := hvb j; have e3 := contr_bd c dp way s x ka8 j; have e4 := sumK_bd left2 j; omega
          refine Gx.seq ?_
          refine Gx.region ?_
          refine Gx.eff rfl rfl rfl (eff_next (kf := natV) rfl Tryd.kN (fun p hp => by have := hin2 p hp; omega) rfl (k := 1) rfl) ?_
          rintro _ _ (⟨hl31, rfl, rfl⟩ | ⟨ka32, xv33, rs34, hp35, rfl, rfl⟩)
          · refine Gx.norm (l' := [Hp.map Tryd.prog 3 natL intV b4 vn, Hp.map Tryd.prog 3 natL boolV z29 ms2, Hp.rec_ b5 [.map (some b4)], Hp.iter Tryd.prog 3 natL boolV b2 r6 gm rs10, Hp.rec_ b1 [.int .u32 ((c.tr : Nat) : Int), .int .u64 ((c.li : Nat) : Int)]]) rfl ?_
            refine Gx.val rfl rfl rfl (val_extract rfl rfl rfl) ?_
            refine Gx.done ?_
            refine Gx.thenN ?_
            refine Gx.seq ?_
            refine Gx.f rfl ?_
            refine Gx.exit ?_
            refine Gx.thenE ?_
            refine Gx.thenE ?_
            refine Gx.blkE ?_
            refine Gx.blkN ?_
            refine Gx.thenN ?_
            refine Gx.drop 1 rfl ?_
            refine Gx.front 3 rfl ?_
            refine Gx.front 2 rfl ?_
            refine Gx.front 3 rfl ?_
            refine Gx.front 3 rfl ?_
            exact Gx.round (rs10, vn) ⟨fun p hq => hin p (hp11.mem_iff.2 (List.mem_cons_of_mem _ hq)), fun j => by have e1 := hv2 j; rw [show sumK left2 j = 0 from by rw [hl31]; rfl, hv j, sumC_perm c dp way s x hp11 j] at e1; dsimp only at e1 ⊢; omega, by have e9 := hp11.length_eq; simp only [List.length_cons] at e9; dsimp only; omega, hvk2, hvn2, fun j hj => by
                  rcases hxall j hj with ⟨p, hp1, hp2⟩ | h
                  · rcases List.mem_cons.1 (hp11.mem_iff.1 hp1) with q | q
                    · rw [q] at hp2; exact .inr (hsm j (.inr hp2.symm))
                    · exact .inl ⟨p, q, hp2⟩
                  · exact .inr (hsm j (.inl h))⟩ (by have e9 := hp11.length_eq; simp only [List.length_cons] at e9; dsimp only at e9 ⊢; omega) ((.cons rfl (.cons rfl (.cons rfl (.cons rfl (.cons rfl (.cons rfl (.cons rfl (.cons rfl (.cons rfl (.cons rfl .nil))))))))))) rfl
          · refine Gx.norm (l' := [Hp.map Tryd.prog 3 natL intV b4 vn, Hp.iterE Tryd.prog 3 natL boolV natV z29 z30 ms2 rs34 ka32 xv33, Hp.rec_ b5 [.map (some b4)], Hp.iter Tryd.prog 3 natL boolV b2 r6 gm rs10, Hp.rec_ b1 [.int .u32 ((c.tr : Nat) : Int), .int .u64 ((c.li : Nat) : Int)]]) rfl ?_
            refine Gx.val rfl rfl rfl (val_extract rfl rfl rfl) ?_
            refine Gx.done ?_
            refine Gx.thenN ?_
            refine Gx.seq ?_
            refine Gx.t rfl ?_
            refine Gx.skip ?_
            refine Gx.thenN ?_
            refine Gx.block ?_
            refine Gx.seq ?_
            refine Gx.region ?_
            refine Gx.eff rfl rfl rfl (eff_entry rfl rfl (k := 1) rfl) ?_
            rintro _ _ ⟨rfl, rfl⟩
            refine Gx.norm (l' := [Hp.map Tryd.prog 3 natL intV b4 vn, Hp.iter Tryd.prog 3 natL boolV z29 z30 ms2 rs34, Hp.rec_ b5 [.map (some b4)], Hp.iter Tryd.prog 3 natL boolV b2 r6 gm rs10, Hp.rec_ b1 [.int .u32 ((c.tr : Nat) : Int), .int .u64 ((c.li : Nat) : Int)]]) rfl ?_
            refine Gx.val rfl rfl rfl (val_extract rfl rfl rfl) ?_
            refine Gx.val rfl rfl rfl (val_extract rfl rfl rfl) ?_
            refine Gx.val rfl rfl rfl (val_assign rfl rfl) ?_
            refine Gx.val rfl rfl rfl (val_assign rfl rfl) ?_
            refine Gx.done ?_
            refine Gx.thenN ?_
            have hm2 := hin2 _ (hp35.mem_iff.2 (List.mem_cons_self ..))
            dsimp only at hm2
            have hbb := hvb2 ka32
            refine Gx.region ?_
            refine Gx.val rfl rfl rfl (val_move rfl rfl) ?_
            refine Gx.val rfl rfl rfl (val_move rfl rfl) ?_
            refine Gx.val rfl rfl rfl (val_move rfl rfl) ?_
            refine Gx.eff rfl rfl rfl (eff_callV (vs := [.int .i64 ((ka32 : Nat) : Int), .bool xv33]) (fs := []) (cs := [ptr b5 0]) rfl Tryd.fn13 rfl rfl (fun w H => count_any hm2.1 hvl2 (by omega) (H.at2 (k := 2) (k' := 0) rfl rfl))) ?_
            rintro _ l36 ⟨rfl, hl36⟩
            refine Gx.sepEq (l' := [Hp.rec_ b5 [.map (some b4)], Hp.map Tryd.prog 3 natL intV b4 (cntM vn ka32 xv33), Hp.iter Tryd.prog 3 natL boolV z29 z30 ms2 rs34, Hp.iter Tryd.prog 3 natL boolV b2 r6 gm rs10, Hp.rec_ b1 [.int .u32 ((c.tr : Nat) : Int), .int .u64 ((c.li : Nat) : Int)]]) hl36 ?_
            refine Gx.done ?_
            refine Gx.blkN ?_
            refine Gx.thenN ?_
            refine Gx.front 4 rfl ?_
            refine Gx.front 4 rfl ?_
            refine Gx.front 2 rfl ?_
            refine Gx.front 4 rfl ?_
            refine Gx.front 4 rfl ?_
            exact Gx.round (rs34, (cntM vn ka32 xv33)) ⟨fun p hq => hin2 p (hp35.mem_iff.2 (List.mem_cons_of_mem _ hq)), by have e9 := hp35.length_eq; simp only [List.length_cons] at e9; dsimp only; omega, c2_step hv2 hp35, cnt_key hvk2 (hin2 _ (hp35.mem_iff.2 (List.mem_cons_self ..))).2, putM_nodup _ _ hvn2, fun j hj => cnt_some (.inl (hsm j hj))⟩ (by have e9 := hp35.length_eq; simp only [List.length_cons] at e9; dsimp only at e9 ⊢; omega) ((.cons rfl (.cons rfl (.cons rfl (.cons rfl (.cons rfl (.cons rfl (.cons rfl (.cons rfl (.cons rfl (.cons rfl (.cons rfl (.cons rfl (.cons rfl .nil)))))))))))))) rfl

end Go.Proofs.YtcblkjjkpffjhaaDoor
