/- QuorumTwice, QuorumSame, QuorumBerge. The walks. No condition. -/
import Derived.Test.YtpjkpnfelpfhaaaB1
namespace Go.Proofs.Ytpjkpnfelpfhaaa
open Go.RowKit
set_option linter.unusedVariables false
set_option linter.unusedSimpArgs false
set_option maxRecDepth 100000

theorem IsLeast.anti {q ls : List Nat} (h : IsLeast q ls) {a b : Nat} (ha : a ∈ ls) (hb : b ∈ ls) (hne : a ≠ b) : ¬ a &&& b = a := fun e => by
  have := ((h.mem b).1 hb).2 a ((h.mem a).1 ha).1
  exact ssub_no.1 this ⟨hne, e⟩
theorem IsLeast.self {q ls : List Nat} (h : IsLeast q ls) : IsLeast ls ls := ⟨h.up, fun a => ⟨fun ha => ⟨ha, fun b hb => ssub_no.2 fun ⟨h1, h2⟩ => h.anti hb ha h1 h2⟩, fun ha => ha.1⟩⟩
theorem up_ne {l : List Nat} (h : l.Pairwise (· < ·)) {i j a b : Nat} (ha : l[i]? = some a) (hb : l[j]? = some b) (hij : i ≠ j) : a ≠ b := fun e => by
  subst e
  obtain ⟨l1, e1⟩ := List.getElem?_eq_some_iff.1 ha
  obtain ⟨l2, e2⟩ := List.getElem?_eq_some_iff.1 hb
  rcases Nat.lt_or_gt_of_ne hij with q | q
  · have := List.pairwise_iff_getElem.1 h i j l1 l2 q; omega
  · have := List.pairwise_iff_getElem.1 h j i l2 l1 q; omega
/-- what meets each of what meets each of some has one of these in it -/
theorem dual {q bl : List Nat} {n : Nat} (hq : ∀ a ∈ q, a < 2 ^ n) (hb : IsBlk q bl) (y : Nat) : Hit bl y ↔ ∃ a ∈ q, a &&& y = a := by
  constructor
  · intro h
    refine Classical.byContradiction fun hno => ?_
    have hc : Hit q ((2 ^ n - 1) ^^^ ((2 ^ n - 1) &&& y)) := fun a ha => by
      have h1 : ¬ a &&& y = a := fun e => hno ⟨a, ha, e⟩
      rw [in_iff] at h1
      obtain ⟨i, hi⟩ := Classical.not_forall.1 h1
      obtain ⟨hi1, hi2⟩ := Classical.not_imp.1 hi
      refine meet_iff.2 ⟨i, hi1, ?_⟩
      rw [diff_bit, Nat.testBit_two_pow_sub_one]
      have : i < n := Classical.byContradiction fun hn => by
        have := Nat.testBit_lt_two_pow (Nat.lt_of_lt_of_le (hq a ha) (show 2 ^ n ≤ 2 ^ i from Nat.pow_le_pow_right (by decide) (by omega)))
        rw [this] at hi1; cases hi1
      rw [decide_eq_true this]
      simpa using hi2
    obtain ⟨b, hbm, hbc⟩ := hb.below hc
    obtain ⟨i, h1, h2⟩ := meet_iff.1 (h b hbm)
    have := in_iff.1 hbc i h1
    rw [diff_bit, h2] at this
    simp at this
  · rintro ⟨a, ha, hay⟩ b hbm
    obtain ⟨i, h1, h2⟩ := meet_iff.1 (((hb.mem b).1 hbm).1 a ha)
    exact meet_iff.2 ⟨i, h2, in_iff.1 hay i h1⟩
theorem berge {q bl again ls : List Nat} {n : Nat} (hq : ∀ a ∈ q, a < 2 ^ n) (hb : IsBlk q bl) (ha : IsBlk bl again) (hl : IsLeast q ls) : again = ls := up_uniq ha.up hl.up fun x => by
  rw [ha.mem, hl.mem, dual hq hb]
  constructor
  · rintro ⟨⟨a, h1, h2⟩, h3⟩
    have e : a = x := Classical.byContradiction fun e => h3 a (ssub_iff.2 ⟨e, h2⟩) ((dual hq hb a).2 ⟨a, h1, Nat.and_self a⟩)
    subst e
    refine ⟨h1, fun c hc => ?_⟩
    cases e : ssub c a with
    | false => rfl
    | true => exact absurd ((dual hq hb c).2 ⟨c, hc, Nat.and_self c⟩) (h3 c e)
  · rintro ⟨h1, h2⟩
    refine ⟨⟨x, h1, Nat.and_self x⟩, fun c hc hh => ?_⟩
    obtain ⟨a, h3, h4⟩ := (dual hq hb c).1 hh
    obtain ⟨g1, g2⟩ := ssub_iff.1 hc
    refine ssub_no.1 (h2 a h3) ⟨fun e => ?_, in_trans h4 g2⟩
    subst e
    exact g1 (in_eq g2 h4)
theorem twice_bad {W : World} {n : Int} {qv : Value} {xs : List Nat} (hs : SlS FU 1 W qv xs) (hlt : ∀ x ∈ xs, x < 4294967296) (hf : ¬ Fmly n xs) :
    Calls Try.prog 3 #[.int .i64 n, qv] W fun e w' => e = .returned (.bool true) ∧ Below W.heap.size W w' := by
  have hm9 := sls_bd hs
  refine calls_pure (Gx.enter (l := []) Try.func3 rfl Try.ntmps3 rfl (Sat.start W) ?_)
  refine Gx.know (m' := [(0, .int .i64 n), (1, qv)]) (.cons rfl (.cons rfl .nil)) ?_
  refine Gx.seq ?_
  refine Gx.region ?_
  refine Gx.val rfl rfl rfl (val_assign rfl rfl) ?_
  refine Gx.done ?_
  refine Gx.thenN ?_
  refine Gx.seq ?_
  refine Gx.region ?_
  refine Gx.val rfl rfl rfl (val_move rfl rfl) ?_
  refine Gx.val rfl rfl rfl (val_move rfl rfl) ?_
  refine Gx.eff rfl rfl rfl (eff_callE (vs := [.int .i64 n, qv]) rfl Try.fn8 rfl (R := fun v => ∃ c : Int, c ≠ 0 ∧ v = .tuple #[.slice none 0 0, .int .i64 c]) (fun w H => least8_no (hs.below H.below) hf)) ?_
  rintro _ _ ⟨⟨zz, hzz, rfl⟩, rfl⟩
  refine Gx.val rfl rfl rfl (val_move rfl rfl) ?_
  refine Gx.val rfl rfl rfl (val_extract rfl rfl rfl) ?_
  refine Gx.val rfl rfl rfl (val_extract rfl rfl rfl) ?_
  refine Gx.val rfl rfl rfl (val_assign rfl rfl) ?_
  refine Gx.val rfl rfl rfl (val_assign rfl rfl) ?_
  refine Gx.done ?_
  refine Gx.thenN ?_
  refine Gx.seq ?_
  refine Gx.seq ?_
  refine Gx.region ?_
  refine Gx.val rfl rfl rfl (val_move rfl rfl) ?_
  refine Gx.val rfl rfl rfl (val_move rfl rfl) ?_
  refine Gx.val rfl rfl rfl (val_call (vs := [.int .i64 n, qv]) rfl Try.fn9 rfl (fun w H => kfam_yes (hs.below H.below) hlt false ⟨fun h => (by cases h), fun h => absurd h hf⟩)) ?_
  refine Gx.val rfl rfl rfl (Val.cast (val_not rfl rfl) (v' := .bool true) rfl) ?_
  refine Gx.done ?_
  refine Gx.thenN ?_
  refine Gx.t rfl ?_
  refine Gx.seq ?_
  refine Gx.region ?_
  refine Gx.val rfl rfl rfl (val_move rfl rfl) ?_
  refine Gx.val rfl rfl rfl (val_neq rfl rfl rfl) ?_
  refine Gx.val rfl rfl rfl (val_assign rfl rfl) ?_
  refine Gx.done ?_
  refine Gx.thenN ?_
  refine Gx.ret ?_
  refine Gx.thenR ?_
  refine Gx.ret1 Try.results3 rfl ?_
  exact congrArg Value.bool (decide_eq_true hzz)

theorem twice_yes {W : World} {n : Int} {qv : Value} {xs : List Nat} (hs : SlS FU 1 W qv xs) (hlt : ∀ x ∈ xs, x < 4294967296) (hf : Fmly n xs) :
    Calls Try.prog 3 #[.int .i64 n, qv] W fun e w' => e = .returned (.bool true) ∧ Below W.heap.size W w' := by
  have hm9 := sls_bd hs
  refine calls_pure (Gx.enter (l := []) Try.func3 rfl Try.ntmps3 rfl (Sat.start W) ?_)
  refine Gx.know (m' := [(0, .int .i64 n), (1, qv)]) (.cons rfl (.cons rfl .nil)) ?_
  refine Gx.seq ?_
  refine Gx.region ?_
  refine Gx.val rfl rfl rfl (val_assign rfl rfl) ?_
  refine Gx.done ?_
  refine Gx.thenN ?_
  refine Gx.seq ?_
  refine Gx.region ?_
  refine Gx.val rfl rfl rfl (val_move rfl rfl) ?_
  refine Gx.val rfl rfl rfl (val_move rfl rfl) ?_
  refine Gx.eff rfl rfl rfl (eff_callN (vs := [.int .i64 n, qv]) rfl Try.fn8 rfl (fun w H => least8_yes (hs.below H.below) hf )) ?_
  rintro _ _ ⟨_, ⟨lv, ls, hilv, hls, rfl, rfl⟩, rfl⟩
  refine Gx.norm (l' := [Hp.own FU 1 lv ls]) rfl ?_
  refine Gx.val rfl rfl rfl (val_move rfl rfl) ?_
  refine Gx.val rfl rfl rfl (val_extract rfl rfl rfl) ?_
  refine Gx.val rfl rfl rfl (val_extract rfl rfl rfl) ?_
  refine Gx.val rfl rfl rfl (val_assign rfl rfl) ?_
  refine Gx.val rfl rfl rfl (val_assign rfl rfl) ?_
  refine Gx.done ?_
  refine Gx.thenN ?_
  refine Gx.seq ?_
  refine Gx.seq ?_
  have hfl := hf.least hls
  have hfew := hf.few
  have hl0 := hls.pos hf.some
  have hllt : ∀ x ∈ ls, x < 4294967296 := fun x hx => by have := (hfl.1.lt12 hx).2; omega
  refine Gx.region ?_
  refine Gx.val rfl rfl rfl (val_move rfl rfl) ?_
  refine Gx.val rfl rfl rfl (val_move rfl rfl) ?_
  refine Gx.val rfl rfl rfl (val_call (vs := [.int .i64 n, qv]) rfl Try.fn9 rfl (fun w H => kfam_yes (hs.below H.below) hlt true ⟨fun _ => hf, fun _ => rfl⟩)) ?_
  refine Gx.val rfl rfl rfl (Val.cast (val_not rfl rfl) (v' := .bool false) rfl) ?_
  refine Gx.done ?_
  refine Gx.thenN ?_
  refine Gx.f rfl ?_
  refine Gx.skip ?_
  refine Gx.thenN ?_
  refine Gx.seq ?_
  refine Gx.region ?_
  refine Gx.val rfl rfl rfl (val_move rfl rfl) ?_
  refine Gx.val rfl rfl rfl (val_move rfl rfl) ?_
  refine Gx.eff rfl rfl rfl (eff_callN (vs := [.int .i64 n, lv]) rfl Try.fn8 rfl (fun w H => least8_yes ((H.at_ (k := 0) rfl).sls (by omega)) hfl.1 )) ?_
  rintro _ _ ⟨_, ⟨mv, ms, himv, hms, rfl, rfl⟩, rfl⟩
  refine Gx.norm (l' := [Hp.own FU 1 mv ms, Hp.own FU 1 lv ls]) rfl ?_
  refine Gx.val rfl rfl rfl (val_move rfl rfl) ?_
  refine Gx.val rfl rfl rfl (val_extract rfl rfl rfl) ?_
  refine Gx.val rfl rfl rfl (val_extract rfl rfl rfl) ?_
  refine Gx.val rfl rfl rfl (val_assign rfl rfl) ?_
  refine Gx.val rfl rfl rfl (val_assign rfl rfl) ?_
  refine Gx.done ?_
  refine Gx.thenN ?_
  refine Gx.seq ?_
  refine Gx.seq ?_
  obtain rfl : ls = ms := hls.self.uniq hms
  refine Gx.region ?_
  refine Gx.val rfl rfl rfl (val_move rfl rfl) ?_
  refine Gx.val rfl rfl rfl (Val.cast (val_neq rfl rfl rfl) (v' := .bool false) rfl) ?_
  refine Gx.val rfl rfl rfl (val_move rfl rfl) ?_
  refine Gx.valg rfl rfl rfl rfl rfl (val_move rfl rfl) ?_
  refine Gx.valg rfl rfl rfl rfl rfl (Val.cast (val_neq rfl rfl rfl) (v' := .bool false) rfl) ?_
  refine Gx.val rfl rfl rfl (val_pickF rfl rfl rfl) ?_
  refine Gx.val rfl rfl rfl (val_move rfl rfl) ?_
  refine Gx.valg rfl rfl rfl rfl rfl (val_move rfl rfl) ?_
  refine Gx.valg rfl rfl rfl rfl rfl (val_move rfl rfl) ?_
  refine Gx.valg rfl rfl rfl rfl rfl (val_call (vs := [lv, mv]) rfl Try.fn10 rfl (fun w H => (by have q := words_any ((H.at_ (k := 1) rfl).sls (by omega)) ((H.at_ (k := 0) rfl).sls (by omega)); rw [decide_eq_true rfl] at q; exact q))) ?_
  refine Gx.valg rfl rfl rfl rfl rfl (Val.cast (val_not rfl rfl) (v' := .bool false) rfl) ?_
  refine Gx.val rfl rfl rfl (val_pickF rfl rfl rfl) ?_
  refine Gx.val rfl rfl rfl (val_move rfl rfl) ?_
  refine Gx.valg rfl rfl rfl rfl rfl (val_move rfl rfl) ?_
  refine Gx.valg rfl rfl rfl rfl rfl (val_len rfl Try.underlying22 rfl (len_own (k := 1) rfl)) ?_
  refine Gx.valg rfl rfl rfl rfl rfl (val_eql rfl rfl rfl) ?_
  refine Gx.val rfl rfl rfl (val_pickF rfl rfl rfl) ?_
  refine Gx.done ?_
  refine Gx.thenN ?_
  refine Gx.decF rfl (by first | rfl | omega | (simp; done)) ?_
  refine Gx.skip ?_
  refine Gx.thenN ?_
  refine Gx.seq ?_
  refine Gx.seq ?_
  refine Gx.region ?_
  refine Gx.val rfl rfl rfl (val_move rfl rfl) ?_
  refine Gx.val rfl rfl rfl (val_len rfl Try.underlying22 rfl (len_own (k := 1) rfl)) ?_
  refine Gx.val rfl rfl rfl (val_move rfl rfl) ?_
  refine Gx.done ?_
  refine Gx.thenN ?_
  refine Gx.block ?_
  refine Gx.loop (ι := Nat) (fun ξ => (ξ ≤ ls.length)) (fun ξ => [(0, .int .i64 n), (1, qv), (5, lv), (50, lv), (51, .int .i64 ((ls.length : Nat) : Int)), (52, .int .i64 ((ξ : Nat) : Int))]) (fun ξ => [Hp.own FU 1 mv ls, Hp.own FU 1 lv ls]) (fun ξ => ls.length - ξ) 0 (by first | omega | (dsimp only; omega)) ((.cons rfl (.cons rfl (.cons rfl (.cons rfl (.cons rfl (.cons rfl .nil))))))) rfl ?_
  rintro i hi
  refine Gx.know (m' := [(0, .int .i64 n), (1, qv), (5, lv), (50, lv), (51, .int .i64 ((ls.length : Nat) : Int)), (52, .int .i64 ((i : Nat) : Int))]) (.cons rfl (.cons rfl (.cons rfl (.cons rfl (.cons rfl (.cons rfl .nil)))))) (Gx.norm (l' := [Hp.own FU 1 mv ls, Hp.own FU 1 lv ls]) rfl ?_)
  refine Gx.seq ?_
  refine Gx.region ?_
  refine Gx.val rfl rfl rfl (val_lss rfl rfl rfl) ?_
  refine Gx.done ?_
  refine Gx.thenN ?_
  refine Gx.seq ?_
  refine Gx.dec rfl (fun h1 => ?_) (fun h1 => ?_)
  · refine Gx.skip ?_
    refine Gx.thenN ?_
    refine Gx.seq ?_
    refine Gx.block ?_
    refine Gx.seq ?_
    obtain ⟨a, ha⟩ := get_of_lt (xs := ls) (k := i) (by omega)
    have hal := hllt a (List.mem_of_getElem? ha)
    refine Gx.region ?_
    refine Gx.val rfl rfl rfl (val_move rfl rfl) ?_
    refine Gx.val rfl rfl rfl (val_ixa rfl Try.underlying22 Try.ty28 rfl rfl (j := i) (rfl) (reach_own (k := 1) rfl ha)) ?_
    refine Gx.val rfl rfl rfl (val_load rfl Try.ty28 rfl rfl (cell_own (i := 0) (k := 1) rfl ha rfl)) ?_
    refine Gx.val rfl rfl rfl (val_assign rfl rfl) ?_
    refine Gx.val rfl rfl rfl (val_assign rfl rfl) ?_
    refine Gx.done ?_
    refine Gx.thenN ?_
    refine Gx.seq ?_
    refine Gx.region ?_
    refine Gx.val rfl rfl rfl (val_move rfl rfl) ?_
    refine Gx.val rfl rfl rfl (val_len rfl Try.underlying22 rfl (len_own (k := 1) rfl)) ?_
    refine Gx.val rfl rfl rfl (val_move rfl rfl) ?_
    refine Gx.done ?_
    refine Gx.thenN ?_
    refine Gx.block ?_
    refine Gx.loop (ι := Nat) (fun ξ => (ξ ≤ ls.length)) (fun ξ => [(0, .int .i64 n), (1, qv), (5, lv), (9, .int .i64 ((i : Nat) : Int)), (10, .int .u32 ((a : Nat) : Int)), (50, lv), (51, .int .i64 ((ls.length : Nat) : Int)), (52, .int .i64 ((i : Nat) : Int)), (57, lv), (58, .int .i64 ((ls.length : Nat) : Int)), (59, .int .i64 ((ξ : Nat) : Int))]) (fun ξ => [Hp.own FU 1 mv ls, Hp.own FU 1 lv ls]) (fun ξ => ls.length - ξ) 0 (by first | omega | (dsimp only; omega)) ((.cons rfl (.cons rfl (.cons rfl (.cons rfl (.cons rfl (.cons rfl (.cons rfl (.cons rfl (.cons rfl (.cons rfl (.cons rfl .nil)))))))))))) rfl ?_
    rintro j hj
    refine Gx.know (m' := [(0, .int .i64 n), (1, qv), (5, lv), (9, .int .i64 ((i : Nat) : Int)), (10, .int .u32 ((a : Nat) : Int)), (50, lv), (51, .int .i64 ((ls.length : Nat) : Int)), (52, .int .i64 ((i : Nat) : Int)), (57, lv), (58, .int .i64 ((ls.length : Nat) : Int)), (59, .int .i64 ((j : Nat) : Int))]) (.cons rfl (.cons rfl (.cons rfl (.cons rfl (.cons rfl (.cons rfl (.cons rfl (.cons rfl (.cons rfl (.cons rfl (.cons rfl .nil))))))))))) (Gx.norm (l' := [Hp.own FU 1 mv ls, Hp.own FU 1 lv ls]) rfl ?_)
    refine Gx.seq ?_
    refine Gx.region ?_
    refine Gx.val rfl rfl rfl (val_lss rfl rfl rfl) ?_
    refine Gx.done ?_
    refine Gx.thenN ?_
    refine Gx.seq ?_
    refine Gx.dec rfl (fun h2 => ?_) (fun h2 => ?_)
    · refine Gx.skip ?_
      refine Gx.thenN ?_
      refine Gx.seq ?_
      refine Gx.block ?_
      refine Gx.seq ?_
      obtain ⟨b, hb⟩ := get_of_lt (xs := ls) (k := j) (by omega)
      have hbl := hllt b (List.mem_of_getElem? hb)
      refine Gx.region ?_
      refine Gx.val rfl rfl rfl (val_move rfl rfl) ?_
      refine Gx.val rfl rfl rfl (val_ixa rfl Try.underlying22 Try.ty28 rfl rfl (j := j) (rfl) (reach_own (k := 1) rfl hb)) ?_
      refine Gx.val rfl rfl rfl (val_load rfl Try.ty28 rfl rfl (cell_own (i := 0) (k := 1) rfl hb rfl)) ?_
      refine Gx.val rfl rfl rfl (val_assign rfl rfl) ?_
      refine Gx.val rfl rfl rfl (val_assign rfl rfl) ?_
      refine Gx.done ?_
      refine Gx.thenN ?_
      refine Gx.seq ?_
      refine Gx.region ?_
      refine Gx.val rfl rfl rfl (val_move rfl rfl) ?_
      refine Gx.val rfl rfl rfl (val_move rfl rfl) ?_
      refine Gx.val rfl rfl rfl (val_neq rfl rfl rfl) ?_
      refine Gx.val rfl rfl rfl (val_move rfl rfl) ?_
      refine Gx.cases (t := 67) rfl (fun h3 => ?_) (fun h3 => ?_)
      · refine Gx.valg rfl rfl rfl rfl rfl (val_move rfl rfl) ?_
        refine Gx.valg rfl rfl rfl rfl rfl (val_move rfl rfl) ?_
        refine Gx.valg rfl rfl rfl rfl rfl (val_or rfl rfl rfl (or32 hal hbl)) ?_
        refine Gx.valg rfl rfl rfl rfl rfl (val_move rfl rfl) ?_
        refine Gx.valg rfl rfl rfl rfl rfl (val_eql rfl rfl rfl) ?_
        refine Gx.val rfl rfl rfl (val_pickT rfl rfl rfl) ?_
        refine Gx.done ?_
        refine Gx.thenN ?_
        refine Gx.decF rfl (fun h => hls.anti (List.mem_of_getElem? ha) (List.mem_of_getElem? hb) (up_ne hls.up ha hb (by omega)) (or_in.1 (by omega))) ?_
        refine Gx.skip ?_
        refine Gx.blkN ?_
        refine Gx.thenN ?_
        refine Gx.region ?_
        refine Gx.val rfl rfl rfl (val_add rfl rfl rfl (r := ((j + 1 : Nat) : Int)) (w64 (by omega) (by omega))) ?_
        refine Gx.val rfl rfl rfl (val_move rfl rfl) ?_
        refine Gx.done ?_
        refine Gx.thenN ?_
        exact Gx.round (j + 1) (by first | omega | (dsimp only; omega)) (by first | omega | (dsimp only; omega)) ((.cons rfl (.cons rfl (.cons rfl (.cons rfl (.cons rfl (.cons rfl (.cons rfl (.cons rfl (.cons rfl (.cons rfl (.cons rfl .nil)))))))))))) rfl
      · refine Gx.skipg rfl rfl rfl rfl rfl rfl ?_
        refine Gx.skipg rfl rfl rfl rfl rfl rfl ?_
        refine Gx.skipg rfl rfl rfl rfl rfl rfl ?_
        refine Gx.skipg rfl rfl rfl rfl rfl rfl ?_
        refine Gx.skipg rfl rfl rfl rfl rfl rfl ?_
        refine Gx.val rfl rfl rfl (val_pickF rfl rfl rfl) ?_
        refine Gx.done ?_
        refine Gx.thenN ?_
        refine Gx.f rfl ?_
        refine Gx.skip ?_
        refine Gx.blkN ?_
        refine Gx.thenN ?_
        refine Gx.region ?_
        refine Gx.val rfl rfl rfl (val_add rfl rfl rfl (r := ((j + 1 : Nat) : Int)) (w64 (by omega) (by omega))) ?_
        refine Gx.val rfl rfl rfl (val_move rfl rfl) ?_
        refine Gx.done ?_
        refine Gx.thenN ?_
        exact Gx.round (j + 1) (by first | omega | (dsimp only; omega)) (by first | omega | (dsimp only; omega)) ((.cons rfl (.cons rfl (.cons rfl (.cons rfl (.cons rfl (.cons rfl (.cons rfl (.cons rfl (.cons rfl (.cons rfl (.cons rfl .nil)))))))))))) rfl
    · refine Gx.exit ?_
      refine Gx.thenE ?_
      refine Gx.thenE ?_
      refine Gx.blkE ?_
      refine Gx.blkN ?_
      refine Gx.thenN ?_
      refine Gx.region ?_
      refine Gx.val rfl rfl rfl (val_add rfl rfl rfl (r := ((i + 1 : Nat) : Int)) (w64 (by omega) (by omega))) ?_
      refine Gx.val rfl rfl rfl (val_move rfl rfl) ?_
      refine Gx.done ?_
      refine Gx.thenN ?_
      exact Gx.round (i + 1) (by first | omega | (dsimp only; omega)) (by first | omega | (dsimp only; omega)) ((.cons rfl (.cons rfl (.cons rfl (.cons rfl (.cons rfl (.cons rfl .nil))))))) rfl
  · refine Gx.exit ?_
    refine Gx.thenE ?_
    refine Gx.thenE ?_
    refine Gx.blkE ?_
    refine Gx.thenN ?_
    refine Gx.seq ?_
    refine Gx.seq ?_
    refine Gx.region ?_
    refine Gx.val rfl rfl rfl (val_move rfl rfl) ?_
    refine Gx.val rfl rfl rfl (val_len rfl Try.underlying22 rfl (len_base hs)) ?_
    refine Gx.val rfl rfl rfl (val_move rfl rfl) ?_
    refine Gx.done ?_
    refine Gx.thenN ?_
    refine Gx.block ?_
    refine Gx.loop (ι := Nat) (fun ξ => (ξ ≤ xs.length)) (fun ξ => [(0, .int .i64 n), (1, qv), (5, lv), (76, qv), (77, .int .i64 ((xs.length : Nat) : Int)), (78, .int .i64 ((ξ : Nat) : Int))]) (fun ξ => [Hp.own FU 1 mv ls, Hp.own FU 1 lv ls]) (fun ξ => xs.length - ξ) 0 (by first | omega | (dsimp only; omega)) ((.cons rfl (.cons rfl (.cons rfl (.cons rfl (.cons rfl (.cons rfl .nil))))))) rfl ?_
    rintro k hk
    refine Gx.know (m' := [(0, .int .i64 n), (1, qv), (5, lv), (76, qv), (77, .int .i64 ((xs.length : Nat) : Int)), (78, .int .i64 ((k : Nat) : Int))]) (.cons rfl (.cons rfl (.cons rfl (.cons rfl (.cons rfl (.cons rfl .nil)))))) (Gx.norm (l' := [Hp.own FU 1 mv ls, Hp.own FU 1 lv ls]) rfl ?_)
    refine Gx.seq ?_
    refine Gx.region ?_
    refine Gx.val rfl rfl rfl (val_lss rfl rfl rfl) ?_
    refine Gx.done ?_
    refine Gx.thenN ?_
    refine Gx.seq ?_
    refine Gx.dec rfl (fun h4 => ?_) (fun h4 => ?_)
    · refine Gx.skip ?_
      refine Gx.thenN ?_
      refine Gx.seq ?_
      refine Gx.block ?_
      refine Gx.seq ?_
      obtain ⟨x, hx⟩ := get_of_lt (xs := xs) (k := k) (by omega)
      have hxm := List.mem_of_getElem? hx
      refine Gx.region ?_
      refine Gx.val rfl rfl rfl (val_ixa rfl Try.underlying22 Try.ty28 rfl rfl (j := k) (rfl) (reach_base hs hx)) ?_
      refine Gx.val rfl rfl rfl (val_load rfl Try.ty28 rfl rfl (cell_base (i := 0) hs hx rfl)) ?_
      refine Gx.val rfl rfl rfl (val_assign rfl rfl) ?_
      refine Gx.done ?_
      refine Gx.thenN ?_
      refine Gx.seq ?_
      refine Gx.region ?_
      refine Gx.val rfl rfl rfl (val_move rfl rfl) ?_
      refine Gx.val rfl rfl rfl (val_move rfl rfl) ?_
      refine Gx.val rfl rfl rfl (val_call (vs := [lv, .int .u32 ((x : Nat) : Int)]) rfl Try.fn11 rfl (fun w H => (by have q := holds_any ((H.at_ (k := 1) rfl).sls (by omega)) hllt (hlt x hxm); rw [List.any_eq_true.2 (by obtain ⟨a, h1, h2⟩ := hls.below hxm; exact ⟨a, h1, decide_eq_true h2⟩)] at q; exact q))) ?_
      refine Gx.val rfl rfl rfl (Val.cast (val_not rfl rfl) (v' := .bool false) rfl) ?_
      refine Gx.done ?_
      refine Gx.thenN ?_
      refine Gx.f rfl ?_
      refine Gx.skip ?_
      refine Gx.blkN ?_
      refine Gx.thenN ?_
      refine Gx.region ?_
      refine Gx.val rfl rfl rfl (val_add rfl rfl rfl (r := ((k + 1 : Nat) : Int)) (w64 (by omega) (by omega))) ?_
      refine Gx.val rfl rfl rfl (val_move rfl rfl) ?_
      refine Gx.done ?_
      refine Gx.thenN ?_
      exact Gx.round (k + 1) (by first | omega | (dsimp only; omega)) (by first | omega | (dsimp only; omega)) ((.cons rfl (.cons rfl (.cons rfl (.cons rfl (.cons rfl (.cons rfl .nil))))))) rfl
    · refine Gx.exit ?_
      refine Gx.thenE ?_
      refine Gx.thenE ?_
      refine Gx.blkE ?_
      refine Gx.thenN ?_
      refine Gx.seq ?_
      refine Gx.region ?_
      refine Gx.val rfl rfl rfl (val_assign rfl rfl) ?_
      refine Gx.done ?_
      refine Gx.thenN ?_
      refine Gx.ret ?_
      refine Gx.ret1 Try.results3 rfl ?_
      rfl

theorem twice_any {W : World} {n : Int} {qv : Value} {xs : List Nat} (hs : SlS FU 1 W qv xs) (hlt : ∀ x ∈ xs, x < 4294967296) :
    Calls Try.prog 3 #[.int .i64 n, qv] W fun e w' => e = .returned (.bool true) ∧ Below W.heap.size W w' := by
  by_cases hf : Fmly n xs
  · exact twice_yes hs hlt hf
  · exact twice_bad hs hlt hf
theorem same_bad {W : World} {n : Int} {qv : Value} {xs : List Nat} (hs : SlS FU 1 W qv xs) (hlt : ∀ x ∈ xs, x < 4294967296) (hf : ¬ Fmly n xs) :
    Calls Try.prog 5 #[.int .i64 n, qv] W fun e w' => e = .returned (.bool true) ∧ Below W.heap.size W w' := by
  have hm9 := sls_bd hs
  refine calls_pure (Gx.enter (l := []) Try.func5 rfl Try.ntmps5 rfl (Sat.start W) ?_)
  refine Gx.know (m' := [(0, .int .i64 n), (1, qv)]) (.cons rfl (.cons rfl .nil)) ?_
  refine Gx.seq ?_
  refine Gx.region ?_
  refine Gx.val rfl rfl rfl (val_assign rfl rfl) ?_
  refine Gx.done ?_
  refine Gx.thenN ?_
  refine Gx.seq ?_
  refine Gx.region ?_
  refine Gx.val rfl rfl rfl (val_move rfl rfl) ?_
  refine Gx.val rfl rfl rfl (val_move rfl rfl) ?_
  refine Gx.eff rfl rfl rfl (eff_callE (vs := [.int .i64 n, qv]) rfl Try.fn8 rfl (R := fun v => ∃ c : Int, c ≠ 0 ∧ v = .tuple #[.slice none 0 0, .int .i64 c]) (fun w H => least8_no (hs.below H.below) hf)) ?_
  rintro _ _ ⟨⟨zz, hzz, rfl⟩, rfl⟩
  refine Gx.val rfl rfl rfl (val_move rfl rfl) ?_
  refine Gx.val rfl rfl rfl (val_extract rfl rfl rfl) ?_
  refine Gx.val rfl rfl rfl (val_extract rfl rfl rfl) ?_
  refine Gx.val rfl rfl rfl (val_assign rfl rfl) ?_
  refine Gx.val rfl rfl rfl (val_assign rfl rfl) ?_
  refine Gx.done ?_
  refine Gx.thenN ?_
  refine Gx.seq ?_
  refine Gx.seq ?_
  refine Gx.region ?_
  refine Gx.val rfl rfl rfl (val_move rfl rfl) ?_
  refine Gx.val rfl rfl rfl (val_move rfl rfl) ?_
  refine Gx.val rfl rfl rfl (val_call (vs := [.int .i64 n, qv]) rfl Try.fn9 rfl (fun w H => kfam_yes (hs.below H.below) hlt false ⟨fun h => (by cases h), fun h => absurd h hf⟩)) ?_
  refine Gx.val rfl rfl rfl (Val.cast (val_not rfl rfl) (v' := .bool true) rfl) ?_
  refine Gx.done ?_
  refine Gx.thenN ?_
  refine Gx.t rfl ?_
  refine Gx.seq ?_
  refine Gx.region ?_
  refine Gx.val rfl rfl rfl (val_move rfl rfl) ?_
  refine Gx.val rfl rfl rfl (val_neq rfl rfl rfl) ?_
  refine Gx.val rfl rfl rfl (val_assign rfl rfl) ?_
  refine Gx.done ?_
  refine Gx.thenN ?_
  refine Gx.ret ?_
  refine Gx.thenR ?_
  refine Gx.ret1 Try.results5 rfl ?_
  exact congrArg Value.bool (decide_eq_true hzz)

theorem same_yes {W : World} {n : Int} {qv : Value} {xs : List Nat} (hs : SlS FU 1 W qv xs) (hlt : ∀ x ∈ xs, x < 4294967296) (hf : Fmly n xs) :
    Calls Try.prog 5 #[.int .i64 n, qv] W fun e w' => e = .returned (.bool true) ∧ Below W.heap.size W w' := by
  have hm9 := sls_bd hs
  refine calls_pure (Gx.enter (l := []) Try.func5 rfl Try.ntmps5 rfl (Sat.start W) ?_)
  refine Gx.know (m' := [(0, .int .i64 n), (1, qv)]) (.cons rfl (.cons rfl .nil)) ?_
  refine Gx.seq ?_
  refine Gx.region ?_
  refine Gx.val rfl rfl rfl (val_assign rfl rfl) ?_
  refine Gx.done ?_
  refine Gx.thenN ?_
  refine Gx.seq ?_
  refine Gx.region ?_
  refine Gx.val rfl rfl rfl (val_move rfl rfl) ?_
  refine Gx.val rfl rfl rfl (val_move rfl rfl) ?_
  refine Gx.eff rfl rfl rfl (eff_callN (vs := [.int .i64 n, qv]) rfl Try.fn8 rfl (fun w H => least8_yes (hs.below H.below) hf )) ?_
  rintro _ _ ⟨_, ⟨lv, ls, hilv, hls, rfl, rfl⟩, rfl⟩
  refine Gx.norm (l' := [Hp.own FU 1 lv ls]) rfl ?_
  refine Gx.val rfl rfl rfl (val_move rfl rfl) ?_
  refine Gx.val rfl rfl rfl (val_extract rfl rfl rfl) ?_
  refine Gx.val rfl rfl rfl (val_extract rfl rfl rfl) ?_
  refine Gx.val rfl rfl rfl (val_assign rfl rfl) ?_
  refine Gx.val rfl rfl rfl (val_assign rfl rfl) ?_
  refine Gx.done ?_
  refine Gx.thenN ?_
  refine Gx.seq ?_
  refine Gx.seq ?_
  have hfl := hf.least hls
  have hfew := hf.few
  have hl0 := hls.pos hf.some
  have hllt : ∀ x ∈ ls, x < 4294967296 := fun x hx => by have := (hfl.1.lt12 hx).2; omega
  refine Gx.region ?_
  refine Gx.val rfl rfl rfl (val_move rfl rfl) ?_
  refine Gx.val rfl rfl rfl (val_move rfl rfl) ?_
  refine Gx.val rfl rfl rfl (val_call (vs := [.int .i64 n, qv]) rfl Try.fn9 rfl (fun w H => kfam_yes (hs.below H.below) hlt true ⟨fun _ => hf, fun _ => rfl⟩)) ?_
  refine Gx.val rfl rfl rfl (Val.cast (val_not rfl rfl) (v' := .bool false) rfl) ?_
  refine Gx.done ?_
  refine Gx.thenN ?_
  refine Gx.f rfl ?_
  refine Gx.skip ?_
  refine Gx.thenN ?_
  refine Gx.seq ?_
  refine Gx.region ?_
  refine Gx.val rfl rfl rfl (val_move rfl rfl) ?_
  refine Gx.val rfl rfl rfl (val_move rfl rfl) ?_
  refine Gx.eff rfl rfl rfl (eff_callN (vs := [.int .i64 n, qv]) rfl Try.fn12 rfl (fun w H => blocks12_yes (hs.below H.below) hf )) ?_
  rintro _ _ ⟨_, ⟨av, al, hiav, hal, rfl, rfl⟩, rfl⟩
  refine Gx.norm (l' := [Hp.own FU 1 av al, Hp.own FU 1 lv ls]) rfl ?_
  refine Gx.val rfl rfl rfl (val_move rfl rfl) ?_
  refine Gx.val rfl rfl rfl (val_extract rfl rfl rfl) ?_
  refine Gx.val rfl rfl rfl (val_extract rfl rfl rfl) ?_
  refine Gx.val rfl rfl rfl (val_assign rfl rfl) ?_
  refine Gx.val rfl rfl rfl (val_assign rfl rfl) ?_
  refine Gx.done ?_
  refine Gx.thenN ?_
  refine Gx.seq ?_
  refine Gx.region ?_
  refine Gx.val rfl rfl rfl (val_move rfl rfl) ?_
  refine Gx.val rfl rfl rfl (val_move rfl rfl) ?_
  refine Gx.eff rfl rfl rfl (eff_callN (vs := [.int .i64 n, lv]) rfl Try.fn12 rfl (fun w H => blocks12_yes ((H.at_ (k := 1) rfl).sls (by omega)) hfl.1 )) ?_
  rintro _ _ ⟨_, ⟨bv, bs, hibv, hbs, rfl, rfl⟩, rfl⟩
  refine Gx.norm (l' := [Hp.own FU 1 bv bs, Hp.own FU 1 av al, Hp.own FU 1 lv ls]) rfl ?_
  refine Gx.val rfl rfl rfl (val_move rfl rfl) ?_
  refine Gx.val rfl rfl rfl (val_extract rfl rfl rfl) ?_
  refine Gx.val rfl rfl rfl (val_extract rfl rfl rfl) ?_
  refine Gx.val rfl rfl rfl (val_assign rfl rfl) ?_
  refine Gx.val rfl rfl rfl (val_assign rfl rfl) ?_
  refine Gx.done ?_
  refine Gx.thenN ?_
  refine Gx.seq ?_
  obtain rfl : al = bs := (hal.uniq (hbs.of_hit hls.hit))
  have hbl := hal.len hf
  refine Gx.region ?_
  refine Gx.val rfl rfl rfl (val_move rfl rfl) ?_
  refine Gx.val rfl rfl rfl (Val.cast (val_eql rfl rfl rfl) (v' := .bool true) rfl) ?_
  refine Gx.val rfl rfl rfl (val_move rfl rfl) ?_
  refine Gx.valg rfl rfl rfl rfl rfl (val_move rfl rfl) ?_
  refine Gx.valg rfl rfl rfl rfl rfl (Val.cast (val_eql rfl rfl rfl) (v' := .bool true) rfl) ?_
  refine Gx.val rfl rfl rfl (val_pickT rfl rfl rfl) ?_
  refine Gx.val rfl rfl rfl (val_move rfl rfl) ?_
  refine Gx.valg rfl rfl rfl rfl rfl (val_move rfl rfl) ?_
  refine Gx.valg rfl rfl rfl rfl rfl (Val.cast (val_eql rfl rfl rfl) (v' := .bool true) rfl) ?_
  refine Gx.val rfl rfl rfl (val_pickT rfl rfl rfl) ?_
  refine Gx.val rfl rfl rfl (val_move rfl rfl) ?_
  refine Gx.valg rfl rfl rfl rfl rfl (val_move rfl rfl) ?_
  refine Gx.valg rfl rfl rfl rfl rfl (val_len rfl Try.underlying22 rfl (len_own (k := 1) rfl)) ?_
  refine Gx.valg rfl rfl rfl rfl rfl (val_gtr rfl rfl rfl) ?_
  refine Gx.val rfl rfl rfl (val_pickT rfl rfl rfl) ?_
  refine Gx.val rfl rfl rfl (val_move rfl rfl) ?_
  refine Gx.slot (t := 50) (v := .bool true) (look_decT rfl (by first | rfl | omega | (simp; done))) ?_
  refine Gx.valg rfl rfl rfl rfl rfl (val_move rfl rfl) ?_
  refine Gx.valg rfl rfl rfl rfl rfl (val_move rfl rfl) ?_
  refine Gx.valg rfl rfl rfl rfl rfl (val_call (vs := [av, bv]) rfl Try.fn10 rfl (fun w H => (by have q := words_any ((H.at_ (k := 1) rfl).sls (by omega)) ((H.at_ (k := 0) rfl).sls (by omega)); rw [decide_eq_true rfl] at q; exact q))) ?_
  refine Gx.val rfl rfl rfl (val_pickT rfl rfl rfl) ?_
  refine Gx.val rfl rfl rfl (val_assign rfl rfl) ?_
  refine Gx.done ?_
  refine Gx.thenN ?_
  refine Gx.ret ?_
  refine Gx.ret1 Try.results5 rfl ?_
  rfl

theorem same_any {W : World} {n : Int} {qv : Value} {xs : List Nat} (hs : SlS FU 1 W qv xs) (hlt : ∀ x ∈ xs, x < 4294967296) :
    Calls Try.prog 5 #[.int .i64 n, qv] W fun e w' => e = .returned (.bool true) ∧ Below W.heap.size W w' := by
  by_cases hf : Fmly n xs
  · exact same_yes hs hlt hf
  · exact same_bad hs hlt hf
theorem berge_bad {W : World} {n : Int} {qv : Value} {xs : List Nat} (hs : SlS FU 1 W qv xs) (hlt : ∀ x ∈ xs, x < 4294967296) (hf : ¬ Fmly n xs) :
    Calls Try.prog 4 #[.int .i64 n, qv] W fun e w' => e = .returned (.bool true) ∧ Below W.heap.size W w' := by
  have hm9 := sls_bd hs
  refine calls_pure (Gx.enter (l := []) Try.func4 rfl Try.ntmps4 rfl (Sat.start W) ?_)
  refine Gx.know (m' := [(0, .int .i64 n), (1, qv)]) (.cons rfl (.cons rfl .nil)) ?_
  refine Gx.seq ?_
  refine Gx.region ?_
  refine Gx.val rfl rfl rfl (val_assign rfl rfl) ?_
  refine Gx.done ?_
  refine Gx.thenN ?_
  refine Gx.seq ?_
  refine Gx.region ?_
  refine Gx.val rfl rfl rfl (val_move rfl rfl) ?_
  refine Gx.val rfl rfl rfl (val_move rfl rfl) ?_
  refine Gx.eff rfl rfl rfl (eff_callE (vs := [.int .i64 n, qv]) rfl Try.fn12 rfl (R := fun v => ∃ c : Int, c ≠ 0 ∧ v = .tuple #[.slice none 0 0, .int .i64 c]) (fun w H => blocks12_no (hs.below H.below) hf)) ?_
  rintro _ _ ⟨⟨zz, hzz, rfl⟩, rfl⟩
  refine Gx.val rfl rfl rfl (val_move rfl rfl) ?_
  refine Gx.val rfl rfl rfl (val_extract rfl rfl rfl) ?_
  refine Gx.val rfl rfl rfl (val_extract rfl rfl rfl) ?_
  refine Gx.val rfl rfl rfl (val_assign rfl rfl) ?_
  refine Gx.val rfl rfl rfl (val_assign rfl rfl) ?_
  refine Gx.done ?_
  refine Gx.thenN ?_
  refine Gx.seq ?_
  refine Gx.seq ?_
  refine Gx.region ?_
  refine Gx.val rfl rfl rfl (val_move rfl rfl) ?_
  refine Gx.val rfl rfl rfl (val_move rfl rfl) ?_
  refine Gx.val rfl rfl rfl (val_call (vs := [.int .i64 n, qv]) rfl Try.fn9 rfl (fun w H => kfam_yes (hs.below H.below) hlt false ⟨fun h => (by cases h), fun h => absurd h hf⟩)) ?_
  refine Gx.val rfl rfl rfl (Val.cast (val_not rfl rfl) (v' := .bool true) rfl) ?_
  refine Gx.done ?_
  refine Gx.thenN ?_
  refine Gx.t rfl ?_
  refine Gx.seq ?_
  refine Gx.region ?_
  refine Gx.val rfl rfl rfl (val_move rfl rfl) ?_
  refine Gx.val rfl rfl rfl (val_neq rfl rfl rfl) ?_
  refine Gx.val rfl rfl rfl (val_assign rfl rfl) ?_
  refine Gx.done ?_
  refine Gx.thenN ?_
  refine Gx.ret ?_
  refine Gx.thenR ?_
  refine Gx.ret1 Try.results4 rfl ?_
  exact congrArg Value.bool (decide_eq_true hzz)

theorem berge_small {W : World} {n : Int} {qv : Value} {xs : List Nat} (hs : SlS FU 1 W qv xs) (hlt : ∀ x ∈ xs, x < 4294967296) (hf : Fmly n xs) (hsz : ∀ bl, IsBlk xs bl → bl.length ≤ 64) :
    Calls Try.prog 4 #[.int .i64 n, qv] W fun e w' => e = .returned (.bool true) ∧ Below W.heap.size W w' := by
  have hm9 := sls_bd hs
  refine calls_pure (Gx.enter (l := []) Try.func4 rfl Try.ntmps4 rfl (Sat.start W) ?_)
  refine Gx.know (m' := [(0, .int .i64 n), (1, qv)]) (.cons rfl (.cons rfl .nil)) ?_
  refine Gx.seq ?_
  refine Gx.region ?_
  refine Gx.val rfl rfl rfl (val_assign rfl rfl) ?_
  refine Gx.done ?_
  refine Gx.thenN ?_
  refine Gx.seq ?_
  refine Gx.region ?_
  refine Gx.val rfl rfl rfl (val_move rfl rfl) ?_
  refine Gx.val rfl rfl rfl (val_move rfl rfl) ?_
  refine Gx.eff rfl rfl rfl (eff_callN (vs := [.int .i64 n, qv]) rfl Try.fn12 rfl (fun w H => blocks12_yes (hs.below H.below) hf )) ?_
  rintro _ _ ⟨_, ⟨bv, bl, hibv, hbl, rfl, rfl⟩, rfl⟩
  refine Gx.norm (l' := [Hp.own FU 1 bv bl]) rfl ?_
  refine Gx.val rfl rfl rfl (val_move rfl rfl) ?_
  refine Gx.val rfl rfl rfl (val_extract rfl rfl rfl) ?_
  refine Gx.val rfl rfl rfl (val_extract rfl rfl rfl) ?_
  refine Gx.val rfl rfl rfl (val_assign rfl rfl) ?_
  refine Gx.val rfl rfl rfl (val_assign rfl rfl) ?_
  refine Gx.done ?_
  refine Gx.thenN ?_
  refine Gx.seq ?_
  refine Gx.seq ?_
  have hfew := hf.few
  have hbn := hbl.len hf; have hsm := hsz bl hbl
  have hblt : ∀ x ∈ bl, x < 4294967296 := fun x hx => by have := hbl.lt (n := 12) (fun a ha => (hf.lt12 ha).2) hx; omega
  refine Gx.region ?_
  refine Gx.val rfl rfl rfl (val_move rfl rfl) ?_
  refine Gx.val rfl rfl rfl (val_move rfl rfl) ?_
  refine Gx.val rfl rfl rfl (val_call (vs := [.int .i64 n, qv]) rfl Try.fn9 rfl (fun w H => kfam_yes (hs.below H.below) hlt true ⟨fun _ => hf, fun _ => rfl⟩)) ?_
  refine Gx.val rfl rfl rfl (Val.cast (val_not rfl rfl) (v' := .bool false) rfl) ?_
  refine Gx.done ?_
  refine Gx.thenN ?_
  refine Gx.f rfl ?_
  refine Gx.skip ?_
  refine Gx.thenN ?_
  refine Gx.seq ?_
  refine Gx.region ?_
  refine Gx.val rfl rfl rfl (val_move rfl rfl) ?_
  refine Gx.val rfl rfl rfl (val_move rfl rfl) ?_
  refine Gx.eff rfl rfl rfl (eff_callN (vs := [.int .i64 n, qv]) rfl Try.fn8 rfl (fun w H => least8_yes (hs.below H.below) hf )) ?_
  rintro _ _ ⟨_, ⟨lv, ls, hilv, hls, rfl, rfl⟩, rfl⟩
  refine Gx.norm (l' := [Hp.own FU 1 lv ls, Hp.own FU 1 bv bl]) rfl ?_
  refine Gx.val rfl rfl rfl (val_move rfl rfl) ?_
  refine Gx.val rfl rfl rfl (val_extract rfl rfl rfl) ?_
  refine Gx.val rfl rfl rfl (val_extract rfl rfl rfl) ?_
  refine Gx.val rfl rfl rfl (val_assign rfl rfl) ?_
  refine Gx.val rfl rfl rfl (val_assign rfl rfl) ?_
  refine Gx.done ?_
  refine Gx.thenN ?_
  refine Gx.seq ?_
  refine Gx.seq ?_
  have hfl := hf.least hls
  refine Gx.region ?_
  refine Gx.val rfl rfl rfl (val_move rfl rfl) ?_
  refine Gx.val rfl rfl rfl (Val.cast (val_neq rfl rfl rfl) (v' := .bool false) rfl) ?_
  refine Gx.val rfl rfl rfl (val_move rfl rfl) ?_
  refine Gx.valg rfl rfl rfl rfl rfl (val_move rfl rfl) ?_
  refine Gx.valg rfl rfl rfl rfl rfl (Val.cast (val_neq rfl rfl rfl) (v' := .bool false) rfl) ?_
  refine Gx.val rfl rfl rfl (val_pickF rfl rfl rfl) ?_
  refine Gx.val rfl rfl rfl (val_move rfl rfl) ?_
  refine Gx.valg rfl rfl rfl rfl rfl (val_move rfl rfl) ?_
  refine Gx.valg rfl rfl rfl rfl rfl (val_len rfl Try.underlying22 rfl (len_own (k := 1) rfl)) ?_
  refine Gx.valg rfl rfl rfl rfl rfl (val_eql rfl rfl rfl) ?_
  refine Gx.val rfl rfl rfl (val_pickF rfl rfl rfl) ?_
  refine Gx.done ?_
  refine Gx.thenN ?_
  refine Gx.decF rfl (by first | rfl | omega | (simp; done)) ?_
  refine Gx.skip ?_
  refine Gx.thenN ?_
  refine Gx.seq ?_
  refine Gx.seq ?_
  refine Gx.region ?_
  refine Gx.val rfl rfl rfl (val_move rfl rfl) ?_
  refine Gx.val rfl rfl rfl (val_len rfl Try.underlying22 rfl (len_own (k := 1) rfl)) ?_
  refine Gx.val rfl rfl rfl (val_move rfl rfl) ?_
  refine Gx.done ?_
  refine Gx.thenN ?_
  refine Gx.block ?_
  refine Gx.loop (ι := Nat) (fun ξ => (ξ ≤ bl.length)) (fun ξ => [(0, .int .i64 n), (1, qv), (5, bv), (7, lv), (43, bv), (44, .int .i64 ((bl.length : Nat) : Int)), (45, .int .i64 ((ξ : Nat) : Int))]) (fun ξ => [Hp.own FU 1 lv ls, Hp.own FU 1 bv bl]) (fun ξ => bl.length - ξ) 0 (by first | omega | (dsimp only; omega)) ((.cons rfl (.cons rfl (.cons rfl (.cons rfl (.cons rfl (.cons rfl (.cons rfl .nil)))))))) rfl ?_
  rintro i hi
  refine Gx.know (m' := [(0, .int .i64 n), (1, qv), (5, bv), (7, lv), (43, bv), (44, .int .i64 ((bl.length : Nat) : Int)), (45, .int .i64 ((i : Nat) : Int))]) (.cons rfl (.cons rfl (.cons rfl (.cons rfl (.cons rfl (.cons rfl (.cons rfl .nil))))))) (Gx.norm (l' := [Hp.own FU 1 lv ls, Hp.own FU 1 bv bl]) rfl ?_)
  refine Gx.seq ?_
  refine Gx.region ?_
  refine Gx.val rfl rfl rfl (val_lss rfl rfl rfl) ?_
  refine Gx.done ?_
  refine Gx.thenN ?_
  refine Gx.seq ?_
  refine Gx.dec rfl (fun h1 => ?_) (fun h1 => ?_)
  · refine Gx.skip ?_
    refine Gx.thenN ?_
    refine Gx.seq ?_
    refine Gx.block ?_
    refine Gx.seq ?_
    obtain ⟨x, hx⟩ := get_of_lt (xs := bl) (k := i) (by omega)
    have hxm := List.mem_of_getElem? hx
    have hxl := hblt x hxm
    refine Gx.region ?_
    refine Gx.val rfl rfl rfl (val_ixa rfl Try.underlying22 Try.ty28 rfl rfl (j := i) (rfl) (reach_own (k := 1) rfl hx)) ?_
    refine Gx.val rfl rfl rfl (val_load rfl Try.ty28 rfl rfl (cell_own (i := 0) (k := 1) rfl hx rfl)) ?_
    refine Gx.val rfl rfl rfl (val_assign rfl rfl) ?_
    refine Gx.done ?_
    refine Gx.thenN ?_
    refine Gx.seq ?_
    refine Gx.region ?_
    refine Gx.val rfl rfl rfl (val_move rfl rfl) ?_
    refine Gx.val rfl rfl rfl (val_len rfl Try.underlying22 rfl (len_base hs)) ?_
    refine Gx.val rfl rfl rfl (val_move rfl rfl) ?_
    refine Gx.done ?_
    refine Gx.thenN ?_
    refine Gx.block ?_
    refine Gx.loop (ι := Nat) (fun ξ => (ξ ≤ xs.length)) (fun ξ => [(0, .int .i64 n), (1, qv), (5, bv), (7, lv), (10, .int .u32 ((x : Nat) : Int)), (43, bv), (44, .int .i64 ((bl.length : Nat) : Int)), (45, .int .i64 ((i : Nat) : Int)), (49, qv), (50, .int .i64 ((xs.length : Nat) : Int)), (51, .int .i64 ((ξ : Nat) : Int))]) (fun ξ => [Hp.own FU 1 lv ls, Hp.own FU 1 bv bl]) (fun ξ => xs.length - ξ) 0 (by first | omega | (dsimp only; omega)) ((.cons rfl (.cons rfl (.cons rfl (.cons rfl (.cons rfl (.cons rfl (.cons rfl (.cons rfl (.cons rfl (.cons rfl (.cons rfl .nil)))))))))))) rfl ?_
    rintro j hj
    refine Gx.know (m' := [(0, .int .i64 n), (1, qv), (5, bv), (7, lv), (10, .int .u32 ((x : Nat) : Int)), (43, bv), (44, .int .i64 ((bl.length : Nat) : Int)), (45, .int .i64 ((i : Nat) : Int)), (49, qv), (50, .int .i64 ((xs.length : Nat) : Int)), (51, .int .i64 ((j : Nat) : Int))]) (.cons rfl (.cons rfl (.cons rfl (.cons rfl (.cons rfl (.cons rfl (.cons rfl (.cons rfl (.cons rfl (.cons rfl (.cons rfl .nil))))))))))) (Gx.norm (l' := [Hp.own FU 1 lv ls, Hp.own FU 1 bv bl]) rfl ?_)
    refine Gx.seq ?_
    refine Gx.region ?_
    refine Gx.val rfl rfl rfl (val_lss rfl rfl rfl) ?_
    refine Gx.done ?_
    refine Gx.thenN ?_
    refine Gx.seq ?_
    refine Gx.dec rfl (fun h2 => ?_) (fun h2 => ?_)
    · refine Gx.skip ?_
      refine Gx.thenN ?_
      refine Gx.seq ?_
      refine Gx.block ?_
      refine Gx.seq ?_
      obtain ⟨a, ha⟩ := get_of_lt (xs := xs) (k := j) (by omega)
      have ham := List.mem_of_getElem? ha
      have hal := hlt a ham
      refine Gx.region ?_
      refine Gx.val rfl rfl rfl (val_ixa rfl Try.underlying22 Try.ty28 rfl rfl (j := j) (rfl) (reach_base hs ha)) ?_
      refine Gx.val rfl rfl rfl (val_load rfl Try.ty28 rfl rfl (cell_base (i := 0) hs ha rfl)) ?_
      refine Gx.val rfl rfl rfl (val_assign rfl rfl) ?_
      refine Gx.done ?_
      refine Gx.thenN ?_
      refine Gx.seq ?_
      refine Gx.region ?_
      refine Gx.val rfl rfl rfl (val_move rfl rfl) ?_
      refine Gx.val rfl rfl rfl (val_move rfl rfl) ?_
      refine Gx.val rfl rfl rfl (val_and rfl rfl rfl (and32 hxl hal)) ?_
      refine Gx.val rfl rfl rfl (val_eql rfl rfl rfl) ?_
      refine Gx.done ?_
      refine Gx.thenN ?_
      refine Gx.decF rfl (fun h => ((hbl.mem x).1 hxm).1 a ham (by rw [Nat.and_comm]; omega)) ?_
      refine Gx.skip ?_
      refine Gx.blkN ?_
      refine Gx.thenN ?_
      refine Gx.region ?_
      refine Gx.val rfl rfl rfl (val_add rfl rfl rfl (r := ((j + 1 : Nat) : Int)) (w64 (by omega) (by omega))) ?_
      refine Gx.val rfl rfl rfl (val_move rfl rfl) ?_
      refine Gx.done ?_
      refine Gx.thenN ?_
      exact Gx.round (j + 1) (by first | omega | (dsimp only; omega)) (by first | omega | (dsimp only; omega)) ((.cons rfl (.cons rfl (.cons rfl (.cons rfl (.cons rfl (.cons rfl (.cons rfl (.cons rfl (.cons rfl (.cons rfl (.cons rfl .nil)))))))))))) rfl
    · refine Gx.exit ?_
      refine Gx.thenE ?_
      refine Gx.thenE ?_
      refine Gx.blkE ?_
      refine Gx.blkN ?_
      refine Gx.thenN ?_
      refine Gx.region ?_
      refine Gx.val rfl rfl rfl (val_add rfl rfl rfl (r := ((i + 1 : Nat) : Int)) (w64 (by omega) (by omega))) ?_
      refine Gx.val rfl rfl rfl (val_move rfl rfl) ?_
      refine Gx.done ?_
      refine Gx.thenN ?_
      exact Gx.round (i + 1) (by first | omega | (dsimp only; omega)) (by first | omega | (dsimp only; omega)) ((.cons rfl (.cons rfl (.cons rfl (.cons rfl (.cons rfl (.cons rfl (.cons rfl .nil)))))))) rfl
  · refine Gx.exit ?_
    refine Gx.thenE ?_
    refine Gx.thenE ?_
    refine Gx.blkE ?_
    refine Gx.thenN ?_
    refine Gx.seq ?_
    have hfb : Fmly n bl := hf.of hbn.1 hsm hbn.2.2
    refine Gx.region ?_
    refine Gx.val rfl rfl rfl (val_move rfl rfl) ?_
    refine Gx.val rfl rfl rfl (val_move rfl rfl) ?_
    refine Gx.eff rfl rfl rfl (eff_callN (vs := [.int .i64 n, bv]) rfl Try.fn12 rfl (fun w H => blocks12_yes ((H.at_ (k := 1) rfl).sls (by omega)) hfb )) ?_
    rintro _ _ ⟨_, ⟨gv, gl, higv, hgl, rfl, rfl⟩, rfl⟩
    refine Gx.norm (l' := [Hp.own FU 1 gv gl, Hp.own FU 1 lv ls, Hp.own FU 1 bv bl]) rfl ?_
    refine Gx.val rfl rfl rfl (val_move rfl rfl) ?_
    refine Gx.val rfl rfl rfl (val_extract rfl rfl rfl) ?_
    refine Gx.val rfl rfl rfl (val_extract rfl rfl rfl) ?_
    refine Gx.val rfl rfl rfl (val_assign rfl rfl) ?_
    refine Gx.val rfl rfl rfl (val_assign rfl rfl) ?_
    refine Gx.done ?_
    refine Gx.thenN ?_
    refine Gx.seq ?_
    refine Gx.seq ?_
    refine Gx.region ?_
    refine Gx.val rfl rfl rfl (val_move rfl rfl) ?_
    refine Gx.val rfl rfl rfl (Val.cast (val_neq rfl rfl rfl) (v' := .bool false) rfl) ?_
    refine Gx.done ?_
    refine Gx.thenN ?_
    refine Gx.f rfl ?_
    refine Gx.skip ?_
    refine Gx.thenN ?_
    refine Gx.seq ?_
    obtain rfl : gl = ls := berge (fun a ha => hf.lt ha) hbl hgl hls
    refine Gx.region ?_
    refine Gx.val rfl rfl rfl (val_move rfl rfl) ?_
    refine Gx.val rfl rfl rfl (val_move rfl rfl) ?_
    refine Gx.val rfl rfl rfl (val_call (vs := [gv, lv]) rfl Try.fn10 rfl (fun w H => (by have q := words_any ((H.at_ (k := 0) rfl).sls (by omega)) ((H.at_ (k := 1) rfl).sls (by omega)); rw [decide_eq_true rfl] at q; exact q))) ?_
    refine Gx.val rfl rfl rfl (val_assign rfl rfl) ?_
    refine Gx.done ?_
    refine Gx.thenN ?_
    refine Gx.ret ?_
    refine Gx.ret1 Try.results4 rfl ?_
    first | rfl | exact congrArg Value.bool (decide_eq_true (by omega))

theorem berge_big {W : World} {n : Int} {qv : Value} {xs : List Nat} (hs : SlS FU 1 W qv xs) (hlt : ∀ x ∈ xs, x < 4294967296) (hf : Fmly n xs) (hsz : ∀ bl, IsBlk xs bl → ¬ bl.length ≤ 64) :
    Calls Try.prog 4 #[.int .i64 n, qv] W fun e w' => e = .returned (.bool true) ∧ Below W.heap.size W w' := by
  have hm9 := sls_bd hs
  refine calls_pure (Gx.enter (l := []) Try.func4 rfl Try.ntmps4 rfl (Sat.start W) ?_)
  refine Gx.know (m' := [(0, .int .i64 n), (1, qv)]) (.cons rfl (.cons rfl .nil)) ?_
  refine Gx.seq ?_
  refine Gx.region ?_
  refine Gx.val rfl rfl rfl (val_assign rfl rfl) ?_
  refine Gx.done ?_
  refine Gx.thenN ?_
  refine Gx.seq ?_
  refine Gx.region ?_
  refine Gx.val rfl rfl rfl (val_move rfl rfl) ?_
  refine Gx.val rfl rfl rfl (val_move rfl rfl) ?_
  refine Gx.eff rfl rfl rfl (eff_callN (vs := [.int .i64 n, qv]) rfl Try.fn12 rfl (fun w H => blocks12_yes (hs.below H.below) hf )) ?_
  rintro _ _ ⟨_, ⟨bv, bl, hibv, hbl, rfl, rfl⟩, rfl⟩
  refine Gx.norm (l' := [Hp.own FU 1 bv bl]) rfl ?_
  refine Gx.val rfl rfl rfl (val_move rfl rfl) ?_
  refine Gx.val rfl rfl rfl (val_extract rfl rfl rfl) ?_
  refine Gx.val rfl rfl rfl (val_extract rfl rfl rfl) ?_
  refine Gx.val rfl rfl rfl (val_assign rfl rfl) ?_
  refine Gx.val rfl rfl rfl (val_assign rfl rfl) ?_
  refine Gx.done ?_
  refine Gx.thenN ?_
  refine Gx.seq ?_
  refine Gx.seq ?_
  have hfew := hf.few
  have hbn := hbl.len hf; have hno9 := hsz bl hbl
  have hblt : ∀ x ∈ bl, x < 4294967296 := fun x hx => by have := hbl.lt (n := 12) (fun a ha => (hf.lt12 ha).2) hx; omega
  refine Gx.region ?_
  refine Gx.val rfl rfl rfl (val_move rfl rfl) ?_
  refine Gx.val rfl rfl rfl (val_move rfl rfl) ?_
  refine Gx.val rfl rfl rfl (val_call (vs := [.int .i64 n, qv]) rfl Try.fn9 rfl (fun w H => kfam_yes (hs.below H.below) hlt true ⟨fun _ => hf, fun _ => rfl⟩)) ?_
  refine Gx.val rfl rfl rfl (Val.cast (val_not rfl rfl) (v' := .bool false) rfl) ?_
  refine Gx.done ?_
  refine Gx.thenN ?_
  refine Gx.f rfl ?_
  refine Gx.skip ?_
  refine Gx.thenN ?_
  refine Gx.seq ?_
  refine Gx.region ?_
  refine Gx.val rfl rfl rfl (val_move rfl rfl) ?_
  refine Gx.val rfl rfl rfl (val_move rfl rfl) ?_
  refine Gx.eff rfl rfl rfl (eff_callN (vs := [.int .i64 n, qv]) rfl Try.fn8 rfl (fun w H => least8_yes (hs.below H.below) hf )) ?_
  rintro _ _ ⟨_, ⟨lv, ls, hilv, hls, rfl, rfl⟩, rfl⟩
  refine Gx.norm (l' := [Hp.own FU 1 lv ls, Hp.own FU 1 bv bl]) rfl ?_
  refine Gx.val rfl rfl rfl (val_move rfl rfl) ?_
  refine Gx.val rfl rfl rfl (val_extract rfl rfl rfl) ?_
  refine Gx.val rfl rfl rfl (val_extract rfl rfl rfl) ?_
  refine Gx.val rfl rfl rfl (val_assign rfl rfl) ?_
  refine Gx.val rfl rfl rfl (val_assign rfl rfl) ?_
  refine Gx.done ?_
  refine Gx.thenN ?_
  refine Gx.seq ?_
  refine Gx.seq ?_
  have hfl := hf.least hls
  refine Gx.region ?_
  refine Gx.val rfl rfl rfl (val_move rfl rfl) ?_
  refine Gx.val rfl rfl rfl (Val.cast (val_neq rfl rfl rfl) (v' := .bool false) rfl) ?_
  refine Gx.val rfl rfl rfl (val_move rfl rfl) ?_
  refine Gx.valg rfl rfl rfl rfl rfl (val_move rfl rfl) ?_
  refine Gx.valg rfl rfl rfl rfl rfl (Val.cast (val_neq rfl rfl rfl) (v' := .bool false) rfl) ?_
  refine Gx.val rfl rfl rfl (val_pickF rfl rfl rfl) ?_
  refine Gx.val rfl rfl rfl (val_move rfl rfl) ?_
  refine Gx.valg rfl rfl rfl rfl rfl (val_move rfl rfl) ?_
  refine Gx.valg rfl rfl rfl rfl rfl (val_len rfl Try.underlying22 rfl (len_own (k := 1) rfl)) ?_
  refine Gx.valg rfl rfl rfl rfl rfl (val_eql rfl rfl rfl) ?_
  refine Gx.val rfl rfl rfl (val_pickF rfl rfl rfl) ?_
  refine Gx.done ?_
  refine Gx.thenN ?_
  refine Gx.decF rfl (by first | rfl | omega | (simp; done)) ?_
  refine Gx.skip ?_
  refine Gx.thenN ?_
  refine Gx.seq ?_
  refine Gx.seq ?_
  refine Gx.region ?_
  refine Gx.val rfl rfl rfl (val_move rfl rfl) ?_
  refine Gx.val rfl rfl rfl (val_len rfl Try.underlying22 rfl (len_own (k := 1) rfl)) ?_
  refine Gx.val rfl rfl rfl (val_move rfl rfl) ?_
  refine Gx.done ?_
  refine Gx.thenN ?_
  refine Gx.block ?_
  refine Gx.loop (ι := Nat) (fun ξ => (ξ ≤ bl.length)) (fun ξ => [(0, .int .i64 n), (1, qv), (5, bv), (7, lv), (43, bv), (44, .int .i64 ((bl.length : Nat) : Int)), (45, .int .i64 ((ξ : Nat) : Int))]) (fun ξ => [Hp.own FU 1 lv ls, Hp.own FU 1 bv bl]) (fun ξ => bl.length - ξ) 0 (by first | omega | (dsimp only; omega)) ((.cons rfl (.cons rfl (.cons rfl (.cons rfl (.cons rfl (.cons rfl (.cons rfl .nil)))))))) rfl ?_
  rintro i hi
  refine Gx.know (m' := [(0, .int .i64 n), (1, qv), (5, bv), (7, lv), (43, bv), (44, .int .i64 ((bl.length : Nat) : Int)), (45, .int .i64 ((i : Nat) : Int))]) (.cons rfl (.cons rfl (.cons rfl (.cons rfl (.cons rfl (.cons rfl (.cons rfl .nil))))))) (Gx.norm (l' := [Hp.own FU 1 lv ls, Hp.own FU 1 bv bl]) rfl ?_)
  refine Gx.seq ?_
  refine Gx.region ?_
  refine Gx.val rfl rfl rfl (val_lss rfl rfl rfl) ?_
  refine Gx.done ?_
  refine Gx.thenN ?_
  refine Gx.seq ?_
  refine Gx.dec rfl (fun h1 => ?_) (fun h1 => ?_)
  · refine Gx.skip ?_
    refine Gx.thenN ?_
    refine Gx.seq ?_
    refine Gx.block ?_
    refine Gx.seq ?_
    obtain ⟨x, hx⟩ := get_of_lt (xs := bl) (k := i) (by omega)
    have hxm := List.mem_of_getElem? hx
    have hxl := hblt x hxm
    refine Gx.region ?_
    refine Gx.val rfl rfl rfl (val_ixa rfl Try.underlying22 Try.ty28 rfl rfl (j := i) (rfl) (reach_own (k := 1) rfl hx)) ?_
    refine Gx.val rfl rfl rfl (val_load rfl Try.ty28 rfl rfl (cell_own (i := 0) (k := 1) rfl hx rfl)) ?_
    refine Gx.val rfl rfl rfl (val_assign rfl rfl) ?_
    refine Gx.done ?_
    refine Gx.thenN ?_
    refine Gx.seq ?_
    refine Gx.region ?_
    refine Gx.val rfl rfl rfl (val_move rfl rfl) ?_
    refine Gx.val rfl rfl rfl (val_len rfl Try.underlying22 rfl (len_base hs)) ?_
    refine Gx.val rfl rfl rfl (val_move rfl rfl) ?_
    refine Gx.done ?_
    refine Gx.thenN ?_
    refine Gx.block ?_
    refine Gx.loop (ι := Nat) (fun ξ => (ξ ≤ xs.length)) (fun ξ => [(0, .int .i64 n), (1, qv), (5, bv), (7, lv), (10, .int .u32 ((x : Nat) : Int)), (43, bv), (44, .int .i64 ((bl.length : Nat) : Int)), (45, .int .i64 ((i : Nat) : Int)), (49, qv), (50, .int .i64 ((xs.length : Nat) : Int)), (51, .int .i64 ((ξ : Nat) : Int))]) (fun ξ => [Hp.own FU 1 lv ls, Hp.own FU 1 bv bl]) (fun ξ => xs.length - ξ) 0 (by first | omega | (dsimp only; omega)) ((.cons rfl (.cons rfl (.cons rfl (.cons rfl (.cons rfl (.cons rfl (.cons rfl (.cons rfl (.cons rfl (.cons rfl (.cons rfl .nil)))))))))))) rfl ?_
    rintro j hj
    refine Gx.know (m' := [(0, .int .i64 n), (1, qv), (5, bv), (7, lv), (10, .int .u32 ((x : Nat) : Int)), (43, bv), (44, .int .i64 ((bl.length : Nat) : Int)), (45, .int .i64 ((i : Nat) : Int)), (49, qv), (50, .int .i64 ((xs.length : Nat) : Int)), (51, .int .i64 ((j : Nat) : Int))]) (.cons rfl (.cons rfl (.cons rfl (.cons rfl (.cons rfl (.cons rfl (.cons rfl (.cons rfl (.cons rfl (.cons rfl (.cons rfl .nil))))))))))) (Gx.norm (l' := [Hp.own FU 1 lv ls, Hp.own FU 1 bv bl]) rfl ?_)
    refine Gx.seq ?_
    refine Gx.region ?_
    refine Gx.val rfl rfl rfl (val_lss rfl rfl rfl) ?_
    refine Gx.done ?_
    refine Gx.thenN ?_
    refine Gx.seq ?_
    refine Gx.dec rfl (fun h2 => ?_) (fun h2 => ?_)
    · refine Gx.skip ?_
      refine Gx.thenN ?_
      refine Gx.seq ?_
      refine Gx.block ?_
      refine Gx.seq ?_
      obtain ⟨a, ha⟩ := get_of_lt (xs := xs) (k := j) (by omega)
      have ham := List.mem_of_getElem? ha
      have hal := hlt a ham
      refine Gx.region ?_
      refine Gx.val rfl rfl rfl (val_ixa rfl Try.underlying22 Try.ty28 rfl rfl (j := j) (rfl) (reach_base hs ha)) ?_
      refine Gx.val rfl rfl rfl (val_load rfl Try.ty28 rfl rfl (cell_base (i := 0) hs ha rfl)) ?_
      refine Gx.val rfl rfl rfl (val_assign rfl rfl) ?_
      refine Gx.done ?_
      refine Gx.thenN ?_
      refine Gx.seq ?_
      refine Gx.region ?_
      refine Gx.val rfl rfl rfl (val_move rfl rfl) ?_
      refine Gx.val rfl rfl rfl (val_move rfl rfl) ?_
      refine Gx.val rfl rfl rfl (val_and rfl rfl rfl (and32 hxl hal)) ?_
      refine Gx.val rfl rfl rfl (val_eql rfl rfl rfl) ?_
      refine Gx.done ?_
      refine Gx.thenN ?_
      refine Gx.decF rfl (fun h => ((hbl.mem x).1 hxm).1 a ham (by rw [Nat.and_comm]; omega)) ?_
      refine Gx.skip ?_
      refine Gx.blkN ?_
      refine Gx.thenN ?_
      refine Gx.region ?_
      refine Gx.val rfl rfl rfl (val_add rfl rfl rfl (r := ((j + 1 : Nat) : Int)) (w64 (by omega) (by omega))) ?_
      refine Gx.val rfl rfl rfl (val_move rfl rfl) ?_
      refine Gx.done ?_
      refine Gx.thenN ?_
      exact Gx.round (j + 1) (by first | omega | (dsimp only; omega)) (by first | omega | (dsimp only; omega)) ((.cons rfl (.cons rfl (.cons rfl (.cons rfl (.cons rfl (.cons rfl (.cons rfl (.cons rfl (.cons rfl (.cons rfl (.cons rfl .nil)))))))))))) rfl
    · refine Gx.exit ?_
      refine Gx.thenE ?_
      refine Gx.thenE ?_
      refine Gx.blkE ?_
      refine Gx.blkN ?_
      refine Gx.thenN ?_
      refine Gx.region ?_
      refine Gx.val rfl rfl rfl (val_add rfl rfl rfl (r := ((i + 1 : Nat) : Int)) (w64 (by omega) (by omega))) ?_
      refine Gx.val rfl rfl rfl (val_move rfl rfl) ?_
      refine Gx.done ?_
      refine Gx.thenN ?_
      exact Gx.round (i + 1) (by first | omega | (dsimp only; omega)) (by first | omega | (dsimp only; omega)) ((.cons rfl (.cons rfl (.cons rfl (.cons rfl (.cons rfl (.cons rfl (.cons rfl .nil)))))))) rfl
  · refine Gx.exit ?_
    refine Gx.thenE ?_
    refine Gx.thenE ?_
    refine Gx.blkE ?_
    refine Gx.thenN ?_
    refine Gx.seq ?_
    have hbig : 64 < bl.length := Classical.byContradiction fun q => hno9 (by omega)
    have hno : ¬ Fmly n bl := fun h => by have := h.few; omega
    refine Gx.region ?_
    refine Gx.val rfl rfl rfl (val_move rfl rfl) ?_
    refine Gx.val rfl rfl rfl (val_move rfl rfl) ?_
    refine Gx.eff rfl rfl rfl (eff_callE (vs := [.int .i64 n, bv]) rfl Try.fn12 rfl (R := fun v => ∃ c : Int, c ≠ 0 ∧ v = .tuple #[.slice none 0 0, .int .i64 c]) (fun w H => blocks12_no ((H.at_ (k := 1) rfl).sls (by omega)) hno)) ?_
    rintro _ _ ⟨⟨zz, hzz, rfl⟩, rfl⟩
    refine Gx.val rfl rfl rfl (val_move rfl rfl) ?_
    refine Gx.val rfl rfl rfl (val_extract rfl rfl rfl) ?_
    refine Gx.val rfl rfl rfl (val_extract rfl rfl rfl) ?_
    refine Gx.val rfl rfl rfl (val_assign rfl rfl) ?_
    refine Gx.val rfl rfl rfl (val_assign rfl rfl) ?_
    refine Gx.done ?_
    refine Gx.thenN ?_
    refine Gx.seq ?_
    refine Gx.seq ?_
    refine Gx.region ?_
    refine Gx.val rfl rfl rfl (val_move rfl rfl) ?_
    refine Gx.val rfl rfl rfl (val_neq rfl rfl rfl) ?_
    refine Gx.done ?_
    refine Gx.thenN ?_
    refine Gx.decT rfl (by omega) ?_
    refine Gx.seq ?_
    refine Gx.region ?_
    refine Gx.val rfl rfl rfl (val_move rfl rfl) ?_
    refine Gx.val rfl rfl rfl (val_len rfl Try.underlying22 rfl (len_own (k := 1) rfl)) ?_
    refine Gx.val rfl rfl rfl (val_gtr rfl rfl rfl) ?_
    refine Gx.val rfl rfl rfl (val_assign rfl rfl) ?_
    refine Gx.done ?_
    refine Gx.thenN ?_
    refine Gx.ret ?_
    refine Gx.thenR ?_
    refine Gx.ret1 Try.results4 rfl ?_
    first | rfl | exact congrArg Value.bool (decide_eq_true (by omega))

theorem berge_yes {W : World} {n : Int} {qv : Value} {xs : List Nat} (hs : SlS FU 1 W qv xs) (hlt : ∀ x ∈ xs, x < 4294967296) (hf : Fmly n xs) :
    Calls Try.prog 4 #[.int .i64 n, qv] W fun e w' => e = .returned (.bool true) ∧ Below W.heap.size W w' := by
  by_cases h : ∀ bl, IsBlk xs bl → bl.length ≤ 64
  · exact berge_small hs hlt hf h
  · refine berge_big hs hlt hf fun bl hb hle => h fun bl' hb' => ?_
    rw [hb'.uniq hb]; exact hle
theorem berge_any {W : World} {n : Int} {qv : Value} {xs : List Nat} (hs : SlS FU 1 W qv xs) (hlt : ∀ x ∈ xs, x < 4294967296) :
    Calls Try.prog 4 #[.int .i64 n, qv] W fun e w' => e = .returned (.bool true) ∧ Below W.heap.size W w' := by
  by_cases hf : Fmly n xs
  · exact berge_yes hs hlt hf
  · exact berge_bad hs hlt hf
end Go.Proofs.Ytpjkpnfelpfhaaa
