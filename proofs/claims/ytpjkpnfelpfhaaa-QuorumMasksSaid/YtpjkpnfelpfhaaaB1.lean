/- Least and Blocks of a family. The walks. No condition. -/
import Derived.Test.YtpjkpnfelpfhaaaA3
namespace Go.Proofs.Ytpjkpnfelpfhaaa
open Go.RowKit
set_option linter.unusedVariables false
set_option linter.unusedSimpArgs false
set_option maxRecDepth 100000

theorem Fmly.lt {n : Int} {xs : List Nat} (h : Fmly n xs) {w : Nat} (hw : w ∈ xs) : w < 2 ^ n.toNat := Nat.lt_pow_two_of_testBit _ fun i hi => shr_zero.1 (h.all w hw).2 i hi
theorem Fmly.lt12 {n : Int} {xs : List Nat} (h : Fmly n xs) {w : Nat} (hw : w ∈ xs) : w ≠ 0 ∧ w < 4096 := ⟨(h.all w hw).1, Nat.lt_of_lt_of_le (h.lt hw) (show 2 ^ n.toNat ≤ 2 ^ 12 from Nat.pow_le_pow_right (by decide) (by have := h.hi; omega))⟩
theorem Fmly.of {n : Int} {xs ys : List Nat} (h : Fmly n xs) (h0 : 0 < ys.length) (hl : ys.length ≤ 64) (hy : ∀ w ∈ ys, w ≠ 0 ∧ w < 2 ^ n.toNat) : Fmly n ys := ⟨h.lo, h.hi, hl, h0, fun w hw => ⟨(hy w hw).1, by rw [Nat.shiftRight_eq_div_pow, Nat.div_eq_of_lt (hy w hw).2]⟩⟩
theorem Fmly.least {n : Int} {xs ls : List Nat} (h : Fmly n xs) (hl : IsLeast xs ls) : Fmly n ls ∧ ls.length ≤ xs.length := by
  have h1 := nodup_len (up_nodup hl.up) fun x hx => ((hl.mem x).1 hx).1
  exact ⟨h.of (hl.pos h.some) (by have := h.few; omega) fun w hw => ⟨(h.all w ((hl.mem w).1 hw).1).1, h.lt ((hl.mem w).1 hw).1⟩, h1⟩
theorem IsBlk.len {n : Int} {xs bl : List Nat} (h : Fmly n xs) (hb : IsBlk xs bl) : 0 < bl.length ∧ bl.length ≤ 4096 ∧ ∀ b ∈ bl, b ≠ 0 ∧ b < 2 ^ n.toNat := by
  refine ⟨hb.pos (n := 12) fun a ha => h.lt12 ha, ?_, fun b hm => ⟨fun e => ?_, hb.lt (fun a ha => h.lt ha) hm⟩⟩
  · have := up_len (N := 4096) (lo := 0) hb.up (fun x hx => ⟨Nat.zero_le _, hb.lt (n := 12) (fun a ha => (h.lt12 ha).2) hx⟩)
    omega
  · subst e
    obtain ⟨x, hx⟩ := get_of_lt (xs := xs) (k := 0) h.some
    exact ((hb.mem 0).1 hm).1 x (List.mem_of_getElem? hx) (Nat.and_zero x)
theorem least8_yes {W : World} {n : Int} {qv : Value} {xs : List Nat} (hs : SlS FU 1 W qv xs) (hf : Fmly n xs) :
    Calls Try.prog 8 #[.int .i64 n, qv] W (Ret W fun u l' => ∃ (lv : Value) (ls : List Nat), IsS lv ∧ IsLeast xs ls ∧ u = .tuple #[lv, .int .i64 0] ∧ l' = [Hp.own FU 1 lv ls]) := by
  refine Gx.enter (l := []) Try.func8 rfl Try.ntmps8 rfl (Sat.start W) ?_
  refine Gx.know (m' := [(0, .int .i64 n), (1, qv)]) (.cons rfl (.cons rfl .nil)) ?_
  refine Gx.seq ?_
  refine Gx.region ?_
  refine Gx.val rfl rfl rfl (val_assign rfl rfl) ?_
  refine Gx.val rfl rfl rfl (val_assign rfl rfl) ?_
  refine Gx.done ?_
  refine Gx.thenN ?_
  refine Gx.seq ?_
  refine Gx.seq ?_
  refine Gx.region ?_
  refine Gx.val rfl rfl rfl (val_move rfl rfl) ?_
  refine Gx.val rfl rfl rfl (val_move rfl rfl) ?_
  refine Gx.eff rfl rfl rfl (eff_callE (vs := [.int .i64 n, qv]) rfl Try.fn18 rfl (R := fun v => ∃ c : Int, v = .int .i64 c ∧ (c = 0 ↔ Fmly n xs)) (fun w H => family_any (hs.below H.below))) ?_
  rintro _ _ ⟨⟨cc, rfl, hcc⟩, rfl⟩
  refine Gx.val rfl rfl rfl (val_assign rfl rfl) ?_
  refine Gx.done ?_
  refine Gx.thenN ?_
  refine Gx.seq ?_
  have hc0 : cc = 0 := hcc.2 hf
  refine Gx.region ?_
  refine Gx.val rfl rfl rfl (val_move rfl rfl) ?_
  refine Gx.val rfl rfl rfl (val_neq rfl rfl rfl) ?_
  refine Gx.done ?_
  refine Gx.thenN ?_
  refine Gx.decF rfl (by omega) ?_
  refine Gx.skip ?_
  refine Gx.thenN ?_
  refine Gx.seq ?_
  refine Gx.region ?_
  refine Gx.val rfl rfl rfl (val_move rfl rfl) ?_
  refine Gx.eff rfl rfl rfl (eff_callN (vs := [qv]) rfl Try.fn19 rfl (fun w H => least_any (hs.below H.below) hf.some (by have := hf.few; omega) (fun x hx => by have := (hf.lt12 hx).2; omega))) ?_
  rintro lv _ ⟨_, ⟨ls, hlv, hls, rfl⟩, rfl⟩
  refine Gx.norm (l' := [Hp.own FU 1 lv ls]) rfl ?_
  refine Gx.val rfl rfl rfl (val_assign rfl rfl) ?_
  refine Gx.val rfl rfl rfl (val_assign rfl rfl) ?_
  refine Gx.done ?_
  refine Gx.thenN ?_
  refine Gx.ret ?_
  refine Gx.ret2 Try.results8 rfl rfl ?_
  exact ⟨lv, ls, hlv, hls, rfl, rfl⟩

theorem least8_no {W : World} {n : Int} {qv : Value} {xs : List Nat} (hs : SlS FU 1 W qv xs) (hf : ¬ Fmly n xs) :
    Calls Try.prog 8 #[.int .i64 n, qv] W fun e w' => ∃ v, e = .returned v ∧ (∃ c : Int, c ≠ 0 ∧ v = .tuple #[.slice none 0 0, .int .i64 c]) ∧ Below W.heap.size W w' := by
  refine calls_rel (R := fun v => ∃ c : Int, c ≠ 0 ∧ v = .tuple #[.slice none 0 0, .int .i64 c]) (Gx.enter (l := []) Try.func8 rfl Try.ntmps8 rfl (Sat.start W) ?_)
  refine Gx.know (m' := [(0, .int .i64 n), (1, qv)]) (.cons rfl (.cons rfl .nil)) ?_
  refine Gx.seq ?_
  refine Gx.region ?_
  refine Gx.val rfl rfl rfl (val_assign rfl rfl) ?_
  refine Gx.val rfl rfl rfl (val_assign rfl rfl) ?_
  refine Gx.done ?_
  refine Gx.thenN ?_
  refine Gx.seq ?_
  refine Gx.seq ?_
  refine Gx.region ?_
  refine Gx.val rfl rfl rfl (val_move rfl rfl) ?_
  refine Gx.val rfl rfl rfl (val_move rfl rfl) ?_
  refine Gx.eff rfl rfl rfl (eff_callE (vs := [.int .i64 n, qv]) rfl Try.fn18 rfl (R := fun v => ∃ c : Int, v = .int .i64 c ∧ (c = 0 ↔ Fmly n xs)) (fun w H => family_any (hs.below H.below))) ?_
  rintro _ _ ⟨⟨cc, rfl, hcc⟩, rfl⟩
  refine Gx.val rfl rfl rfl (val_assign rfl rfl) ?_
  refine Gx.done ?_
  refine Gx.thenN ?_
  refine Gx.seq ?_
  have hc0 : cc ≠ 0 := fun e => hf (hcc.1 e)
  refine Gx.region ?_
  refine Gx.val rfl rfl rfl (val_move rfl rfl) ?_
  refine Gx.val rfl rfl rfl (val_neq rfl rfl rfl) ?_
  refine Gx.done ?_
  refine Gx.thenN ?_
  refine Gx.decT rfl (by omega) ?_
  refine Gx.seq ?_
  refine Gx.region ?_
  refine Gx.val rfl rfl rfl (val_move rfl rfl) ?_
  refine Gx.val rfl rfl rfl (val_assign rfl rfl) ?_
  refine Gx.val rfl rfl rfl (val_assign rfl rfl) ?_
  refine Gx.done ?_
  refine Gx.thenN ?_
  refine Gx.ret ?_
  refine Gx.thenR ?_
  refine Gx.ret2 Try.results8 rfl rfl ?_
  exact ⟨_, hc0, rfl⟩

theorem blocks12_yes {W : World} {n : Int} {qv : Value} {xs : List Nat} (hs : SlS FU 1 W qv xs) (hf : Fmly n xs) :
    Calls Try.prog 12 #[.int .i64 n, qv] W (Ret W fun u l' => ∃ (lv : Value) (ls : List Nat), IsS lv ∧ IsBlk xs ls ∧ u = .tuple #[lv, .int .i64 0] ∧ l' = [Hp.own FU 1 lv ls]) := by
  refine Gx.enter (l := []) Try.func12 rfl Try.ntmps12 rfl (Sat.start W) ?_
  refine Gx.know (m' := [(0, .int .i64 n), (1, qv)]) (.cons rfl (.cons rfl .nil)) ?_
  refine Gx.seq ?_
  refine Gx.region ?_
  refine Gx.val rfl rfl rfl (val_assign rfl rfl) ?_
  refine Gx.val rfl rfl rfl (val_assign rfl rfl) ?_
  refine Gx.done ?_
  refine Gx.thenN ?_
  refine Gx.seq ?_
  refine Gx.seq ?_
  refine Gx.region ?_
  refine Gx.val rfl rfl rfl (val_move rfl rfl) ?_
  refine Gx.val rfl rfl rfl (val_move rfl rfl) ?_
  refine Gx.eff rfl rfl rfl (eff_callE (vs := [.int .i64 n, qv]) rfl Try.fn18 rfl (R := fun v => ∃ c : Int, v = .int .i64 c ∧ (c = 0 ↔ Fmly n xs)) (fun w H => family_any (hs.below H.below))) ?_
  rintro _ _ ⟨⟨cc, rfl, hcc⟩, rfl⟩
  refine Gx.val rfl rfl rfl (val_assign rfl rfl) ?_
  refine Gx.done ?_
  refine Gx.thenN ?_
  refine Gx.seq ?_
  have hc0 : cc = 0 := hcc.2 hf
  refine Gx.region ?_
  refine Gx.val rfl rfl rfl (val_move rfl rfl) ?_
  refine Gx.val rfl rfl rfl (val_neq rfl rfl rfl) ?_
  refine Gx.done ?_
  refine Gx.thenN ?_
  refine Gx.decF rfl (by omega) ?_
  refine Gx.skip ?_
  refine Gx.thenN ?_
  refine Gx.seq ?_
  refine Gx.region ?_
  refine Gx.val rfl rfl rfl (val_move rfl rfl) ?_
  refine Gx.eff rfl rfl rfl (eff_callN (vs := [qv]) rfl Try.fn21 rfl (fun w H => blocks_any (hs.below H.below) hf.some (by have := hf.few; omega) (fun x hx => hf.lt12 hx))) ?_
  rintro lv _ ⟨_, ⟨ls, hlv, hls, rfl⟩, rfl⟩
  refine Gx.norm (l' := [Hp.own FU 1 lv ls]) rfl ?_
  refine Gx.val rfl rfl rfl (val_assign rfl rfl) ?_
  refine Gx.val rfl rfl rfl (val_assign rfl rfl) ?_
  refine Gx.done ?_
  refine Gx.thenN ?_
  refine Gx.ret ?_
  refine Gx.ret2 Try.results12 rfl rfl ?_
  exact ⟨lv, ls, hlv, hls, rfl, rfl⟩

theorem blocks12_no {W : World} {n : Int} {qv : Value} {xs : List Nat} (hs : SlS FU 1 W qv xs) (hf : ¬ Fmly n xs) :
    Calls Try.prog 12 #[.int .i64 n, qv] W fun e w' => ∃ v, e = .returned v ∧ (∃ c : Int, c ≠ 0 ∧ v = .tuple #[.slice none 0 0, .int .i64 c]) ∧ Below W.heap.size W w' := by
  refine calls_rel (R := fun v => ∃ c : Int, c ≠ 0 ∧ v = .tuple #[.slice none 0 0, .int .i64 c]) (Gx.enter (l := []) Try.func12 rfl Try.ntmps12 rfl (Sat.start W) ?_)
  refine Gx.know (m' := [(0, .int .i64 n), (1, qv)]) (.cons rfl (.cons rfl .nil)) ?_
  refine Gx.seq ?_
  refine Gx.region ?_
  refine Gx.val rfl rfl rfl (val_assign rfl rfl) ?_
  refine Gx.val rfl rfl rfl (val_assign rfl rfl) ?_
  refine Gx.done ?_
  refine Gx.thenN ?_
  refine Gx.seq ?_
  refine Gx.seq ?_
  refine Gx.region ?_
  refine Gx.val rfl rfl rfl (val_move rfl rfl) ?_
  refine Gx.val rfl rfl rfl (val_move rfl rfl) ?_
  refine Gx.eff rfl rfl rfl (eff_callE (vs := [.int .i64 n, qv]) rfl Try.fn18 rfl (R := fun v => ∃ c : Int, v = .int .i64 c ∧ (c = 0 ↔ Fmly n xs)) (fun w H => family_any (hs.below H.below))) ?_
  rintro _ _ ⟨⟨cc, rfl, hcc⟩, rfl⟩
  refine Gx.val rfl rfl rfl (val_assign rfl rfl) ?_
  refine Gx.done ?_
  refine Gx.thenN ?_
  refine Gx.seq ?_
  have hc0 : cc ≠ 0 := fun e => hf (hcc.1 e)
  refine Gx.region ?_
  refine Gx.val rfl rfl rfl (val_move rfl rfl) ?_
  refine Gx.val rfl rfl rfl (val_neq rfl rfl rfl) ?_
  refine Gx.done ?_
  refine Gx.thenN ?_
  refine Gx.decT rfl (by omega) ?_
  refine Gx.seq ?_
  refine Gx.region ?_
  refine Gx.val rfl rfl rfl (val_move rfl rfl) ?_
  refine Gx.val rfl rfl rfl (val_assign rfl rfl) ?_
  refine Gx.val rfl rfl rfl (val_assign rfl rfl) ?_
  refine Gx.done ?_
  refine Gx.thenN ?_
  refine Gx.ret ?_
  refine Gx.thenR ?_
  refine Gx.ret2 Try.results12 rfl rfl ?_
  exact ⟨_, hc0, rfl⟩

theorem kfam_yes {W : World} {n : Int} {qv : Value} {xs : List Nat} (hs : SlS FU 1 W qv xs) (hlt : ∀ x ∈ xs, x < 4294967296) (b0 : Bool) (hf : b0 = true ↔ Fmly n xs) :
    Calls Try.prog 9 #[.int .i64 n, qv] W fun e w' => e = .returned (.bool b0) ∧ Below W.heap.size W w' := by
  refine (kfam_any hs hlt).mono ?_
  rintro e w' ⟨v, rfl, ⟨b, rfl, hb⟩, hB⟩
  obtain rfl : b = b0 := by
    have := hb.trans hf.symm
    cases b <;> cases b0 <;> simp_all
  exact ⟨rfl, hB⟩
theorem holds_any {W : World} {lv : Value} {ls : List Nat} {w : Nat} (hl : SlS FU 1 W lv ls) (hlt : ∀ x ∈ ls, x < 4294967296) (hw : w < 4294967296) :
    Calls Try.prog 11 #[lv, .int .u32 ((w : Nat) : Int)] W fun e w' => e = .returned (.bool (ls.any fun a => decide (a &&& w = a))) ∧ Below W.heap.size W w' := by
  have hm9 := sls_bd hl
  refine calls_pure (Gx.enter (l := []) Try.func11 rfl Try.ntmps11 rfl (Sat.start W) ?_)
  refine Gx.know (m' := [(0, lv), (1, .int .u32 ((w : Nat) : Int))]) (.cons rfl (.cons rfl .nil)) ?_
  refine Gx.seq ?_
  refine Gx.region ?_
  refine Gx.val rfl rfl rfl (val_assign rfl rfl) ?_
  refine Gx.done ?_
  refine Gx.thenN ?_
  refine Gx.seq ?_
  refine Gx.seq ?_
  refine Gx.region ?_
  refine Gx.val rfl rfl rfl (val_move rfl rfl) ?_
  refine Gx.val rfl rfl rfl (val_len rfl Try.underlying22 rfl (len_base hl)) ?_
  refine Gx.val rfl rfl rfl (val_move rfl rfl) ?_
  refine Gx.done ?_
  refine Gx.thenN ?_
  refine Gx.block ?_
  refine Gx.loop (ι := Nat) (fun ξ => (ξ ≤ ls.length) ∧ ((ls.take ξ).any (fun a => decide (a &&& w = a)) = false)) (fun ξ => [(1, .int .u32 ((w : Nat) : Int)), (4, .bool false), (7, lv), (8, .int .i64 ((ls.length : Nat) : Int)), (9, .int .i64 ((ξ : Nat) : Int))]) (fun ξ => []) (fun ξ => ls.length - ξ) 0 ⟨by first | omega | (dsimp only; omega), rfl⟩ ((.cons rfl (.cons rfl (.cons rfl (.cons rfl (.cons rfl .nil)))))) rfl ?_
  rintro i ⟨hi, hno⟩
  refine Gx.know (m' := [(1, .int .u32 ((w : Nat) : Int)), (4, .bool false), (7, lv), (8, .int .i64 ((ls.length : Nat) : Int)), (9, .int .i64 ((i : Nat) : Int))]) (.cons rfl (.cons rfl (.cons rfl (.cons rfl (.cons rfl .nil))))) (Gx.norm (l' := []) rfl ?_)
  refine Gx.seq ?_
  refine Gx.region ?_
  refine Gx.val rfl rfl rfl (val_lss rfl rfl rfl) ?_
  refine Gx.done ?_
  refine Gx.thenN ?_
  refine Gx.seq ?_
  refine Gx.dec rfl (fun h1 => ?_) (fun h1 => ?_)
  · refine Gx.skip ?_
    refine Gx.thenN ?_
    refine Gx.seq ?_
    refine Gx.block ?_
    refine Gx.seq ?_
    obtain ⟨a, ha⟩ := get_of_lt (xs := ls) (k := i) (by omega)
    have hal := hlt a (List.mem_of_getElem? ha)
    refine Gx.region ?_
    refine Gx.val rfl rfl rfl (val_ixa rfl Try.underlying22 Try.ty28 rfl rfl (j := i) (rfl) (reach_base hl ha)) ?_
    refine Gx.val rfl rfl rfl (val_load rfl Try.ty28 rfl rfl (cell_base (i := 0) hl ha rfl)) ?_
    refine Gx.val rfl rfl rfl (val_assign rfl rfl) ?_
    refine Gx.done ?_
    refine Gx.thenN ?_
    refine Gx.seq ?_
    refine Gx.region ?_
    refine Gx.val rfl rfl rfl (val_move rfl rfl) ?_
    refine Gx.val rfl rfl rfl (val_move rfl rfl) ?_
    refine Gx.val rfl rfl rfl (val_or rfl rfl rfl (or32 hal hw)) ?_
    refine Gx.val rfl rfl rfl (val_move rfl rfl) ?_
    refine Gx.val rfl rfl rfl (val_eql rfl rfl rfl) ?_
    refine Gx.done ?_
    refine Gx.thenN ?_
    refine Gx.dec rfl (fun h2 => ?_) (fun h2 => ?_)
    · refine Gx.seq ?_
      refine Gx.region ?_
      refine Gx.val rfl rfl rfl (val_assign rfl rfl) ?_
      refine Gx.done ?_
      refine Gx.thenN ?_
      refine Gx.ret ?_
      refine Gx.blkR ?_
      refine Gx.thenR ?_
      refine Gx.thenR ?_
      refine Gx.blkR ?_
      refine Gx.thenR ?_
      refine Gx.ret1 Try.results11 rfl ?_
      exact congrArg Value.bool (Eq.symm (List.any_eq_true.2 ⟨a, List.mem_of_getElem? ha, decide_eq_true (or_in.1 (by omega))⟩))
    · refine Gx.skip ?_
      refine Gx.blkN ?_
      refine Gx.thenN ?_
      refine Gx.region ?_
      refine Gx.val rfl rfl rfl (val_add rfl rfl rfl (r := ((i + 1 : Nat) : Int)) (w64 (by omega) (by omega))) ?_
      refine Gx.val rfl rfl rfl (val_move rfl rfl) ?_
      refine Gx.done ?_
      refine Gx.thenN ?_
      exact Gx.round (i + 1) ⟨by first | omega | (dsimp only; omega), by
        rw [take_snoc9 ha, List.any_append, hno]
        simp only [List.any_cons, List.any_nil, Bool.or_false, Bool.false_or]
        exact decide_eq_false (fun h => by have := or_in.2 h; omega)⟩ (by first | omega | (dsimp only; omega)) ((.cons rfl (.cons rfl (.cons rfl (.cons rfl (.cons rfl .nil)))))) rfl
  · refine Gx.exit ?_
    refine Gx.thenE ?_
    refine Gx.thenE ?_
    refine Gx.blkE ?_
    refine Gx.thenN ?_
    refine Gx.seq ?_
    refine Gx.region ?_
    refine Gx.val rfl rfl rfl (val_assign rfl rfl) ?_
    refine Gx.done ?_
    refine Gx.thenN ?_
    refine Gx.ret ?_
    refine Gx.ret1 Try.results11 rfl ?_
    exact congrArg Value.bool (by rw [List.take_of_length_le (by omega)] at hno; exact hno.symm)

end Go.Proofs.Ytpjkpnfelpfhaaa
