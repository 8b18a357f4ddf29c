/- Who is chosen. The walks. No condition. -/
import Derived.Test.YteejbaindbiimaaB1
namespace Go.Proofs.Yteejbaindbiimaa
open Go.RowKit
set_option linter.unusedVariables false
set_option linter.unusedSimpArgs false
set_option maxRecDepth 100000

def greatN (names : List Int) : Nat → Nat
  | 0 => 0
  | i + 1 => if nmI names (greatN names i) < nmI names i then i else greatN names i
theorem greatN_lt (names : List Int) (n : Nat) : ∀ i, i ≤ n → 1 ≤ n → greatN names i < n
  | 0, _, h => h
  | i + 1, hi, h => by
    simp only [greatN]
    split
    · omega
    · exact greatN_lt names n i (by omega) h
theorem greatN_le (names : List Int) : ∀ i k, k < i → nmI names k ≤ nmI names (greatN names i)
  | 0, k, h => absurd h (Nat.not_lt_zero _)
  | i + 1, k, h => by
    simp only [greatN]
    rcases Nat.lt_or_eq_of_le (Nat.le_of_lt_succ h) with c | c
    · have := greatN_le names i k c
      split <;> omega
    · subst c
      split <;> omega
theorem great_is {names : List Int} {c : Nat} (hc : c < names.length) (h : ∀ k, k < names.length → k ≠ c → nmI names k < nmI names c) : greatN names names.length = c := by
  have h1 := greatN_lt names names.length names.length (Nat.le_refl _) (by omega)
  have h2 := greatN_le names names.length c hc
  by_cases e : greatN names names.length = c
  · exact e
  · have := h _ h1 e; omega
theorem nmI_at {names : List Int} {i : Nat} {x : Int} (h : names[i]? = some x) : nmI names i = x := by unfold nmI; rw [h]; rfl
theorem great_any {W : World} {nv : Value} {names : List Int} (hm : SlS SZ 1 W nv names) (h1n : 1 ≤ names.length) : Calls Try.prog 8 #[nv] W fun e w' => e = .returned (.int .i64 ((greatN names names.length : Nat) : Int)) ∧ Below W.heap.size W w' := by
  have m1 := sls_bd hm
  refine calls_pure (Gx.enter (l := []) Try.func8 rfl Try.ntmps8 rfl (Sat.start W) ?_)
  refine Gx.know (m' := [(0, nv)]) (.cons rfl .nil) ?_
  refine Gx.seq ?_
  refine Gx.region ?_
  refine Gx.val rfl rfl rfl (val_assign rfl rfl) ?_
  refine Gx.done ?_
  refine Gx.thenN ?_
  refine Gx.seq ?_
  refine Gx.region ?_
  refine Gx.val rfl rfl rfl (val_assign rfl rfl) ?_
  refine Gx.done ?_
  refine Gx.thenN ?_
  refine Gx.seq ?_
  refine Gx.seq ?_
  refine Gx.region ?_
  refine Gx.val rfl rfl rfl (val_assign rfl rfl) ?_
  refine Gx.done ?_
  refine Gx.thenN ?_
  refine Gx.block ?_
  refine Gx.loop (ι := Nat × Nat) (fun ξ => (ξ.1 ≤ names.length) ∧ (ξ.2 = greatN names ξ.1) ∧ (ξ.2 < names.length)) (fun ξ => [(0, nv), (3, .int .i64 ((ξ.2 : Nat) : Int)), (4, .int .i64 ((ξ.1 : Nat) : Int))]) (fun ξ => []) (fun ξ => names.length - ξ.1) (0, 0) ⟨by first | omega | (dsimp only; omega), rfl, h1n⟩ ((.cons rfl (.cons rfl (.cons rfl .nil)))) rfl ?_
  rintro ⟨i, b⟩ ⟨hi, hb, hbl⟩
  dsimp only at hi hb hbl
  refine Gx.know (m' := [(0, nv), (3, .int .i64 ((b : Nat) : Int)), (4, .int .i64 ((i : Nat) : Int))]) (.cons rfl (.cons rfl (.cons rfl .nil))) (Gx.norm (l' := []) rfl ?_)
  refine Gx.seq ?_
  refine Gx.seq ?_
  refine Gx.region ?_
  refine Gx.val rfl rfl rfl (val_move rfl rfl) ?_
  refine Gx.val rfl rfl rfl (val_move rfl rfl) ?_
  refine Gx.val rfl rfl rfl (val_len rfl Try.underlying22 rfl (len_base hm)) ?_
  refine Gx.val rfl rfl rfl (val_lss rfl rfl rfl) ?_
  refine Gx.done ?_
  refine Gx.thenN ?_
  refine Gx.dec rfl (fun h1 => ?_) (fun h1 => ?_)
  · refine Gx.skip ?_
    refine Gx.thenN ?_
    refine Gx.seq ?_
    refine Gx.block ?_
    refine Gx.seq ?_
    refine Gx.regionQ Try.mixed (by kernel_rfl) ?_
    refine Gq.val rfl rfl rfl (val_move rfl rfl) ?_
    refine Gq.val rfl rfl rfl (val_move rfl rfl) ?_
    obtain ⟨x2, hx2⟩ := get_of_lt (xs := names) (k := i) (by omega)
    refine Gq.val rfl rfl rfl (val_ixa rfl Try.underlying22 Try.ty3 rfl rfl (j := i) (rfl) (reach_base hm hx2)) ?_
    refine Gq.val rfl rfl rfl (val_load rfl Try.ty3 rfl rfl (cell_base (i := 0) hm hx2 rfl)) ?_
    refine Gq.val rfl rfl rfl (val_move rfl rfl) ?_
    refine Gq.val rfl rfl rfl (val_move rfl rfl) ?_
    obtain ⟨x3, hx3⟩ := get_of_lt (xs := names) (k := b) (by omega)
    refine Gq.val rfl rfl rfl (val_ixa rfl Try.underlying22 Try.ty3 rfl rfl (j := b) (rfl) (reach_base hm hx3)) ?_
    refine Gq.val rfl rfl rfl (val_load rfl Try.ty3 rfl rfl (cell_base (i := 0) hm hx3 rfl)) ?_
    refine Gq.val rfl rfl rfl (val_gtr rfl rfl rfl) ?_
    refine Gq.done ?_
    refine Gx.thenN ?_
    refine Gx.dec rfl (fun h4 => ?_) (fun h4 => ?_)
    · refine Gx.region ?_
      refine Gx.val rfl rfl rfl (val_move rfl rfl) ?_
      refine Gx.val rfl rfl rfl (val_assign rfl rfl) ?_
      refine Gx.done ?_
      refine Gx.blkN ?_
      refine Gx.thenN ?_
      refine Gx.region ?_
      refine Gx.val rfl rfl rfl (val_move rfl rfl) ?_
      refine Gx.val rfl rfl rfl (val_add rfl rfl rfl (r := ((i + 1 : Nat) : Int)) (w64 (by omega) (by omega))) ?_
      refine Gx.val rfl rfl rfl (val_assign rfl rfl) ?_
      refine Gx.done ?_
      refine Gx.thenN ?_
      exact Gx.round (i + 1, i) ⟨by first | omega | (dsimp only; omega), by show _ = if nmI names (greatN names i) < nmI names i then i else greatN names i; rw [← hb, nmI_at hx2, nmI_at hx3, if_pos (by omega)], by omega⟩ (by first | omega | (dsimp only; omega)) ((.cons rfl (.cons rfl (.cons rfl .nil)))) rfl
    · refine Gx.skip ?_
      refine Gx.blkN ?_
      refine Gx.thenN ?_
      refine Gx.region ?_
      refine Gx.val rfl rfl rfl (val_move rfl rfl) ?_
      refine Gx.val rfl rfl rfl (val_add rfl rfl rfl (r := ((i + 1 : Nat) : Int)) (w64 (by omega) (by omega))) ?_
      refine Gx.val rfl rfl rfl (val_assign rfl rfl) ?_
      refine Gx.done ?_
      refine Gx.thenN ?_
      exact Gx.round (i + 1, b) ⟨by first | omega | (dsimp only; omega), by show _ = if nmI names (greatN names i) < nmI names i then i else greatN names i; rw [← hb, nmI_at hx2, nmI_at hx3, if_neg (by omega)], hbl⟩ (by first | omega | (dsimp only; omega)) ((.cons rfl (.cons rfl (.cons rfl .nil)))) rfl
  · refine Gx.exit ?_
    refine Gx.thenE ?_
    refine Gx.thenE ?_
    refine Gx.blkE ?_
    refine Gx.thenN ?_
    refine Gx.seq ?_
    refine Gx.region ?_
    refine Gx.val rfl rfl rfl (val_move rfl rfl) ?_
    refine Gx.val rfl rfl rfl (val_assign rfl rfl) ?_
    refine Gx.done ?_
    refine Gx.thenN ?_
    refine Gx.ret ?_
    refine Gx.ret1 Try.results8 rfl ?_
    obtain rfl : i = names.length := by omega
    rw [hb]

theorem greatest_no1 {W : World} {nv sv : Value} {names : List Int} {cs : List Mv} (hm : SlS SZ 1 W nv names) (hs : SlS FM 2 W sv cs) (hbad : names.length = 0 ∨ 6 < names.length ∨ 120 < cs.length) :
    Calls Try.prog 3 #[nv, sv] W fun e w' => e = .returned (.bool true) ∧ Below W.heap.size W w' := by
  refine calls_pure (Gx.enter (l := []) Try.func3 rfl Try.ntmps3 rfl (Sat.start W) ?_)
  refine Gx.know (m' := [(0, nv), (1, sv)]) (.cons rfl (.cons rfl .nil)) ?_
  refine Gx.seq ?_
  refine Gx.region ?_
  refine Gx.val rfl rfl rfl (val_assign rfl rfl) ?_
  refine Gx.done ?_
  refine Gx.thenN ?_
  refine Gx.seq ?_
  refine Gx.region ?_
  refine Gx.val rfl rfl rfl (val_move rfl rfl) ?_
  refine Gx.val rfl rfl rfl (val_move rfl rfl) ?_
  refine Gx.val rfl rfl rfl (val_call (vs := [nv, sv]) rfl Try.fn7 rfl (fun w H => play_no1 (hm.below H.below) (hs.below H.below) hbad)) ?_
  refine Gx.val rfl rfl rfl (val_move rfl rfl) ?_
  refine Gx.val rfl rfl rfl (val_extract rfl rfl rfl) ?_
  refine Gx.val rfl rfl rfl (val_extract rfl rfl rfl) ?_
  refine Gx.eff rfl rfl rfl (eff_alloc rfl Try.ty26 (vs := [.slice none 0 0, .slice none 0 0, .int .i64 0, .int .i64 0]) rfl) ?_
  rintro _ _ ⟨b1, rfl, rfl⟩
  refine Gx.eff0 rfl rfl (eff_store rfl Try.ty26 rfl rfl (us := [.slice none 0 0, .slice none 0 0, .int .i64 0, .int .i64 0]) rfl rfl rfl (k := 0) rfl (rfl) (vs' := [.slice none 0 0, .slice none 0 0, .int .i64 0, .int .i64 0]) (rfl) (l' := [Hp.rec_ b1 [.slice none 0 0, .slice none 0 0, .int .i64 0, .int .i64 0]]) rfl) ?_
  rintro _ _ rfl
  refine Gx.val rfl rfl rfl (val_assign rfl rfl) ?_
  refine Gx.done ?_
  refine Gx.thenN ?_
  refine Gx.seq ?_
  refine Gx.seq ?_
  refine Gx.region ?_
  refine Gx.val rfl rfl rfl (val_move rfl rfl) ?_
  refine Gx.val rfl rfl rfl (Val.cast (val_neq rfl rfl rfl) (v' := .bool true) rfl) ?_
  refine Gx.done ?_
  refine Gx.thenN ?_
  refine Gx.t rfl ?_
  refine Gx.seq ?_
  refine Gx.region ?_
  refine Gx.val rfl rfl rfl (Val.cast (val_fieldAddr rfl Try.underlying26 rfl Try.ty24 rfl rfl) (v' := ptr b1 0) rfl) ?_
  refine Gx.val rfl rfl rfl (val_load rfl Try.ty24 rfl rfl (cell_rec (k := 0) rfl rfl)) ?_
  refine Gx.val rfl rfl rfl (val_len rfl Try.underlying24 rfl len_lit) ?_
  refine Gx.val rfl rfl rfl (Val.cast (val_eql rfl rfl rfl) (v' := .bool true) rfl) ?_
  refine Gx.val rfl rfl rfl (val_assign rfl rfl) ?_
  refine Gx.done ?_
  refine Gx.thenN ?_
  refine Gx.ret ?_
  refine Gx.thenR ?_
  refine Gx.ret1 Try.results3 rfl ?_
  rfl

theorem greatest_no3 {W : World} {nv sv : Value} {names : List Int} {cs : List Mv} (hm : SlS SZ 1 W nv names) (hs : SlS FM 2 W sv cs) (hok : ¬ (names.length = 0 ∨ 6 < names.length ∨ 120 < cs.length)) (hbad : ¬ names.Nodup) :
    Calls Try.prog 3 #[nv, sv] W fun e w' => e = .returned (.bool true) ∧ Below W.heap.size W w' := by
  refine calls_pure (Gx.enter (l := []) Try.func3 rfl Try.ntmps3 rfl (Sat.start W) ?_)
  refine Gx.know (m' := [(0, nv), (1, sv)]) (.cons rfl (.cons rfl .nil)) ?_
  refine Gx.seq ?_
  refine Gx.region ?_
  refine Gx.val rfl rfl rfl (val_assign rfl rfl) ?_
  refine Gx.done ?_
  refine Gx.thenN ?_
  refine Gx.seq ?_
  refine Gx.region ?_
  refine Gx.val rfl rfl rfl (val_move rfl rfl) ?_
  refine Gx.val rfl rfl rfl (val_move rfl rfl) ?_
  refine Gx.val rfl rfl rfl (val_call (vs := [nv, sv]) rfl Try.fn7 rfl (fun w H => play_no3 (hm.below H.below) (hs.below H.below) hok hbad)) ?_
  refine Gx.val rfl rfl rfl (val_move rfl rfl) ?_
  refine Gx.val rfl rfl rfl (val_extract rfl rfl rfl) ?_
  refine Gx.val rfl rfl rfl (val_extract rfl rfl rfl) ?_
  refine Gx.eff rfl rfl rfl (eff_alloc rfl Try.ty26 (vs := [.slice none 0 0, .slice none 0 0, .int .i64 0, .int .i64 0]) rfl) ?_
  rintro _ _ ⟨b1, rfl, rfl⟩
  refine Gx.eff0 rfl rfl (eff_store rfl Try.ty26 rfl rfl (us := [.slice none 0 0, .slice none 0 0, .int .i64 0, .int .i64 0]) rfl rfl rfl (k := 0) rfl (rfl) (vs' := [.slice none 0 0, .slice none 0 0, .int .i64 0, .int .i64 0]) (rfl) (l' := [Hp.rec_ b1 [.slice none 0 0, .slice none 0 0, .int .i64 0, .int .i64 0]]) rfl) ?_
  rintro _ _ rfl
  refine Gx.val rfl rfl rfl (val_assign rfl rfl) ?_
  refine Gx.done ?_
  refine Gx.thenN ?_
  refine Gx.seq ?_
  refine Gx.seq ?_
  refine Gx.region ?_
  refine Gx.val rfl rfl rfl (val_move rfl rfl) ?_
  refine Gx.val rfl rfl rfl (Val.cast (val_neq rfl rfl rfl) (v' := .bool true) rfl) ?_
  refine Gx.done ?_
  refine Gx.thenN ?_
  refine Gx.t rfl ?_
  refine Gx.seq ?_
  refine Gx.region ?_
  refine Gx.val rfl rfl rfl (Val.cast (val_fieldAddr rfl Try.underlying26 rfl Try.ty24 rfl rfl) (v' := ptr b1 0) rfl) ?_
  refine Gx.val rfl rfl rfl (val_load rfl Try.ty24 rfl rfl (cell_rec (k := 0) rfl rfl)) ?_
  refine Gx.val rfl rfl rfl (val_len rfl Try.underlying24 rfl len_lit) ?_
  refine Gx.val rfl rfl rfl (Val.cast (val_eql rfl rfl rfl) (v' := .bool true) rfl) ?_
  refine Gx.val rfl rfl rfl (val_assign rfl rfl) ?_
  refine Gx.done ?_
  refine Gx.thenN ?_
  refine Gx.ret ?_
  refine Gx.thenR ?_
  refine Gx.ret1 Try.results3 rfl ?_
  rfl

theorem greatest_none {W : World} {nv sv : Value} {names : List Int} {cs : List Mv} (hm : SlS SZ 1 W nv names) (hs : SlS FM 2 W sv cs) (h1n : 1 ≤ names.length) (h6n : names.length ≤ 6) (hcl : cs.length ≤ 120) (hnd : names.Nodup) (hch : (stR (rs0 names) cs).ch = []) :
    Calls Try.prog 3 #[nv, sv] W fun e w' => e = .returned (.bool true) ∧ Below W.heap.size W w' := by
  have hchl : (stR (rs0 names) cs).ch.length = 0 := by rw [hch]; rfl
  refine calls_pure (Gx.enter (l := []) Try.func3 rfl Try.ntmps3 rfl (Sat.start W) ?_)
  refine Gx.know (m' := [(0, nv), (1, sv)]) (.cons rfl (.cons rfl .nil)) ?_
  refine Gx.seq ?_
  refine Gx.region ?_
  refine Gx.val rfl rfl rfl (val_assign rfl rfl) ?_
  refine Gx.done ?_
  refine Gx.thenN ?_
  refine Gx.seq ?_
  refine Gx.region ?_
  refine Gx.val rfl rfl rfl (val_move rfl rfl) ?_
  refine Gx.val rfl rfl rfl (val_move rfl rfl) ?_
  refine Gx.callB rfl rfl rfl (vs := [nv, sv]) rfl Try.fn7 rfl (R := fun v w' => ∃ (cv chv : Value), v = .tuple #[.agg #[cv, chv, .int .i64 (((stR (rs0 names) cs).sent : Nat) : Int), .int .i64 ((awayR (stR (rs0 names) cs).ss names.length : Nat) : Int)], .int .i64 0] ∧ SlS FZ 1 w' cv (codesR (rs0 names) cs) ∧ SlS FN 1 w' chv (stR (rs0 names) cs).ch) (fun w H => play_ok (hm.below H.below) (hs.below H.below) h1n h6n (by omega) hnd) ?_
  rintro _ W3 ⟨cv1, dv2, rfl, hcv1, hdv2⟩ H4
  have hW5 := H4.below
  have hs6 := hm.below H4.below
  have hs7 := hs.below H4.below
  have hclcv1 : (codesR (rs0 names) cs).length = (cs).length := codesR_len ..
  obtain ⟨sa8, sn9, sc10, rfl⟩ := hcv1.isS
  obtain ⟨sa11, sn12, sc13, rfl⟩ := hdv2.isS
  refine Gx.val rfl rfl rfl (val_move rfl rfl) ?_
  refine Gx.val rfl rfl rfl (val_extract rfl rfl rfl) ?_
  refine Gx.val rfl rfl rfl (val_extract rfl rfl rfl) ?_
  refine Gx.eff rfl rfl rfl (eff_alloc rfl Try.ty26 (vs := [.slice none 0 0, .slice none 0 0, .int .i64 0, .int .i64 0]) rfl) ?_
  rintro _ _ ⟨b14, rfl, rfl⟩
  refine Gx.eff0 rfl rfl (eff_store rfl Try.ty26 rfl rfl (us := [.slice sa8 sn9 sc10, .slice sa11 sn12 sc13, .int .i64 (((stR (rs0 names) cs).sent : Nat) : Int), .int .i64 ((awayR (stR (rs0 names) cs).ss names.length : Nat) : Int)]) rfl rfl rfl (k := 0) rfl (rfl) (vs' := [.slice sa8 sn9 sc10, .slice sa11 sn12 sc13, .int .i64 (((stR (rs0 names) cs).sent : Nat) : Int), .int .i64 ((awayR (stR (rs0 names) cs).ss names.length : Nat) : Int)]) (rfl) (l' := [Hp.rec_ b14 [.slice sa8 sn9 sc10, .slice sa11 sn12 sc13, .int .i64 (((stR (rs0 names) cs).sent : Nat) : Int), .int .i64 ((awayR (stR (rs0 names) cs).ss names.length : Nat) : Int)]]) rfl) ?_
  rintro _ _ rfl
  refine Gx.val rfl rfl rfl (val_assign rfl rfl) ?_
  refine Gx.done ?_
  refine Gx.thenN ?_
  refine Gx.seq ?_
  refine Gx.seq ?_
  refine Gx.region ?_
  refine Gx.val rfl rfl rfl (val_move rfl rfl) ?_
  refine Gx.val rfl rfl rfl (Val.cast (val_neq rfl rfl rfl) (v' := .bool false) rfl) ?_
  refine Gx.done ?_
  refine Gx.thenN ?_
  refine Gx.f rfl ?_
  refine Gx.skip ?_
  refine Gx.thenN ?_
  refine Gx.seq ?_
  refine Gx.regionQ Try.mixed (by kernel_rfl) ?_
  refine Gq.val rfl rfl rfl (Val.cast (val_fieldAddr rfl Try.underlying26 rfl Try.ty24 rfl rfl) (v' := ptr b14 0) rfl) ?_
  refine Gq.val rfl rfl rfl (val_load rfl Try.ty24 rfl rfl (cell_rec (k := 0) rfl rfl)) ?_
  refine Gq.val rfl rfl rfl (val_len rfl Try.underlying24 rfl (len_base hcv1)) ?_
  refine Gq.val rfl rfl rfl (val_move rfl rfl) ?_
  refine Gq.val rfl rfl rfl (val_len rfl Try.underlying23 rfl (len_base hs7)) ?_
  refine Gq.val rfl rfl rfl (val_eql rfl rfl rfl) ?_
  refine Gq.val rfl rfl rfl (val_move rfl rfl) ?_
  refine Gq.slot (t := 25) (v := .bool true) (look_decT rfl (by omega)) ?_
  refine Gq.valg rfl rfl rfl rfl rfl (Val.cast (val_fieldAddr rfl Try.underlying26 rfl Try.ty22 rfl rfl) (v' := ptr b14 1) rfl) ?_
  refine Gq.valg rfl rfl rfl rfl rfl (val_load rfl Try.ty22 rfl rfl (cell_rec (k := 0) rfl rfl)) ?_
  refine Gq.valg rfl rfl rfl rfl rfl (val_len rfl Try.underlying22 rfl (len_base hdv2)) ?_
  refine Gq.valg rfl rfl rfl rfl rfl (val_eql rfl rfl rfl) ?_
  refine Gq.valg rfl rfl rfl rfl rfl (val_move rfl rfl) ?_
  refine Gq.slot (t := 30) (v := .bool true) (look_decT rfl (by omega)) ?_
  refine Gq.skipg rfl rfl rfl rfl rfl rfl ?_
  refine Gq.skipg rfl rfl rfl rfl rfl rfl ?_
  refine Gq.skipg rfl rfl rfl rfl rfl rfl ?_
  refine Gq.skipg rfl rfl rfl rfl rfl rfl ?_
  refine Gq.skipg rfl rfl rfl rfl rfl rfl ?_
  refine Gq.skipu rfl rfl rfl rfl rfl ?_
  refine Gq.skipu rfl rfl rfl rfl rfl ?_
  refine Gq.skipu rfl rfl rfl rfl rfl ?_
  refine Gq.skipu rfl rfl rfl rfl rfl ?_
  refine Gq.skipu rfl rfl rfl rfl rfl ?_
  refine Gq.skipu rfl rfl rfl rfl rfl ?_
  refine Gq.skipu rfl rfl rfl rfl rfl ?_
  refine Gq.skipg rfl rfl rfl rfl rfl rfl ?_
  refine Gq.valg rfl rfl rfl rfl rfl (val_pickT rfl rfl rfl) ?_
  refine Gq.val rfl rfl rfl (val_pickT rfl rfl rfl) ?_
  refine Gq.val rfl rfl rfl (val_assign rfl rfl) ?_
  refine Gq.done ?_
  refine Gx.thenN ?_
  refine Gx.ret ?_
  refine Gx.ret1B hW5 Try.results3 rfl ?_
  first | rfl | exact congrArg Value.bool (decide_eq_true (by omega))

theorem greatest_one {W : World} {nv sv : Value} {names : List Int} {cs : List Mv} {c9 : Nat} (hm : SlS SZ 1 W nv names) (hs : SlS FM 2 W sv cs) (h1n : 1 ≤ names.length) (h6n : names.length ≤ 6) (hcl : cs.length ≤ 120) (hnd : names.Nodup) (hch : (stR (rs0 names) cs).ch = [c9]) :
    Calls Try.prog 3 #[nv, sv] W fun e w' => e = .returned (.bool true) ∧ Below W.heap.size W w' := by
  have hchl : (stR (rs0 names) cs).ch.length = 1 := by rw [hch]; rfl
  have hc0 : (stR (rs0 names) cs).ch[0]? = some c9 := by rw [hch]; rfl
  obtain ⟨hh, ll, I⟩ := InvR.run (Dist.of hnd) cs (InvR.zero names)
  obtain ⟨g1, g2⟩ := I.great (c := c9) (by rw [hch]; simp)
  have hgr := great_is g1 g2
  refine calls_pure (Gx.enter (l := []) Try.func3 rfl Try.ntmps3 rfl (Sat.start W) ?_)
  refine Gx.know (m' := [(0, nv), (1, sv)]) (.cons rfl (.cons rfl .nil)) ?_
  refine Gx.seq ?_
  refine Gx.region ?_
  refine Gx.val rfl rfl rfl (val_assign rfl rfl) ?_
  refine Gx.done ?_
  refine Gx.thenN ?_
  refine Gx.seq ?_
  refine Gx.region ?_
  refine Gx.val rfl rfl rfl (val_move rfl rfl) ?_
  refine Gx.val rfl rfl rfl (val_move rfl rfl) ?_
  refine Gx.callB rfl rfl rfl (vs := [nv, sv]) rfl Try.fn7 rfl (R := fun v w' => ∃ (cv chv : Value), v = .tuple #[.agg #[cv, chv, .int .i64 (((stR (rs0 names) cs).sent : Nat) : Int), .int .i64 ((awayR (stR (rs0 names) cs).ss names.length : Nat) : Int)], .int .i64 0] ∧ SlS FZ 1 w' cv (codesR (rs0 names) cs) ∧ SlS FN 1 w' chv (stR (rs0 names) cs).ch) (fun w H => play_ok (hm.below H.below) (hs.below H.below) h1n h6n (by omega) hnd) ?_
  rintro _ W3 ⟨cv1, dv2, rfl, hcv1, hdv2⟩ H4
  have hW5 := H4.below
  have hs6 := hm.below H4.below
  have hs7 := hs.below H4.below
  have hclcv1 : (codesR (rs0 names) cs).length = (cs).length := codesR_len ..
  obtain ⟨sa8, sn9, sc10, rfl⟩ := hcv1.isS
  obtain ⟨sa11, sn12, sc13, rfl⟩ := hdv2.isS
  refine Gx.val rfl rfl rfl (val_move rfl rfl) ?_
  refine Gx.val rfl rfl rfl (val_extract rfl rfl rfl) ?_
  refine Gx.val rfl rfl rfl (val_extract rfl rfl rfl) ?_
  refine Gx.eff rfl rfl rfl (eff_alloc rfl Try.ty26 (vs := [.slice none 0 0, .slice none 0 0, .int .i64 0, .int .i64 0]) rfl) ?_
  rintro _ _ ⟨b14, rfl, rfl⟩
  refine Gx.eff0 rfl rfl (eff_store rfl Try.ty26 rfl rfl (us := [.slice sa8 sn9 sc10, .slice sa11 sn12 sc13, .int .i64 (((stR (rs0 names) cs).sent : Nat) : Int), .int .i64 ((awayR (stR (rs0 names) cs).ss names.length : Nat) : Int)]) rfl rfl rfl (k := 0) rfl (rfl) (vs' := [.slice sa8 sn9 sc10, .slice sa11 sn12 sc13, .int .i64 (((stR (rs0 names) cs).sent : Nat) : Int), .int .i64 ((awayR (stR (rs0 names) cs).ss names.length : Nat) : Int)]) (rfl) (l' := [Hp.rec_ b14 [.slice sa8 sn9 sc10, .slice sa11 sn12 sc13, .int .i64 (((stR (rs0 names) cs).sent : Nat) : Int), .int .i64 ((awayR (stR (rs0 names) cs).ss names.length : Nat) : Int)]]) rfl) ?_
  rintro _ _ rfl
  refine Gx.val rfl rfl rfl (val_assign rfl rfl) ?_
  refine Gx.done ?_
  refine Gx.thenN ?_
  refine Gx.seq ?_
  refine Gx.seq ?_
  refine Gx.region ?_
  refine Gx.val rfl rfl rfl (val_move rfl rfl) ?_
  refine Gx.val rfl rfl rfl (Val.cast (val_neq rfl rfl rfl) (v' := .bool false) rfl) ?_
  refine Gx.done ?_
  refine Gx.thenN ?_
  refine Gx.f rfl ?_
  refine Gx.skip ?_
  refine Gx.thenN ?_
  refine Gx.seq ?_
  refine Gx.regionQ Try.mixed (by kernel_rfl) ?_
  refine Gq.val rfl rfl rfl (Val.cast (val_fieldAddr rfl Try.underlying26 rfl Try.ty24 rfl rfl) (v' := ptr b14 0) rfl) ?_
  refine Gq.val rfl rfl rfl (val_load rfl Try.ty24 rfl rfl (cell_rec (k := 0) rfl rfl)) ?_
  refine Gq.val rfl rfl rfl (val_len rfl Try.underlying24 rfl (len_base hcv1)) ?_
  refine Gq.val rfl rfl rfl (val_move rfl rfl) ?_
  refine Gq.val rfl rfl rfl (val_len rfl Try.underlying23 rfl (len_base hs7)) ?_
  refine Gq.val rfl rfl rfl (val_eql rfl rfl rfl) ?_
  refine Gq.val rfl rfl rfl (val_move rfl rfl) ?_
  refine Gq.slot (t := 25) (v := .bool true) (look_decT rfl (by omega)) ?_
  refine Gq.valg rfl rfl rfl rfl rfl (Val.cast (val_fieldAddr rfl Try.underlying26 rfl Try.ty22 rfl rfl) (v' := ptr b14 1) rfl) ?_
  refine Gq.valg rfl rfl rfl rfl rfl (val_load rfl Try.ty22 rfl rfl (cell_rec (k := 0) rfl rfl)) ?_
  refine Gq.valg rfl rfl rfl rfl rfl (val_len rfl Try.underlying22 rfl (len_base hdv2)) ?_
  refine Gq.valg rfl rfl rfl rfl rfl (val_eql rfl rfl rfl) ?_
  refine Gq.valg rfl rfl rfl rfl rfl (val_move rfl rfl) ?_
  refine Gq.slot (t := 30) (v := .bool false) (look_decF rfl (by omega)) ?_
  refine Gq.valg rfl rfl rfl rfl rfl (Val.cast (val_fieldAddr rfl Try.underlying26 rfl Try.ty22 rfl rfl) (v' := ptr b14 1) rfl) ?_
  refine Gq.valg rfl rfl rfl rfl rfl (val_load rfl Try.ty22 rfl rfl (cell_rec (k := 0) rfl rfl)) ?_
  refine Gq.valg rfl rfl rfl rfl rfl (val_len rfl Try.underlying22 rfl (len_base hdv2)) ?_
  refine Gq.valg rfl rfl rfl rfl rfl (val_eql rfl rfl rfl) ?_
  refine Gq.valg rfl rfl rfl rfl rfl (val_move rfl rfl) ?_
  refine Gq.slot (t := 35) (v := .bool true) (look_decT rfl (by omega)) ?_
  refine Gq.valg rfl rfl rfl rfl rfl (Val.cast (val_fieldAddr rfl Try.underlying26 rfl Try.ty22 rfl rfl) (v' := ptr b14 1) rfl) ?_
  refine Gq.valg rfl rfl rfl rfl rfl (val_load rfl Try.ty22 rfl rfl (cell_rec (k := 0) rfl rfl)) ?_
  refine Gq.valg rfl rfl rfl rfl rfl (val_ixa rfl Try.underlying22 Try.ty3 rfl rfl (j := 0) (rfl) (reach_base hdv2 hc0)) ?_
  refine Gq.valg rfl rfl rfl rfl rfl (val_load rfl Try.ty3 rfl rfl (cell_base (i := 0) (sz := 1) (j := 0) hdv2 hc0 rfl)) ?_
  refine Gq.valg rfl rfl rfl rfl rfl (val_move rfl rfl) ?_
  refine Gq.valg rfl rfl rfl rfl rfl (val_call (vs := [nv]) rfl Try.fn8 rfl (fun w H => great_any (hs6.below H.below) h1n)) ?_
  refine Gq.valg rfl rfl rfl rfl rfl (val_eql rfl rfl rfl) ?_
  refine Gq.valg rfl rfl rfl rfl rfl (val_pickT rfl rfl rfl) ?_
  refine Gq.valg rfl rfl rfl rfl rfl (val_pickF rfl rfl rfl) ?_
  refine Gq.val rfl rfl rfl (val_pickT rfl rfl rfl) ?_
  refine Gq.val rfl rfl rfl (val_assign rfl rfl) ?_
  refine Gq.done ?_
  refine Gx.thenN ?_
  refine Gx.ret ?_
  refine Gx.ret1B hW5 Try.results3 rfl ?_
  first | rfl | exact congrArg Value.bool (decide_eq_true (by omega))

theorem greatest_yes {W : World} {nv sv : Value} {names : List Int} {cs : List Mv} (hm : SlS SZ 1 W nv names) (hs : SlS FM 2 W sv cs) (h1n : 1 ≤ names.length) (h6n : names.length ≤ 6) (hcl : cs.length ≤ 120) (hnd : names.Nodup) :
    Calls Try.prog 3 #[nv, sv] W fun e w' => e = .returned (.bool true) ∧ Below W.heap.size W w' := by
  obtain ⟨hh, ll, I⟩ := InvR.run (Dist.of hnd) cs (InvR.zero names)
  rcases I.one with h | ⟨c, h⟩
  · exact greatest_none hm hs h1n h6n hcl hnd h
  · exact greatest_one hm hs h1n h6n hcl hnd h
theorem greatest_any {W : World} {nv sv : Value} {names : List Int} {cs : List Mv} (hm : SlS SZ 1 W nv names) (hs : SlS FM 2 W sv cs) :
    Calls Try.prog 3 #[nv, sv] W fun e w' => e = .returned (.bool true) ∧ Below W.heap.size W w' := by
  by_cases h : names.length = 0 ∨ 6 < names.length ∨ 120 < cs.length
  · exact greatest_no1 hm hs h
  · by_cases h2 : names.Nodup
    · exact greatest_yes hm hs (by omega) (by omega) (by omega) h2
    · exact greatest_no3 hm hs h h2
end Go.Proofs.Yteejbaindbiimaa
