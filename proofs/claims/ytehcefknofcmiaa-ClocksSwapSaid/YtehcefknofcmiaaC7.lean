/- Two neighbours in the other order. The walk. No condition. -/
import Derived.Test.YtehcefknofcmiaaM2
import Derived.Test.YtehcefknofcmiaaX6
namespace Go.Proofs.Ytehcefknofcmiaa
open Go.RowKit
set_option linter.unusedVariables false
set_option linter.unusedSimpArgs false
set_option maxRecDepth 100000

theorem FE_one (p : Ev) (u : Value) (h : u ∈ FE p) : u.oneCell' = true := by simp [FE] at h; rcases h with rfl | rfl | rfl <;> rfl
theorem Try.eE : Elem Try.prog 22 30 (.agg #[.int .i64 0, .int .i64 0, .int .i64 0]) 3 24 := ⟨Try.underlying22, by kernel_rfl, rfl, by decide⟩
theorem rl_yes {i : Nat} {e : Ev} (h : e.kind = 3 ∧ (e.src = (i : Int) ∨ e.src = (i : Int) + 1)) : rl i e = ⟨e.kind, e.who, 2 * (i : Int) + 1 - e.src⟩ := if_pos h
theorem rl_no {i : Nat} {e : Ev} (h : ¬ (e.kind = 3 ∧ (e.src = (i : Int) ∨ e.src = (i : Int) + 1))) : rl i e = e := if_neg h
theorem map_snoc {α β : Type} {f : α → β} {l : List α} {k : Nat} {x : α} (h : l[k]? = some x) : (l.take (k + 1)).map f = (l.take k).map f ++ [f x] := by rw [take_of h, List.map_append]; rfl
theorem ints_same {W : World} {va vb : Value} {xs : List Int} (ha : SlS SZ 1 W va xs) (hb : SlS SZ 1 W vb xs) : Calls Try.prog 12 #[va, vb] W fun e w' => e = .returned (.bool true) ∧ Below W.heap.size W w' := by
  have m1 := len_bd ha
  refine calls_pure (Gx.enter (l := []) Try.func12 rfl Try.ntmps12 rfl (Sat.start W) ?_)
  refine Gx.know (m' := [(0, va), (1, vb)]) (.cons rfl (.cons rfl .nil)) ?_
  refine Gx.seq ?_
  refine Gx.region ?_
  refine Gx.val rfl rfl rfl (val_assign rfl rfl) ?_
  refine Gx.done ?_
  refine Gx.thenN ?_
  refine Gx.seq ?_
  refine Gx.seq ?_
  refine Gx.region ?_
  refine Gx.val rfl rfl rfl (val_move rfl rfl) ?_
  refine Gx.val rfl rfl rfl (val_len rfl Try.underlying32 rfl (len_base ha)) ?_
  refine Gx.val rfl rfl rfl (val_move rfl rfl) ?_
  refine Gx.val rfl rfl rfl (val_len rfl Try.underlying32 rfl (len_base hb)) ?_
  refine Gx.val rfl rfl rfl (val_neq rfl rfl rfl) ?_
  refine Gx.done ?_
  refine Gx.thenN ?_
  refine Gx.decF rfl (by omega) ?_
  refine Gx.skip ?_
  refine Gx.thenN ?_
  refine Gx.seq ?_
  refine Gx.seq ?_
  refine Gx.region ?_
  refine Gx.val rfl rfl rfl (val_assign rfl rfl) ?_
  refine Gx.done ?_
  refine Gx.thenN ?_
  refine Gx.block ?_
  refine Gx.loop (ι := Nat) (fun ξ => (ξ ≤ xs.length)) (fun ξ => [(0, va), (1, vb), (5, .int .i64 ((ξ : Nat) : Int))]) (fun ξ => []) (fun ξ => xs.length - ξ) 0 (by first | omega | (dsimp only; omega)) ((.cons rfl (.cons rfl (.cons rfl .nil)))) rfl ?_
  rintro k hk
  refine Gx.know (m' := [(0, va), (1, vb), (5, .int .i64 ((k : Nat) : Int))]) (.cons rfl (.cons rfl (.cons rfl .nil))) (Gx.norm (l' := []) rfl ?_)
  refine Gx.seq ?_
  refine Gx.seq ?_
  refine Gx.region ?_
  refine Gx.val rfl rfl rfl (val_move rfl rfl) ?_
  refine Gx.val rfl rfl rfl (val_move rfl rfl) ?_
  refine Gx.val rfl rfl rfl (val_len rfl Try.underlying32 rfl (len_base ha)) ?_
  refine Gx.val rfl rfl rfl (val_lss rfl rfl rfl) ?_
  refine Gx.done ?_
  refine Gx.thenN ?_
  refine Gx.dec rfl (fun h1 => ?_) (fun h1 => ?_)
  · refine Gx.skip ?_
    refine Gx.thenN ?_
    refine Gx.seq ?_
    refine Gx.block ?_
    refine Gx.seq ?_
    refine Gx.regionQ Try.mixed (by kernel_rfl) ?_
    refine Gq.val rfl rfl rfl (val_move rfl rfl) ?_
    refine Gq.val rfl rfl rfl (val_move rfl rfl) ?_
    obtain ⟨x2, hx2⟩ := get_of_lt (xs := xs) (k := k) (by omega)
    refine Gq.val rfl rfl rfl (val_ixa rfl Try.underlying32 Try.ty3 rfl rfl (j := k) (rfl) (reach_base ha hx2)) ?_
    refine Gq.val rfl rfl rfl (val_load rfl Try.ty3 rfl rfl (cell_base (i := 0) ha hx2 rfl)) ?_
    refine Gq.val rfl rfl rfl (val_move rfl rfl) ?_
    refine Gq.val rfl rfl rfl (val_move rfl rfl) ?_
    refine Gq.val rfl rfl rfl (val_ixa rfl Try.underlying32 Try.ty3 rfl rfl (j := k) (rfl) (reach_base hb hx2)) ?_
    refine Gq.val rfl rfl rfl (val_load rfl Try.ty3 rfl rfl (cell_base (i := 0) hb hx2 rfl)) ?_
    refine Gq.val rfl rfl rfl (val_neq rfl rfl rfl) ?_
    refine Gq.done ?_
    refine Gx.thenN ?_
    refine Gx.decF rfl (fun q => q rfl) ?_
    refine Gx.skip ?_
    refine Gx.blkN ?_
    refine Gx.thenN ?_
    refine Gx.region ?_
    refine Gx.val rfl rfl rfl (val_move rfl rfl) ?_
    refine Gx.val rfl rfl rfl (val_add rfl rfl rfl (r := ((k + 1 : Nat) : Int)) (w64 (by omega) (by omega))) ?_
    refine Gx.val rfl rfl rfl (val_assign rfl rfl) ?_
    refine Gx.done ?_
    refine Gx.thenN ?_
    exact Gx.round (k + 1) (by first | omega | (dsimp only; omega)) (by first | omega | (dsimp only; omega)) ((.cons rfl (.cons rfl (.cons rfl .nil)))) rfl
  · refine Gx.exit ?_
    refine Gx.thenE ?_
    refine Gx.thenE ?_
    refine Gx.blkE ?_
    refine Gx.thenN ?_
    refine Gx.seq ?_
    refine Gx.region ?_
    refine Gx.val rfl rfl rfl (val_assign rfl rfl) ?_
    refine Gx.done ?_
    refine Gx.thenN ?_
    refine Gx.ret ?_
    refine Gx.ret1 Try.results12 rfl ?_
    rfl

theorem swap_bad {W : World} {v : Value} {l : List Ev} (n k : Int) (hs : SlS FE 3 W v l) (hok : ¬ OkE n l) :
    Calls Try.prog 3 #[.int .i64 n, v, .int .u8 k] W fun e w' => e = .returned (.bool true) ∧ Below W.heap.size W w' := by
  have hm := len_bd hs
  refine calls_pure (Gx.enter (l := []) Try.func3 rfl Try.ntmps3 rfl (Sat.start W) ?_)
  refine Gx.know (m' := [(0, .int .i64 n), (1, v), (2, .int .u8 k)]) (.cons rfl (.cons rfl (.cons rfl .nil))) ?_
  refine Gx.seq ?_
  refine Gx.region ?_
  refine Gx.val rfl rfl rfl (val_assign rfl rfl) ?_
  refine Gx.done ?_
  refine Gx.thenN ?_
  refine Gx.seq ?_
  refine Gx.seq ?_
  refine Gx.region ?_
  refine Gx.val rfl rfl rfl (val_move rfl rfl) ?_
  refine Gx.val rfl rfl rfl (val_move rfl rfl) ?_
  refine Gx.val rfl rfl rfl (val_call (vs := [.int .i64 n, v]) rfl Try.fn9 rfl (fun w H => events_no n (hs.below H.below) hok)) ?_
  refine Gx.val rfl rfl rfl (Val.cast (val_not rfl rfl) (v' := .bool true) rfl) ?_
  refine Gx.done ?_
  refine Gx.thenN ?_
  refine Gx.t rfl ?_
  refine Gx.seq ?_
  refine Gx.region ?_
  refine Gx.val rfl rfl rfl (val_move rfl rfl) ?_
  refine Gx.val rfl rfl rfl (val_move rfl rfl) ?_
  refine Gx.eff rfl rfl rfl (eff_callE (vs := [.int .i64 n, v]) rfl Try.fn10 rfl (R := fun u => ∃ c : Int, u = .int .i64 c ∧ c ≠ 0) (fun w H => check_no n (hs.below H.below) hok)) ?_
  rintro _ _ ⟨⟨c1, rfl, hc1⟩, rfl⟩
  refine Gx.val rfl rfl rfl (val_neq rfl rfl rfl) ?_
  refine Gx.val rfl rfl rfl (val_assign rfl rfl) ?_
  refine Gx.done ?_
  refine Gx.thenN ?_
  refine Gx.ret ?_
  refine Gx.thenR ?_
  refine Gx.ret1 Try.results3 rfl ?_
  exact congrArg Value.bool (decide_eq_true (by assumption))

set_option maxHeartbeats 2000000 in
theorem swap_ok {W : World} {v : Value} {l : List Ev} (n k : Nat) (hs : SlS FE 3 W v l) (hk : k ≤ 255) (hok : OkE n l) :
    Calls Try.prog 3 #[.int .i64 ((n : Nat) : Int), v, .int .u8 ((k : Nat) : Int)] W fun e w' => e = .returned (.bool true) ∧ Below W.heap.size W w' := by
  have hm := len_bd hs
  have h60 := hok.few
  refine calls_pure (Gx.enter (l := []) Try.func3 rfl Try.ntmps3 rfl (Sat.start W) ?_)
  refine Gx.know (m' := [(0, .int .i64 ((n : Nat) : Int)), (1, v), (2, .int .u8 ((k : Nat) : Int))]) (.cons rfl (.cons rfl (.cons rfl .nil))) ?_
  refine Gx.seq ?_
  refine Gx.region ?_
  refine Gx.val rfl rfl rfl (val_assign rfl rfl) ?_
  refine Gx.done ?_
  refine Gx.thenN ?_
  refine Gx.seq ?_
  refine Gx.seq ?_
  refine Gx.region ?_
  refine Gx.val rfl rfl rfl (val_move rfl rfl) ?_
  refine Gx.val rfl rfl rfl (val_move rfl rfl) ?_
  refine Gx.val rfl rfl rfl (val_call (vs := [.int .i64 ((n : Nat) : Int), v]) rfl Try.fn9 rfl (fun w H => events_ok ((n : Nat) : Int) (hs.below H.below) hok)) ?_
  refine Gx.val rfl rfl rfl (Val.cast (val_not rfl rfl) (v' := .bool false) rfl) ?_
  refine Gx.done ?_
  refine Gx.thenN ?_
  refine Gx.f rfl ?_
  refine Gx.skip ?_
  refine Gx.thenN ?_
  refine Gx.seq ?_
  refine Gx.region ?_
  refine Gx.val rfl rfl rfl (val_move rfl rfl) ?_
  refine Gx.val rfl rfl rfl (val_move rfl rfl) ?_
  refine Gx.callB rfl rfl rfl (vs := [.int .i64 ((n : Nat) : Int), v]) rfl Try.fn11 rfl (R := fun u w => ∃ ov, u = .tuple #[ov, .int .i64 0] ∧ Vs w ov (vecL l n l.length)) (fun w H => vecs_ok n (hs.below H.below) hok) ?_
  rintro _ W3 ⟨ov1, rfl, ps2, hps2, hvps2, hrps2⟩ H4
  have hW5 := H4.below
  have hs6 := hs.below H4.below
  have hlps2 : ps2.length = l.length := by rw [← List.length_map (f := Vc.xs), hps2, vecL_len]
  refine Gx.val rfl rfl rfl (val_move rfl rfl) ?_
  refine Gx.val rfl rfl rfl (val_extract rfl rfl rfl) ?_
  refine Gx.val rfl rfl rfl (val_extract rfl rfl rfl) ?_
  refine Gx.val rfl rfl rfl (val_assign rfl rfl) ?_
  refine Gx.val rfl rfl rfl (val_assign rfl rfl) ?_
  refine Gx.done ?_
  refine Gx.thenN ?_
  refine Gx.seq ?_
  refine Gx.seq ?_
  refine Gx.region ?_
  refine Gx.val rfl rfl rfl (val_move rfl rfl) ?_
  refine Gx.val rfl rfl rfl (Val.cast (val_neq rfl rfl rfl) (v' := .bool false) rfl) ?_
  refine Gx.val rfl rfl rfl (val_move rfl rfl) ?_
  refine Gx.valg rfl rfl rfl rfl rfl (val_move rfl rfl) ?_
  refine Gx.valg rfl rfl rfl rfl rfl (val_len rfl Try.underlying26 rfl (len_base hvps2)) ?_
  refine Gx.valg rfl rfl rfl rfl rfl (val_move rfl rfl) ?_
  refine Gx.valg rfl rfl rfl rfl rfl (val_len rfl Try.underlying22 rfl (len_base hs6)) ?_
  refine Gx.valg rfl rfl rfl rfl rfl (val_neq rfl rfl rfl) ?_
  refine Gx.val rfl rfl rfl (val_pickF rfl rfl rfl) ?_
  refine Gx.done ?_
  refine Gx.thenN ?_
  refine Gx.decF rfl (by omega) ?_
  refine Gx.skip ?_
  refine Gx.thenN ?_
  refine Gx.seq ?_
  refine Gx.seq ?_
  refine Gx.region ?_
  refine Gx.val rfl rfl rfl (val_move rfl rfl) ?_
  refine Gx.val rfl rfl rfl (val_len rfl Try.underlying22 rfl (len_base hs6)) ?_
  refine Gx.val rfl rfl rfl (val_lss rfl rfl rfl) ?_
  refine Gx.done ?_
  refine Gx.thenN ?_
  refine Gx.dec rfl (fun h7 => ?_) (fun h7 => ?_)
  · refine Gx.seq ?_
    refine Gx.region ?_
    refine Gx.val rfl rfl rfl (val_assign rfl rfl) ?_
    refine Gx.done ?_
    refine Gx.thenN ?_
    refine Gx.ret ?_
    refine Gx.thenR ?_
    refine Gx.ret1B hW5 Try.results3 rfl ?_
    rfl
  · refine Gx.skip ?_
    refine Gx.thenN ?_
    refine Gx.seq ?_
    refine Gx.region ?_
    refine Gx.val rfl rfl rfl (val_move rfl rfl) ?_
    refine Gx.val rfl rfl rfl (val_conv rfl Try.underlying5 Try.underlying3 rfl (r := ((k : Nat) : Int)) (w64 rfl (by omega))) ?_
    refine Gx.val rfl rfl rfl (val_move rfl rfl) ?_
    refine Gx.val rfl rfl rfl (val_len rfl Try.underlying22 rfl (len_base hs6)) ?_
    refine Gx.val rfl rfl rfl (val_sub rfl rfl rfl (r := ((l.length - 1 : Nat) : Int)) (w64 (by omega) (by omega))) ?_
    refine Gx.val rfl rfl rfl (val_rem rfl rfl rfl (r := ((k % (l.length - 1) : Nat) : Int)) (by omega) (rfl)) ?_
    refine Gx.val rfl rfl rfl (val_assign rfl rfl) ?_
    refine Gx.done ?_
    refine Gx.thenN ?_
    refine Gx.seq ?_
    refine Gx.seq ?_
    have hml := Nat.mod_lt k (show 0 < l.length - 1 by omega)
    obtain ⟨i, hi⟩ : ∃ i, i = k % (l.length - 1) := ⟨_, rfl⟩
    refine Gx.slot (t := 9) (v := .int .i64 ((i : Nat) : Int)) (by rw [hi] <;> rfl) ?_
    rw [← hi] at hml
    obtain ⟨ea, ha⟩ := get_of_lt (xs := l) (k := i) (by omega)
    obtain ⟨eb, hb⟩ := get_of_lt (xs := l) (k := i + 1) (by omega)
    refine Gx.regionQ Try.mixed (by kernel_rfl) ?_
    refine Gq.val rfl rfl rfl (val_move rfl rfl) ?_
    refine Gq.val rfl rfl rfl (val_move rfl rfl) ?_
    refine Gq.val rfl rfl rfl (val_ixa rfl Try.underlying22 Try.ty30 rfl rfl (j := i) (rfl) (reach_base hs6 ha)) ?_
    refine Gq.val rfl rfl rfl (Val.cast (val_fieldAddr rfl Try.underlying30 rfl Try.ty3 rfl rfl) (v' := ptr (sB v) (sO v + i * 3 + 1)) rfl) ?_
    refine Gq.val rfl rfl rfl (val_load rfl Try.ty3 rfl rfl (cell_base (i := 1) hs6 ha rfl)) ?_
    refine Gq.val rfl rfl rfl (val_move rfl rfl) ?_
    refine Gq.val rfl rfl rfl (val_move rfl rfl) ?_
    refine Gq.val rfl rfl rfl (val_add rfl rfl rfl (r := ((i + 1 : Nat) : Int)) (w64 (by omega) (by omega))) ?_
    refine Gq.val rfl rfl rfl (val_ixa rfl Try.underlying22 Try.ty30 rfl rfl (j := i + 1) (rfl) (reach_base hs6 hb)) ?_
    refine Gq.val rfl rfl rfl (Val.cast (val_fieldAddr rfl Try.underlying30 rfl Try.ty3 rfl rfl) (v' := ptr (sB v) (sO v + (i + 1) * 3 + 1)) rfl) ?_
    refine Gq.val rfl rfl rfl (val_load rfl Try.ty3 rfl rfl (cell_base (i := 1) (sz := 3) (j := i + 1) hs6 hb rfl)) ?_
    refine Gq.val rfl rfl rfl (val_eql rfl rfl rfl) ?_
    refine Gq.val rfl rfl rfl (val_move rfl rfl) ?_
    refine Gq.cases (t := 62) rfl (fun h8 => ?_) (fun h8 => ?_)
    · refine Gq.skipg rfl rfl rfl rfl rfl rfl ?_
      refine Gq.skipg rfl rfl rfl rfl rfl rfl ?_
      refine Gq.skipg rfl rfl rfl rfl rfl rfl ?_
      refine Gq.skipg rfl rfl rfl rfl rfl rfl ?_
      refine Gq.skipg rfl rfl rfl rfl rfl rfl ?_
      refine Gq.skipg rfl rfl rfl rfl rfl rfl ?_
      refine Gq.skipg rfl rfl rfl rfl rfl rfl ?_
      refine Gq.skipg rfl rfl rfl rfl rfl rfl ?_
      refine Gq.skipu rfl rfl rfl rfl rfl ?_
      refine Gq.skipu rfl rfl rfl rfl rfl ?_
      refine Gq.skipu rfl rfl rfl rfl rfl ?_
      refine Gq.skipu rfl rfl rfl rfl rfl ?_
      refine Gq.skipu rfl rfl rfl rfl rfl ?_
      refine Gq.skipu rfl rfl rfl rfl rfl ?_
      refine Gq.skipu rfl rfl rfl rfl rfl ?_
      refine Gq.skipu rfl rfl rfl rfl rfl ?_
      refine Gq.skipg rfl rfl rfl rfl rfl rfl ?_
      refine Gq.val rfl rfl rfl (val_pickT rfl rfl rfl) ?_
      refine Gq.done ?_
      refine Gx.thenN ?_
      refine Gx.t rfl ?_
      refine Gx.seq ?_
      refine Gx.region ?_
      refine Gx.val rfl rfl rfl (val_assign rfl rfl) ?_
      refine Gx.done ?_
      refine Gx.thenN ?_
      refine Gx.ret ?_
      refine Gx.thenR ?_
      refine Gx.ret1B hW5 Try.results3 rfl ?_
      rfl
    · refine Gq.valg rfl rfl rfl rfl rfl (val_move rfl rfl) ?_
      refine Gq.valg rfl rfl rfl rfl rfl (val_move rfl rfl) ?_
      refine Gq.valg rfl rfl rfl rfl rfl (val_add rfl rfl rfl (r := ((i + 1 : Nat) : Int)) (w64 (by omega) (by omega))) ?_
      refine Gq.valg rfl rfl rfl rfl rfl (val_ixa rfl Try.underlying22 Try.ty30 rfl rfl (j := i + 1) (rfl) (reach_base hs6 hb)) ?_
      refine Gq.valg rfl rfl rfl rfl rfl (Val.cast (val_fieldAddr rfl Try.underlying30 rfl Try.ty3 rfl rfl) (v' := ptr (sB v) (sO v + (i + 1) * 3)) rfl) ?_
      refine Gq.valg rfl rfl rfl rfl rfl (val_load rfl Try.ty3 rfl rfl (cell_base (i := 0) (sz := 3) (j := i + 1) hs6 hb rfl)) ?_
      refine Gq.valg rfl rfl rfl rfl rfl (val_eql rfl rfl rfl) ?_
      refine Gq.valg rfl rfl rfl rfl rfl (val_move rfl rfl) ?_
      refine Gq.cases (t := 70) rfl (fun h9 => ?_) (fun h9 => ?_)
      · refine Gq.valg rfl rfl rfl rfl rfl (val_move rfl rfl) ?_
        refine Gq.valg rfl rfl rfl rfl rfl (val_move rfl rfl) ?_
        refine Gq.valg rfl rfl rfl rfl rfl (val_add rfl rfl rfl (r := ((i + 1 : Nat) : Int)) (w64 (by omega) (by omega))) ?_
        refine Gq.valg rfl rfl rfl rfl rfl (val_ixa rfl Try.underlying22 Try.ty30 rfl rfl (j := i + 1) (rfl) (reach_base hs6 hb)) ?_
        refine Gq.valg rfl rfl rfl rfl rfl (Val.cast (val_fieldAddr rfl Try.underlying30 rfl Try.ty3 rfl rfl) (v' := ptr (sB v) (sO v + (i + 1) * 3 + 2)) rfl) ?_
        refine Gq.valg rfl rfl rfl rfl rfl (val_load rfl Try.ty3 rfl rfl (cell_base (i := 2) (sz := 3) (j := i + 1) hs6 hb rfl)) ?_
        refine Gq.valg rfl rfl rfl rfl rfl (val_move rfl rfl) ?_
        refine Gq.valg rfl rfl rfl rfl rfl (val_eql rfl rfl rfl) ?_
        refine Gq.valg rfl rfl rfl rfl rfl (val_pickT rfl rfl rfl) ?_
        refine Gq.val rfl rfl rfl (val_pickF rfl rfl rfl) ?_
        refine Gq.done ?_
        refine Gx.thenN ?_
        refine Gx.dec rfl (fun h10 => ?_) (fun h10 => ?_)
        · refine Gx.seq ?_
          refine Gx.region ?_
          refine Gx.val rfl rfl rfl (val_assign rfl rfl) ?_
          refine Gx.done ?_
          refine Gx.thenN ?_
          refine Gx.ret ?_
          refine Gx.thenR ?_
          refine Gx.ret1B hW5 Try.results3 rfl ?_
          rfl
        · refine Gx.skip ?_
          refine Gx.thenN ?_
          refine Gx.seq ?_
          have hne : ea.who ≠ eb.who := by assumption
          have hnt : ¬ (eb.kind = 3 ∧ eb.src = (i : Int)) := by omega
          refine Gx.region ?_
          refine Gx.val rfl rfl rfl (val_assign rfl rfl) ?_
          refine Gx.done ?_
          refine Gx.thenN ?_
          refine Gx.seq ?_
          refine Gx.seq ?_
          refine Gx.ownNil FE 3 ?_
          refine Gx.region ?_
          refine Gx.val rfl rfl rfl (val_move rfl rfl) ?_
          refine Gx.val rfl rfl rfl (val_len rfl Try.underlying22 rfl (len_base hs6)) ?_
          refine Gx.val rfl rfl rfl (val_move rfl rfl) ?_
          refine Gx.done ?_
          refine Gx.thenN ?_
          refine Gx.block ?_
          refine Gx.norm (l' := [Hp.own FE 3 (.slice none 0 0) ((l.take 0).map (rl i))]) (rfl) ?_
          refine Gx.loop (ι := Nat × Value) (fun ξ => (ξ.1 ≤ l.length) ∧ (IsS ξ.2)) (fun ξ => [(0, .int .i64 ((n : Nat) : Int)), (1, v), (7, ov1), (8, .int .i64 0), (9, .int .i64 ((i : Nat) : Int)), (81, v), (82, .int .i64 ((l.length : Nat) : Int)), (83, .int .i64 ((ξ.1 : Nat) : Int)), (10, ξ.2)]) (fun ξ => [Hp.own FE 3 ξ.2 ((l.take ξ.1).map (rl i))]) (fun ξ => l.length - ξ.1) (0, (.slice none 0 0)) ⟨by first | omega | (dsimp only; omega), ⟨none, 0, 0, rfl⟩⟩ ((.cons rfl (.cons rfl (.cons rfl (.cons rfl (.cons rfl (.cons rfl (.cons rfl (.cons rfl (.cons rfl .nil)))))))))) rfl ?_
          rintro ⟨q, mv⟩ ⟨hq, him⟩
          dsimp only at hq him
          refine Gx.know (m' := [(0, .int .i64 ((n : Nat) : Int)), (1, v), (7, ov1), (8, .int .i64 0), (9, .int .i64 ((i : Nat) : Int)), (81, v), (82, .int .i64 ((l.length : Nat) : Int)), (83, .int .i64 ((q : Nat) : Int)), (10, mv)]) (.cons rfl (.cons rfl (.cons rfl (.cons rfl (.cons rfl (.cons rfl (.cons rfl (.cons rfl (.cons rfl .nil))))))))) (Gx.norm (l' := [Hp.own FE 3 mv ((l.take q).map (rl i))]) rfl ?_)
          have hmq : ((l.take q).map (rl i)).length = q := by rw [List.length_map, List.length_take]; omega
          refine Gx.seq ?_
          refine Gx.region ?_
          refine Gx.val rfl rfl rfl (val_lss rfl rfl rfl) ?_
          refine Gx.done ?_
          refine Gx.thenN ?_
          refine Gx.seq ?_
          refine Gx.dec rfl (fun h11 => ?_) (fun h11 => ?_)
          · refine Gx.skip ?_
            refine Gx.thenN ?_
            refine Gx.seq ?_
            refine Gx.block ?_
            refine Gx.seq ?_
            refine Gx.region ?_
            obtain ⟨x12, hx12⟩ := get_of_lt (xs := l) (k := q) (by first | omega | (simp; omega))
            refine Gx.val rfl rfl rfl (val_ixa rfl Try.underlying22 Try.ty30 rfl rfl (j := q) (rfl) (reach_base hs6 hx12)) ?_
            refine Gx.val rfl rfl rfl (Val.cast (val_loadA rfl Try.ty30 rfl rfl rfl (cells_base hs6 hx12)) (v' := .agg #[.int .i64 x12.kind, .int .i64 x12.who, .int .i64 x12.src]) rfl) ?_
            refine Gx.eff rfl rfl rfl (eff_alloc rfl Try.ty30 (vs := [.int .i64 0, .int .i64 0, .int .i64 0]) rfl) ?_
            rintro _ _ ⟨b13, rfl, rfl⟩
            refine Gx.eff0 rfl rfl (eff_store rfl Try.ty30 rfl rfl (us := [.int .i64 x12.kind, .int .i64 x12.who, .int .i64 x12.src]) rfl rfl rfl (k := 0) rfl (rfl) (vs' := [.int .i64 x12.kind, .int .i64 x12.who, .int .i64 x12.src]) (rfl) (l' := [Hp.rec_ b13 [.int .i64 x12.kind, .int .i64 x12.who, .int .i64 x12.src], Hp.own FE 3 mv ((l.take q).map (rl i))]) rfl) ?_
            rintro _ _ rfl
            refine Gx.done ?_
            refine Gx.thenN ?_
            refine Gx.seq ?_
            refine Gx.seq ?_
            refine Gx.region ?_
            refine Gx.val rfl rfl rfl (Val.cast (val_fieldAddr rfl Try.underlying30 rfl Try.ty3 rfl rfl) (v' := ptr b13 0) rfl) ?_
            refine Gx.val rfl rfl rfl (val_load rfl Try.ty3 rfl rfl (cell_rec (k := 0) rfl rfl)) ?_
            refine Gx.val rfl rfl rfl (val_eql rfl rfl rfl) ?_
            refine Gx.val rfl rfl rfl (val_move rfl rfl) ?_
            refine Gx.cases (t := 90) rfl (fun h14 => ?_) (fun h14 => ?_)
            · refine Gx.valg rfl rfl rfl rfl rfl (Val.cast (val_fieldAddr rfl Try.underlying30 rfl Try.ty3 rfl rfl) (v' := ptr b13 2) rfl) ?_
              refine Gx.valg rfl rfl rfl rfl rfl (val_load rfl Try.ty3 rfl rfl (cell_rec (k := 0) rfl rfl)) ?_
              refine Gx.valg rfl rfl rfl rfl rfl (val_move rfl rfl) ?_
              refine Gx.valg rfl rfl rfl rfl rfl (val_eql rfl rfl rfl) ?_
              refine Gx.valg rfl rfl rfl rfl rfl (val_move rfl rfl) ?_
              refine Gx.cases (t := 95) rfl (fun h15 => ?_) (fun h15 => ?_)
              · refine Gx.skipg rfl rfl rfl rfl rfl rfl ?_
                refine Gx.skipg rfl rfl rfl rfl rfl rfl ?_
                refine Gx.skipg rfl rfl rfl rfl rfl rfl ?_
                refine Gx.skipg rfl rfl rfl rfl rfl rfl ?_
                refine Gx.skipg rfl rfl rfl rfl rfl rfl ?_
                refine Gx.valg rfl rfl rfl rfl rfl (val_pickT rfl rfl rfl) ?_
                refine Gx.val rfl rfl rfl (val_pickT rfl rfl rfl) ?_
                refine Gx.done ?_
                refine Gx.thenN ?_
                refine Gx.t rfl ?_
                refine Gx.region ?_
                refine Gx.val rfl rfl rfl (val_move rfl rfl) ?_
                refine Gx.val rfl rfl rfl (val_mul rfl rfl rfl (r := ((2 * i : Nat) : Int)) (w64 (by omega) (by omega))) ?_
                refine Gx.val rfl rfl rfl (val_add rfl rfl rfl (r := ((2 * i + 1 : Nat) : Int)) (w64 (by omega) (by omega))) ?_
                refine Gx.val rfl rfl rfl (Val.cast (val_fieldAddr rfl Try.underlying30 rfl Try.ty3 rfl rfl) (v' := ptr b13 2) rfl) ?_
                refine Gx.val rfl rfl rfl (val_load rfl Try.ty3 rfl rfl (cell_rec (k := 0) rfl rfl)) ?_
                refine Gx.val rfl rfl rfl (val_sub rfl rfl rfl (r := (2 * (i : Int) + 1 - x12.src)) (w64 (by omega) (by omega))) ?_
                refine Gx.val rfl rfl rfl (Val.cast (val_fieldAddr rfl Try.underlying30 rfl Try.ty3 rfl rfl) (v' := ptr b13 2) rfl) ?_
                refine Gx.eff0 rfl rfl (eff_store rfl Try.ty3 rfl rfl (us := [.int .i64 (2 * (i : Int) + 1 - x12.src)]) rfl rfl rfl (k := 0) rfl (rfl) (vs' := [.int .i64 x12.kind, .int .i64 x12.who, .int .i64 (2 * (i : Int) + 1 - x12.src)]) (rfl) (l' := [Hp.rec_ b13 [.int .i64 x12.kind, .int .i64 x12.who, .int .i64 (2 * (i : Int) + 1 - x12.src)], Hp.own FE 3 mv ((l.take q).map (rl i))]) rfl) ?_
                rintro _ _ rfl
                refine Gx.done ?_
                refine Gx.thenN ?_
                refine Gx.region ?_
                refine Gx.val rfl rfl rfl (val_move rfl rfl) ?_
                refine Gx.val rfl rfl rfl (Val.cast (val_loadA rfl Try.ty30 rfl rfl rfl (cells_rec (k := 0) rfl)) (v' := .agg #[.int .i64 x12.kind, .int .i64 x12.who, .int .i64 (2 * (i : Int) + 1 - x12.src)]) rfl) ?_
                refine Gx.eff rfl rfl rfl (eff_buildSlice rfl (qs := [(0, .agg #[.int .i64 x12.kind, .int .i64 x12.who, .int .i64 (2 * (i : Int) + 1 - x12.src)])]) rfl rfl (cs := #[.int .i64 x12.kind, .int .i64 x12.who, .int .i64 (2 * (i : Int) + 1 - x12.src)]) (vs := [.int .i64 x12.kind, .int .i64 x12.who, .int .i64 (2 * (i : Int) + 1 - x12.src)]) (E := 30) rfl (fun w => by first | (go_simp; done) | (go_simp; rfl))) ?_
                rintro _ _ ⟨b16, rfl, rfl⟩
                refine Gx.eff rfl rfl rfl (eff_push (r := (⟨x12.kind, x12.who, (2 * (i : Int) + 1 - x12.src)⟩ : Ev)) rfl Try.eE FE_len FE_one rfl rfl (k := 0) rfl rfl (k' := 1) rfl (by omega) (by omega)) ?_
                rintro v17 _ ⟨hiv17, rfl⟩
                refine Gx.norm (l' := [Hp.rec_ b13 [.int .i64 x12.kind, .int .i64 x12.who, .int .i64 (2 * (i : Int) + 1 - x12.src)], Hp.own FE 3 v17 (((l.take q).map (rl i)) ++ [(⟨x12.kind, x12.who, (2 * (i : Int) + 1 - x12.src)⟩ : Ev)])]) rfl ?_
                refine Gx.val rfl rfl rfl (val_assign rfl rfl) ?_
                refine Gx.done ?_
                refine Gx.blkN ?_
                refine Gx.thenN ?_
                refine Gx.region ?_
                refine Gx.val rfl rfl rfl (val_add rfl rfl rfl (r := ((q + 1 : Nat) : Int)) (w64 (by omega) (by omega))) ?_
                refine Gx.val rfl rfl rfl (val_move rfl rfl) ?_
                refine Gx.done ?_
                refine Gx.thenN ?_
                refine Gx.drop 0 rfl ?_
                have e9 : rl i x12 = ⟨x12.kind, x12.who, 2 * (i : Int) + 1 - x12.src⟩ := rl_yes (by omega)
                refine Gx.norm (l' := [Hp.own FE 3 v17 ((l.take (q + 1)).map (rl i))]) (by rw [map_snoc hx12, e9] <;> rfl) ?_
                exact Gx.round (q + 1, v17) ⟨by first | omega | (dsimp only; omega), hiv17⟩ (by first | omega | (dsimp only; omega)) ((.cons rfl (.cons rfl (.cons rfl (.cons rfl (.cons rfl (.cons rfl (.cons rfl (.cons rfl (.cons rfl .nil)))))))))) rfl
              · refine Gx.valg rfl rfl rfl rfl rfl (Val.cast (val_fieldAddr rfl Try.underlying30 rfl Try.ty3 rfl rfl) (v' := ptr b13 2) rfl) ?_
                refine Gx.valg rfl rfl rfl rfl rfl (val_load rfl Try.ty3 rfl rfl (cell_rec (k := 0) rfl rfl)) ?_
                refine Gx.valg rfl rfl rfl rfl rfl (val_move rfl rfl) ?_
                refine Gx.valg rfl rfl rfl rfl rfl (val_add rfl rfl rfl (r := ((i + 1 : Nat) : Int)) (w64 (by omega) (by omega))) ?_
                refine Gx.valg rfl rfl rfl rfl rfl (val_eql rfl rfl rfl) ?_
                refine Gx.valg rfl rfl rfl rfl rfl (val_pickF rfl rfl rfl) ?_
                refine Gx.val rfl rfl rfl (val_pickT rfl rfl rfl) ?_
                refine Gx.done ?_
                refine Gx.thenN ?_
                refine Gx.dec rfl (fun h18 => ?_) (fun h18 => ?_)
                · refine Gx.region ?_
                  refine Gx.val rfl rfl rfl (val_move rfl rfl) ?_
                  refine Gx.val rfl rfl rfl (val_mul rfl rfl rfl (r := ((2 * i : Nat) : Int)) (w64 (by omega) (by omega))) ?_
                  refine Gx.val rfl rfl rfl (val_add rfl rfl rfl (r := ((2 * i + 1 : Nat) : Int)) (w64 (by omega) (by omega))) ?_
                  refine Gx.val rfl rfl rfl (Val.cast (val_fieldAddr rfl Try.underlying30 rfl Try.ty3 rfl rfl) (v' := ptr b13 2) rfl) ?_
                  refine Gx.val rfl rfl rfl (val_load rfl Try.ty3 rfl rfl (cell_rec (k := 0) rfl rfl)) ?_
                  refine Gx.val rfl rfl rfl (val_sub rfl rfl rfl (r := (2 * (i : Int) + 1 - x12.src)) (w64 (by omega) (by omega))) ?_
                  refine Gx.val rfl rfl rfl (Val.cast (val_fieldAddr rfl Try.underlying30 rfl Try.ty3 rfl rfl) (v' := ptr b13 2) rfl) ?_
                  refine Gx.eff0 rfl rfl (eff_store rfl Try.ty3 rfl rfl (us := [.int .i64 (2 * (i : Int) + 1 - x12.src)]) rfl rfl rfl (k := 0) rfl (rfl) (vs' := [.int .i64 x12.kind, .int .i64 x12.who, .int .i64 (2 * (i : Int) + 1 - x12.src)]) (rfl) (l' := [Hp.rec_ b13 [.int .i64 x12.kind, .int .i64 x12.who, .int .i64 (2 * (i : Int) + 1 - x12.src)], Hp.own FE 3 mv ((l.take q).map (rl i))]) rfl) ?_
                  rintro _ _ rfl
                  refine Gx.done ?_
                  refine Gx.thenN ?_
                  refine Gx.region ?_
                  refine Gx.val rfl rfl rfl (val_move rfl rfl) ?_
                  refine Gx.val rfl rfl rfl (Val.cast (val_loadA rfl Try.ty30 rfl rfl rfl (cells_rec (k := 0) rfl)) (v' := .agg #[.int .i64 x12.kind, .int .i64 x12.who, .int .i64 (2 * (i : Int) + 1 - x12.src)]) rfl) ?_
                  refine Gx.eff rfl rfl rfl (eff_buildSlice rfl (qs := [(0, .agg #[.int .i64 x12.kind, .int .i64 x12.who, .int .i64 (2 * (i : Int) + 1 - x12.src)])]) rfl rfl (cs := #[.int .i64 x12.kind, .int .i64 x12.who, .int .i64 (2 * (i : Int) + 1 - x12.src)]) (vs := [.int .i64 x12.kind, .int .i64 x12.who, .int .i64 (2 * (i : Int) + 1 - x12.src)]) (E := 30) rfl (fun w => by first | (go_simp; done) | (go_simp; rfl))) ?_
                  rintro _ _ ⟨b19, rfl, rfl⟩
                  refine Gx.eff rfl rfl rfl (eff_push (r := (⟨x12.kind, x12.who, (2 * (i : Int) + 1 - x12.src)⟩ : Ev)) rfl Try.eE FE_len FE_one rfl rfl (k := 0) rfl rfl (k' := 1) rfl (by omega) (by omega)) ?_
                  rintro v20 _ ⟨hiv20, rfl⟩
                  refine Gx.norm (l' := [Hp.rec_ b13 [.int .i64 x12.kind, .int .i64 x12.who, .int .i64 (2 * (i : Int) + 1 - x12.src)], Hp.own FE 3 v20 (((l.take q).map (rl i)) ++ [(⟨x12.kind, x12.who, (2 * (i : Int) + 1 - x12.src)⟩ : Ev)])]) rfl ?_
                  refine Gx.val rfl rfl rfl (val_assign rfl rfl) ?_
                  refine Gx.done ?_
                  refine Gx.blkN ?_
                  refine Gx.thenN ?_
                  refine Gx.region ?_
                  refine Gx.val rfl rfl rfl (val_add rfl rfl rfl (r := ((q + 1 : Nat) : Int)) (w64 (by omega) (by omega))) ?_
                  refine Gx.val rfl rfl rfl (val_move rfl rfl) ?_
                  refine Gx.done ?_
                  refine Gx.thenN ?_
                  refine Gx.drop 0 rfl ?_
                  have e9 : rl i x12 = ⟨x12.kind, x12.who, 2 * (i : Int) + 1 - x12.src⟩ := rl_yes (by omega)
                  refine Gx.norm (l' := [Hp.own FE 3 v20 ((l.take (q + 1)).map (rl i))]) (by rw [map_snoc hx12, e9] <;> rfl) ?_
                  exact Gx.round (q + 1, v20) ⟨by first | omega | (dsimp only; omega), hiv20⟩ (by first | omega | (dsimp only; omega)) ((.cons rfl (.cons rfl (.cons rfl (.cons rfl (.cons rfl (.cons rfl (.cons rfl (.cons rfl (.cons rfl .nil)))))))))) rfl
                · refine Gx.skip ?_
                  refine Gx.thenN ?_
                  refine Gx.region ?_
                  refine Gx.val rfl rfl rfl (val_move rfl rfl) ?_
                  refine Gx.val rfl rfl rfl (Val.cast (val_loadA rfl Try.ty30 rfl rfl rfl (cells_rec (k := 0) rfl)) (v' := .agg #[.int .i64 x12.kind, .int .i64 x12.who, .int .i64 x12.src]) rfl) ?_
                  refine Gx.eff rfl rfl rfl (eff_buildSlice rfl (qs := [(0, .agg #[.int .i64 x12.kind, .int .i64 x12.who, .int .i64 x12.src])]) rfl rfl (cs := #[.int .i64 x12.kind, .int .i64 x12.who, .int .i64 x12.src]) (vs := [.int .i64 x12.kind, .int .i64 x12.who, .int .i64 x12.src]) (E := 30) rfl (fun w => by first | (go_simp; done) | (go_simp; rfl))) ?_
                  rintro _ _ ⟨b21, rfl, rfl⟩
                  refine Gx.eff rfl rfl rfl (eff_push (r := (⟨x12.kind, x12.who, x12.src⟩ : Ev)) rfl Try.eE FE_len FE_one rfl rfl (k := 0) rfl rfl (k' := 1) rfl (by omega) (by omega)) ?_
                  rintro v22 _ ⟨hiv22, rfl⟩
                  refine Gx.norm (l' := [Hp.rec_ b13 [.int .i64 x12.kind, .int .i64 x12.who, .int .i64 x12.src], Hp.own FE 3 v22 (((l.take q).map (rl i)) ++ [(⟨x12.kind, x12.who, x12.src⟩ : Ev)])]) rfl ?_
                  refine Gx.val rfl rfl rfl (val_assign rfl rfl) ?_
                  refine Gx.done ?_
                  refine Gx.blkN ?_
                  refine Gx.thenN ?_
                  refine Gx.region ?_
                  refine Gx.val rfl rfl rfl (val_add rfl rfl rfl (r := ((q + 1 : Nat) : Int)) (w64 (by omega) (by omega))) ?_
                  refine Gx.val rfl rfl rfl (val_move rfl rfl) ?_
                  refine Gx.done ?_
                  refine Gx.thenN ?_
                  refine Gx.drop 0 rfl ?_
                  have e9 : rl i x12 = x12 := rl_no (by omega)
                  refine Gx.norm (l' := [Hp.own FE 3 v22 ((l.take (q + 1)).map (rl i))]) (by rw [map_snoc hx12, e9] <;> rfl) ?_
                  exact Gx.round (q + 1, v22) ⟨by first | omega | (dsimp only; omega), hiv22⟩ (by first | omega | (dsimp only; omega)) ((.cons rfl (.cons rfl (.cons rfl (.cons rfl (.cons rfl (.cons rfl (.cons rfl (.cons rfl (.cons rfl .nil)))))))))) rfl
            · refine Gx.skipg rfl rfl rfl rfl rfl rfl ?_
              refine Gx.skipg rfl rfl rfl rfl rfl rfl ?_
              refine Gx.skipg rfl rfl rfl rfl rfl rfl ?_
              refine Gx.skipg rfl rfl rfl rfl rfl rfl ?_
              refine Gx.skipg rfl rfl rfl rfl rfl rfl ?_
              refine Gx.skipu rfl rfl rfl rfl rfl ?_
              refine Gx.skipu rfl rfl rfl rfl rfl ?_
              refine Gx.skipu rfl rfl rfl rfl rfl ?_
              refine Gx.skipu rfl rfl rfl rfl rfl ?_
              refine Gx.skipu rfl rfl rfl rfl rfl ?_
              refine Gx.skipg rfl rfl rfl rfl rfl rfl ?_
              refine Gx.val rfl rfl rfl (val_pickF rfl rfl rfl) ?_
              refine Gx.done ?_
              refine Gx.thenN ?_
              refine Gx.f rfl ?_
              refine Gx.skip ?_
              refine Gx.thenN ?_
              refine Gx.region ?_
              refine Gx.val rfl rfl rfl (val_move rfl rfl) ?_
              refine Gx.val rfl rfl rfl (Val.cast (val_loadA rfl Try.ty30 rfl rfl rfl (cells_rec (k := 0) rfl)) (v' := .agg #[.int .i64 x12.kind, .int .i64 x12.who, .int .i64 x12.src]) rfl) ?_
              refine Gx.eff rfl rfl rfl (eff_buildSlice rfl (qs := [(0, .agg #[.int .i64 x12.kind, .int .i64 x12.who, .int .i64 x12.src])]) rfl rfl (cs := #[.int .i64 x12.kind, .int .i64 x12.who, .int .i64 x12.src]) (vs := [.int .i64 x12.kind, .int .i64 x12.who, .int .i64 x12.src]) (E := 30) rfl (fun w => by first | (go_simp; done) | (go_simp; rfl))) ?_
              rintro _ _ ⟨b23, rfl, rfl⟩
              refine Gx.eff rfl rfl rfl (eff_push (r := (⟨x12.kind, x12.who, x12.src⟩ : Ev)) rfl Try.eE FE_len FE_one rfl rfl (k := 0) rfl rfl (k' := 1) rfl (by omega) (by omega)) ?_
              rintro v24 _ ⟨hiv24, rfl⟩
              refine Gx.norm (l' := [Hp.rec_ b13 [.int .i64 x12.kind, .int .i64 x12.who, .int .i64 x12.src], Hp.own FE 3 v24 (((l.take q).map (rl i)) ++ [(⟨x12.kind, x12.who, x12.src⟩ : Ev)])]) rfl ?_
              refine Gx.val rfl rfl rfl (val_assign rfl rfl) ?_
              refine Gx.done ?_
              refine Gx.blkN ?_
              refine Gx.thenN ?_
              refine Gx.region ?_
              refine Gx.val rfl rfl rfl (val_add rfl rfl rfl (r := ((q + 1 : Nat) : Int)) (w64 (by omega) (by omega))) ?_
              refine Gx.val rfl rfl rfl (val_move rfl rfl) ?_
              refine Gx.done ?_
              refine Gx.thenN ?_
              refine Gx.drop 0 rfl ?_
              have e9 : rl i x12 = x12 := rl_no (by omega)
              refine Gx.norm (l' := [Hp.own FE 3 v24 ((l.take (q + 1)).map (rl i))]) (by rw [map_snoc hx12, e9] <;> rfl) ?_
              exact Gx.round (q + 1, v24) ⟨by first | omega | (dsimp only; omega), hiv24⟩ (by first | omega | (dsimp only; omega)) ((.cons rfl (.cons rfl (.cons rfl (.cons rfl (.cons rfl (.cons rfl (.cons rfl (.cons rfl (.cons rfl .nil)))))))))) rfl
          · refine Gx.exit ?_
            refine Gx.thenE ?_
            refine Gx.thenE ?_
            refine Gx.blkE ?_
            refine Gx.thenN ?_
            refine Gx.seq ?_
            obtain rfl : q = l.length := by omega
            have hml2 : (l.map (rl i)).length = l.length := List.length_map ..
            have hia : (l.map (rl i))[i]? = some (rl i ea) := by rw [List.getElem?_map, ha]; rfl
            have hib : (l.map (rl i))[i + 1]? = some (rl i eb) := by rw [List.getElem?_map, hb]; rfl
            refine Gx.norm (l' := [Hp.own FE 3 mv (l.map (rl i))]) (by rw [List.take_length] <;> rfl) ?_
            -- region 19, in whatever order
            refine Gx.ones 4 (Gx.norm (l' := [Hp.own FE 3 mv (l.map (rl i)), 1, 1, 1, 1]) rfl ?_)
            obtain ⟨pp25x1, pp25x1e⟩ : ∃ p : Done → Hp, p = fun d => cond (dn d 11) (Hp.rec_ (pB (dv d 9)) [.int .i64 ((rl i ea).kind), .int .i64 ((rl i ea).who), .int .i64 ((rl i ea).src)]) (cond (dn d 9) (Hp.rec_ (pB (dv d 9)) [.int .i64 0, .int .i64 0, .int .i64 0]) (1)) := ⟨_, rfl⟩
            obtain ⟨pp25x2, pp25x2e⟩ : ∃ p : Done → Hp, p = fun d => cond (dn d 12) (Hp.rec_ (pB (dv d 10)) [.int .i64 ((rl i eb).kind), .int .i64 ((rl i eb).who), .int .i64 ((rl i eb).src)]) (cond (dn d 10) (Hp.rec_ (pB (dv d 10)) [.int .i64 0, .int .i64 0, .int .i64 0]) (1)) := ⟨_, rfl⟩
            obtain ⟨pp25x3, pp25x3e⟩ : ∃ p : Done → Hp, p = fun d => cond (dn d 9) (Hp.pure (dv d 9 = ptr (pB (dv d 9)) 0)) 1 := ⟨_, rfl⟩
            obtain ⟨pp25x4, pp25x4e⟩ : ∃ p : Done → Hp, p = fun d => cond (dn d 10) (Hp.pure (dv d 10 = ptr (pB (dv d 10)) 0)) 1 := ⟨_, rfl⟩
            refine Gx.regionF [9, 10, 11, 12] [0, 1, 2, 3, 4, 5, 6, 7, 8] (fun ιi => cond (Nat.beq ιi 8) [Hp.own FE 3 mv (l.map (rl i))] (cond (Nat.beq ιi 7) [Hp.own FE 3 mv (l.map (rl i))] (cond (Nat.beq ιi 3) [Hp.own FE 3 mv (l.map (rl i))] (cond (Nat.beq ιi 2) [Hp.own FE 3 mv (l.map (rl i))] ([]))))) (fun d => [Hp.own FE 3 mv (l.map (rl i)), pp25x1 d, pp25x2 d, pp25x3 d, pp25x4 d]) Try.mixed (by kernel_rfl) (by kernel_rfl) (by rw [pp25x1e]; rw [pp25x2e]; rw [pp25x3e]; rw [pp25x4e]; rfl) ?_ ?_
            · intro ιi d w hc hs H
              by_cases hn2 : ιi = 2
              · subst hn2
                exact H.only (k := 0) rfl rfl
              · by_cases hn3 : ιi = 3
                · subst hn3
                  exact H.only (k := 0) rfl rfl
                · by_cases hn7 : ιi = 7
                  · subst hn7
                    exact H.only (k := 0) rfl rfl
                  · by_cases hn8 : ιi = 8
                    · subst hn8
                      exact H.only (k := 0) rfl rfl
                    · refine Sat.listed (l := []) H.noneL ?_
                      simp only [beq_no hn2, beq_no hn3, beq_no hn7, beq_no hn8, cond_false]
            refine Gp.val rfl rfl rfl rfl (val_move rfl rfl) ?_
            refine Gp.val rfl rfl rfl rfl (val_move rfl rfl) ?_
            refine Gp.val rfl rfl rfl rfl (val_ixa rfl Try.underlying22 Try.ty30 rfl rfl (j := i) (rfl) (reach_own (k := 0) rfl hia)) ?_
            refine Gp.val rfl rfl rfl rfl (Val.cast (val_loadA rfl Try.ty30 rfl rfl rfl (cells_own (k := 0) rfl hia)) (v' := .agg #[.int .i64 ((rl i ea).kind), .int .i64 ((rl i ea).who), .int .i64 ((rl i ea).src)]) rfl) ?_
            refine Gp.val rfl rfl rfl rfl (val_move rfl rfl) ?_
            refine Gp.val rfl rfl rfl rfl (val_move rfl rfl) ?_
            refine Gp.val rfl rfl rfl rfl (val_add rfl rfl rfl (r := ((i + 1 : Nat) : Int)) (w64 (by omega) (by omega))) ?_
            refine Gp.val rfl rfl rfl rfl (val_ixa rfl Try.underlying22 Try.ty30 rfl rfl (j := i + 1) (rfl) (reach_own (k := 0) rfl hib)) ?_
            refine Gp.val rfl rfl rfl rfl (Val.cast (val_loadA rfl Try.ty30 rfl rfl rfl (cells_own (sz := 3) (j := i + 1) (k := 0) rfl hib)) (v' := .agg #[.int .i64 ((rl i eb).kind), .int .i64 ((rl i eb).who), .int .i64 ((rl i eb).src)]) rfl) ?_
            refine Gp.done (uniq_of (by kernel_rfl)) (by rfl) (by kernel_rfl) ⟨⟨_, rfl, ?_⟩, ⟨_, rfl, ?_⟩, ⟨_, rfl, ?_⟩, ⟨_, rfl, ?_⟩, trivial⟩ ?_
            · intro d hc hdi hpre a w hf H
              change Sat _ _ (sep [Hp.own FE 3 mv (l.map (rl i)), pp25x1 d, pp25x2 d, pp25x3 d, pp25x4 d]) at H
              have q9 := hdi
              have q11 : dn d 11 = false := hc.not 11 9 rfl (by kernel_rfl) q9
              have q12 : dn d 12 = false := hc.not 12 9 rfl (by kernel_rfl) q9
              have n1 : pp25x1 d = 1 := by rw [pp25x1e]; simp only [q9, q11, cond_true, cond_false]
              have n3 : pp25x3 d = 1 := by rw [pp25x3e]; simp only [q9, cond_true, cond_false]
              rw [n1, n3] at H
              refine EffAt.mono (Eff.at_ hf.slots H (eff_alloc rfl Try.ty30 (vs := [.int .i64 0, .int .i64 0, .int .i64 0]) rfl)) ?_
              rintro _ w2 ⟨_, ⟨b26, rfl, rfl⟩, H2⟩
              have H2 := Sat.fillAt H2 (k := 1) rfl
              have H2 := (Sat.pureI (p := (ptr b26 0 : Value) = ptr b26 0) rfl H2).fillAt (k := 3) rfl
              obtain ⟨d2, hd2⟩ : ∃ d2, d2 = upd d 9 (ptr b26 0) := ⟨_, rfl⟩
              have m9 : dn d2 9 = true := by rw [hd2]; rfl
              have m11 : dn d2 11 = false := by rw [hd2]; exact q11
              have m12 : dn d2 12 = false := by rw [hd2]; exact q12
              rw [← hd2]
              change Sat _ _ (sep [Hp.own FE 3 mv (l.map (rl i)), pp25x1 d2, pp25x2 d2, pp25x3 d2, pp25x4 d2])
              have u1 := congrFun pp25x1e d2
              simp only [m9, m11, cond_true, cond_false] at u1
              have u2 : pp25x2 d2 = pp25x2 d := by rw [hd2, pp25x2e]; rfl
              have u3 := congrFun pp25x3e d2
              simp only [m9, cond_true, cond_false] at u3
              have u4 : pp25x4 d2 = pp25x4 d := by rw [hd2, pp25x4e]; rfl
              rw [u1, u2, u3, u4]
              subst hd2
              exact H2
            · intro d hc hdi hpre a w hf H
              change Sat _ _ (sep [Hp.own FE 3 mv (l.map (rl i)), pp25x1 d, pp25x2 d, pp25x3 d, pp25x4 d]) at H
              have q10 := hdi
              have q11 : dn d 11 = false := hc.not 11 10 rfl (by kernel_rfl) q10
              have q12 : dn d 12 = false := hc.not 12 10 rfl (by kernel_rfl) q10
              have n2 : pp25x2 d = 1 := by rw [pp25x2e]; simp only [q10, q12, cond_true, cond_false]
              have n4 : pp25x4 d = 1 := by rw [pp25x4e]; simp only [q10, cond_true, cond_false]
              rw [n2, n4] at H
              refine EffAt.mono (Eff.at_ hf.slots H (eff_alloc rfl Try.ty30 (vs := [.int .i64 0, .int .i64 0, .int .i64 0]) rfl)) ?_
              rintro _ w2 ⟨_, ⟨b27, rfl, rfl⟩, H2⟩
              have H2 := Sat.fillAt H2 (k := 2) rfl
              have H2 := (Sat.pureI (p := (ptr b27 0 : Value) = ptr b27 0) rfl H2).fillAt (k := 4) rfl
              obtain ⟨d2, hd2⟩ : ∃ d2, d2 = upd d 10 (ptr b27 0) := ⟨_, rfl⟩
              have m10 : dn d2 10 = true := by rw [hd2]; rfl
              have m11 : dn d2 11 = false := by rw [hd2]; exact q11
              have m12 : dn d2 12 = false := by rw [hd2]; exact q12
              rw [← hd2]
              change Sat _ _ (sep [Hp.own FE 3 mv (l.map (rl i)), pp25x1 d2, pp25x2 d2, pp25x3 d2, pp25x4 d2])
              have u1 : pp25x1 d2 = pp25x1 d := by rw [hd2, pp25x1e]; rfl
              have u2 := congrFun pp25x2e d2
              simp only [m10, m12, cond_true, cond_false] at u2
              have u3 : pp25x3 d2 = pp25x3 d := by rw [hd2, pp25x3e]; rfl
              have u4 := congrFun pp25x4e d2
              simp only [m10, cond_true, cond_false] at u4
              rw [u1, u2, u3, u4]
              subst hd2
              exact H2
            · intro d hc hdi hpre a w hf H
              change Sat _ _ (sep [Hp.own FE 3 mv (l.map (rl i)), pp25x1 d, pp25x2 d, pp25x3 d, pp25x4 d]) at H
              have q9 : dn d 9 = true := hpre 9 (by kernel_rfl)
              have q9 : dn d 9 = true := hpre 9 (by kernel_rfl)
              have q10 : dn d 10 = true := hpre 10 (by kernel_rfl)
              have q11 := hdi
              have q12 : dn d 12 = false := hc.not 12 11 rfl (by kernel_rfl) q11
              have e9 : dv d 9 = ptr (pB (dv d 9)) 0 := H.factAt (k := 3) rfl (by rw [pp25x3e]; simp only [q9, cond_true])
              have e10 : dv d 10 = ptr (pB (dv d 10)) 0 := H.factAt (k := 4) rfl (by rw [pp25x4e]; simp only [q10, cond_true])
              have n1 : pp25x1 d = Hp.rec_ (pB (dv d 9)) [.int .i64 0, .int .i64 0, .int .i64 0] := by rw [pp25x1e]; simp only [q9, q11, cond_true, cond_false]
              have n2 : pp25x2 d = Hp.rec_ (pB (dv d 10)) [.int .i64 0, .int .i64 0, .int .i64 0] := by rw [pp25x2e]; simp only [q10, q12, cond_true, cond_false]
              rw [n1, n2] at H
              have s9 := hf.add hf.slots 9 rfl (by kernel_rfl) rfl q9 (v := ptr (pB (dv d 9)) 0) e9
              refine EffAt.mono (Eff.at_ s9 H (eff_store rfl Try.ty30 rfl rfl (us := [.int .i64 ((rl i ea).kind), .int .i64 ((rl i ea).who), .int .i64 ((rl i ea).src)]) rfl rfl rfl (k := 1) rfl (rfl) (vs' := [.int .i64 ((rl i ea).kind), .int .i64 ((rl i ea).who), .int .i64 ((rl i ea).src)]) (rfl) (l' := [Hp.own FE 3 mv (l.map (rl i)), Hp.rec_ (pB (dv d 9)) [.int .i64 ((rl i ea).kind), .int .i64 ((rl i ea).who), .int .i64 ((rl i ea).src)], Hp.rec_ (pB (dv d 10)) [.int .i64 0, .int .i64 0, .int .i64 0], pp25x3 d, pp25x4 d]) rfl)) ?_
              rintro v w2 ⟨_, rfl, H2⟩
              obtain ⟨d2, hd2⟩ : ∃ d2, d2 = upd d 11 v := ⟨_, rfl⟩
              have m11 : dn d2 11 = true := by rw [hd2]; rfl
              have m9 : dn d2 9 = true := by rw [hd2]; exact q9
              have m10 : dn d2 10 = true := by rw [hd2]; exact q10
              have m12 : dn d2 12 = false := by rw [hd2]; exact q12
              rw [← hd2]
              change Sat _ _ (sep [Hp.own FE 3 mv (l.map (rl i)), pp25x1 d2, pp25x2 d2, pp25x3 d2, pp25x4 d2])
              have u1 := congrFun pp25x1e d2
              simp only [m9, m11, cond_true, cond_false] at u1
              have u2 := congrFun pp25x2e d2
              simp only [m10, m12, cond_true, cond_false] at u2
              have u3 : pp25x3 d2 = pp25x3 d := by rw [hd2, pp25x3e]; rfl
              have u4 : pp25x4 d2 = pp25x4 d := by rw [hd2, pp25x4e]; rfl
              rw [u1, u2, u3, u4]
              subst hd2
              exact H2
            · intro d hc hdi hpre a w hf H
              change Sat _ _ (sep [Hp.own FE 3 mv (l.map (rl i)), pp25x1 d, pp25x2 d, pp25x3 d, pp25x4 d]) at H
              have q10 : dn d 10 = true := hpre 10 (by kernel_rfl)
              have q11 : dn d 11 = true := hpre 11 (by kernel_rfl)
              have q9 : dn d 9 = true := hpre 9 (by kernel_rfl)
              have q10 : dn d 10 = true := hpre 10 (by kernel_rfl)
              have q11 : dn d 11 = true := hpre 11 (by kernel_rfl)
              have q12 := hdi
              have e10 : dv d 10 = ptr (pB (dv d 10)) 0 := H.factAt (k := 4) rfl (by rw [pp25x4e]; simp only [q10, cond_true])
              have e9 : dv d 9 = ptr (pB (dv d 9)) 0 := H.factAt (k := 3) rfl (by rw [pp25x3e]; simp only [q9, cond_true])
              have n1 : pp25x1 d = Hp.rec_ (pB (dv d 9)) [.int .i64 ((rl i ea).kind), .int .i64 ((rl i ea).who), .int .i64 ((rl i ea).src)] := by rw [pp25x1e]; simp only [q9, q11, cond_true, cond_false]
              have n2 : pp25x2 d = Hp.rec_ (pB (dv d 10)) [.int .i64 0, .int .i64 0, .int .i64 0] := by rw [pp25x2e]; simp only [q10, q12, cond_true, cond_false]
              rw [n1, n2] at H
              have s10 := hf.add hf.slots 10 rfl (by kernel_rfl) rfl q10 (v := ptr (pB (dv d 10)) 0) e10
              refine EffAt.mono (Eff.at_ s10 H (eff_store rfl Try.ty30 rfl rfl (us := [.int .i64 ((rl i eb).kind), .int .i64 ((rl i eb).who), .int .i64 ((rl i eb).src)]) rfl rfl rfl (k := 2) rfl (rfl) (vs' := [.int .i64 ((rl i eb).kind), .int .i64 ((rl i eb).who), .int .i64 ((rl i eb).src)]) (rfl) (l' := [Hp.own FE 3 mv (l.map (rl i)), Hp.rec_ (pB (dv d 9)) [.int .i64 ((rl i ea).kind), .int .i64 ((rl i ea).who), .int .i64 ((rl i ea).src)], Hp.rec_ (pB (dv d 10)) [.int .i64 ((rl i eb).kind), .int .i64 ((rl i eb).who), .int .i64 ((rl i eb).src)], pp25x3 d, pp25x4 d]) rfl)) ?_
              rintro v w2 ⟨_, rfl, H2⟩
              obtain ⟨d2, hd2⟩ : ∃ d2, d2 = upd d 12 v := ⟨_, rfl⟩
              have m12 : dn d2 12 = true := by rw [hd2]; rfl
              have m10 : dn d2 10 = true := by rw [hd2]; exact q10
              have m11 : dn d2 11 = true := by rw [hd2]; exact q11
              have m9 : dn d2 9 = true := by rw [hd2]; exact q9
              rw [← hd2]
              change Sat _ _ (sep [Hp.own FE 3 mv (l.map (rl i)), pp25x1 d2, pp25x2 d2, pp25x3 d2, pp25x4 d2])
              have u1 := congrFun pp25x1e d2
              simp only [m9, m11, cond_true, cond_false] at u1
              have u2 := congrFun pp25x2e d2
              simp only [m10, m12, cond_true, cond_false] at u2
              have u3 : pp25x3 d2 = pp25x3 d := by rw [hd2, pp25x3e]; rfl
              have u4 : pp25x4 d2 = pp25x4 d := by rw [hd2, pp25x4e]; rfl
              rw [u1, u2, u3, u4]
              subst hd2
              exact H2
            · intro d hc hall a hf w H
              change Sat _ _ (sep [Hp.own FE 3 mv (l.map (rl i)), pp25x1 d, pp25x2 d, pp25x3 d, pp25x4 d]) at H
              have q9 : dn d 9 = true := hall 9 rfl
              have q10 : dn d 10 = true := hall 10 rfl
              have q11 : dn d 11 = true := hall 11 rfl
              have q12 : dn d 12 = true := hall 12 rfl
              have e9 : dv d 9 = ptr (pB (dv d 9)) 0 := H.factAt (k := 3) rfl (by rw [pp25x3e]; simp only [q9, cond_true])
              have e10 : dv d 10 = ptr (pB (dv d 10)) 0 := H.factAt (k := 4) rfl (by rw [pp25x4e]; simp only [q10, cond_true])
              have n1 : pp25x1 d = Hp.rec_ (pB (dv d 9)) [.int .i64 ((rl i ea).kind), .int .i64 ((rl i ea).who), .int .i64 ((rl i ea).src)] := by rw [pp25x1e]; simp only [q9, q11, cond_true, cond_false]
              have n2 : pp25x2 d = Hp.rec_ (pB (dv d 10)) [.int .i64 ((rl i eb).kind), .int .i64 ((rl i eb).who), .int .i64 ((rl i eb).src)] := by rw [pp25x2e]; simp only [q10, q12, cond_true, cond_false]
              have n3 : pp25x3 d = Hp.pure (dv d 9 = ptr (pB (dv d 9)) 0) := by rw [pp25x3e]; simp only [q9, cond_true]
              have n4 : pp25x4 d = Hp.pure (dv d 10 = ptr (pB (dv d 10)) 0) := by rw [pp25x4e]; simp only [q10, cond_true]
              rw [n1, n2, n3, n4] at H
              clear n1 n2 n3 n4
              obtain ⟨z28, hz28⟩ : ∃ b, b = pB (dv d 9) := ⟨_, rfl⟩
              rw [← hz28] at e9  H
              have s9 := hf.add hf.slots 9 rfl rfl rfl q9 (v := ptr z28 0) e9
              obtain ⟨z29, hz29⟩ : ∃ b, b = pB (dv d 10) := ⟨_, rfl⟩
              rw [← hz29] at e10  H
              have s10 := hf.add s9 10 rfl rfl rfl q10 (v := ptr z29 0) e10
              refine Gx.use s10 H ?_
              refine Gx.drop 4 rfl ?_
              refine Gx.drop 3 rfl ?_
              refine Gx.norm (l' := [Hp.own FE 3 mv (l.map (rl i)), Hp.rec_ z28 [.int .i64 ((rl i ea).kind), .int .i64 ((rl i ea).who), .int .i64 ((rl i ea).src)], Hp.rec_ z29 [.int .i64 ((rl i eb).kind), .int .i64 ((rl i eb).who), .int .i64 ((rl i eb).src)]]) rfl ?_
              refine Gx.thenN ?_
              refine Gx.seq ?_
              refine Gx.region ?_
              refine Gx.val rfl rfl rfl (val_move rfl rfl) ?_
              refine Gx.val rfl rfl rfl (val_move rfl rfl) ?_
              refine Gx.val rfl rfl rfl (Val.cast (val_loadA rfl Try.ty30 rfl rfl rfl (cells_rec (k := 2) rfl)) (v' := .agg #[.int .i64 ((rl i eb).kind), .int .i64 ((rl i eb).who), .int .i64 ((rl i eb).src)]) rfl) ?_
              refine Gx.val rfl rfl rfl (val_ixa rfl Try.underlying22 Try.ty30 rfl rfl (j := i) (rfl) (reach_own (k := 0) rfl hia)) ?_
              refine Gx.eff0 rfl rfl (eff_storeElA (⟨(rl i eb).kind, (rl i eb).who, (rl i eb).src⟩ : Ev) rfl Try.ty30 rfl rfl rfl FE_one (k := 0) rfl FE_len hia (l' := [Hp.own FE 3 mv (((l.map (rl i))).set i (⟨(rl i eb).kind, (rl i eb).who, (rl i eb).src⟩ : Ev)), Hp.rec_ z28 [.int .i64 ((rl i ea).kind), .int .i64 ((rl i ea).who), .int .i64 ((rl i ea).src)], Hp.rec_ z29 [.int .i64 ((rl i eb).kind), .int .i64 ((rl i eb).who), .int .i64 ((rl i eb).src)]]) rfl) ?_
              rintro _ _ rfl
              refine Gx.done ?_
              refine Gx.thenN ?_
              refine Gx.seq ?_
              refine Gx.norm (l' := [Hp.own FE 3 mv ((l.map (rl i)).set i (rl i eb)), Hp.rec_ z28 [.int .i64 ((rl i ea).kind), .int .i64 ((rl i ea).who), .int .i64 ((rl i ea).src)], Hp.rec_ z29 [.int .i64 ((rl i eb).kind), .int .i64 ((rl i eb).who), .int .i64 ((rl i eb).src)]]) (rfl) ?_
              have hib2 : ((l.map (rl i)).set i (rl i eb))[i + 1]? = some (rl i eb) := by rw [List.getElem?_set_ne (by omega)]; exact hib
              refine Gx.region ?_
              refine Gx.val rfl rfl rfl (val_move rfl rfl) ?_
              refine Gx.val rfl rfl rfl (val_move rfl rfl) ?_
              refine Gx.val rfl rfl rfl (val_add rfl rfl rfl (r := ((i + 1 : Nat) : Int)) (w64 (by omega) (by omega))) ?_
              refine Gx.val rfl rfl rfl (Val.cast (val_loadA rfl Try.ty30 rfl rfl rfl (cells_rec (k := 1) rfl)) (v' := .agg #[.int .i64 ((rl i ea).kind), .int .i64 ((rl i ea).who), .int .i64 ((rl i ea).src)]) rfl) ?_
              refine Gx.val rfl rfl rfl (val_ixa rfl Try.underlying22 Try.ty30 rfl rfl (j := i + 1) (rfl) (reach_own (k := 0) rfl hib2)) ?_
              refine Gx.eff0 rfl rfl (eff_storeElA (⟨(rl i ea).kind, (rl i ea).who, (rl i ea).src⟩ : Ev) rfl Try.ty30 rfl rfl rfl FE_one (k := 0) rfl FE_len hib2 (l' := [Hp.own FE 3 mv ((((l.map (rl i)).set i (rl i eb))).set (i + 1) (⟨(rl i ea).kind, (rl i ea).who, (rl i ea).src⟩ : Ev)), Hp.rec_ z28 [.int .i64 ((rl i ea).kind), .int .i64 ((rl i ea).who), .int .i64 ((rl i ea).src)], Hp.rec_ z29 [.int .i64 ((rl i eb).kind), .int .i64 ((rl i eb).who), .int .i64 ((rl i eb).src)]]) rfl) ?_
              rintro _ _ rfl
              refine Gx.done ?_
              refine Gx.thenN ?_
              refine Gx.seq ?_
              refine Gx.norm (l' := [Hp.own FE 3 mv (((l.map (rl i)).set i (rl i eb)).set (i + 1) (rl i ea)), Hp.rec_ z28 [.int .i64 ((rl i ea).kind), .int .i64 ((rl i ea).who), .int .i64 ((rl i ea).src)], Hp.rec_ z29 [.int .i64 ((rl i eb).kind), .int .i64 ((rl i eb).who), .int .i64 ((rl i eb).src)]]) (rfl) ?_
              have hsw := swp_of ha hb hne hnt
              obtain ⟨m9, hm9⟩ : ∃ q, q = (((l.map (rl i)).set i (rl i eb)).set (i + 1) (rl i ea)) := ⟨_, rfl⟩
              rw [← hm9] at hsw
              have hmo := hsw.ok hok
              have hm9l := hsw.len
              refine Gx.norm (l' := [Hp.own FE 3 mv m9, Hp.rec_ z28 [.int .i64 ((rl i ea).kind), .int .i64 ((rl i ea).who), .int .i64 ((rl i ea).src)], Hp.rec_ z29 [.int .i64 ((rl i eb).kind), .int .i64 ((rl i eb).who), .int .i64 ((rl i eb).src)]]) (by rw [hm9] <;> rfl) ?_
              refine Gx.region ?_
              refine Gx.val rfl rfl rfl (val_move rfl rfl) ?_
              refine Gx.val rfl rfl rfl (val_move rfl rfl) ?_
              refine Gx.callB rfl rfl rfl (vs := [.int .i64 ((n : Nat) : Int), mv]) rfl Try.fn11 rfl (R := fun u w => ∃ ov, u = .tuple #[ov, .int .i64 0] ∧ Vs w ov (vecL m9 n m9.length)) (fun w H => vecs_ok n ((H.at_ (k := 0) rfl).sls (by omega)) hmo) ?_
              rintro _ W32 ⟨ov30, rfl, ps31, hps31, hvps31, hrps31⟩ H33
              have hW34 := hW5.trans (H33.below.mono hW5.size)
              have hs35 := hs6.below H33.below
              have hs36 := hvps2.below H33.below
              have hs37 := (H33.at_ (k := 0) rfl).sls (by first | omega | (simp; done) | (simp; omega))
              have hb38 := (H33.at_ (k := 1) rfl).rec_.1
              have hc39 := (H33.at_ (k := 1) rfl).cell 0 (u := .int .i64 ((rl i ea).kind)) rfl
              have hc40 := (H33.at_ (k := 1) rfl).cell 1 (u := .int .i64 ((rl i ea).who)) rfl
              have hc41 := (H33.at_ (k := 1) rfl).cell 2 (u := .int .i64 ((rl i ea).src)) rfl
              have hb42 := (H33.at_ (k := 2) rfl).rec_.1
              have hc43 := (H33.at_ (k := 2) rfl).cell 0 (u := .int .i64 ((rl i eb).kind)) rfl
              have hc44 := (H33.at_ (k := 2) rfl).cell 1 (u := .int .i64 ((rl i eb).who)) rfl
              have hc45 := (H33.at_ (k := 2) rfl).cell 2 (u := .int .i64 ((rl i eb).src)) rfl
              have hr1 : ∀ p ∈ ps2, SlS SZ 1 W32 (.slice p.a p.xs.length p.c) p.xs := fun p hp => (hrps2 p hp).below H33.below
              have hlps31 : ps31.length = m9.length := by rw [← List.length_map (f := Vc.xs), hps31, vecL_len]
              refine Gx.val rfl rfl rfl (val_move rfl rfl) ?_
              refine Gx.val rfl rfl rfl (val_extract rfl rfl rfl) ?_
              refine Gx.val rfl rfl rfl (val_extract rfl rfl rfl) ?_
              refine Gx.val rfl rfl rfl (val_assign rfl rfl) ?_
              refine Gx.val rfl rfl rfl (val_assign rfl rfl) ?_
              refine Gx.done ?_
              refine Gx.thenN ?_
              refine Gx.seq ?_
              refine Gx.seq ?_
              refine Gx.region ?_
              refine Gx.val rfl rfl rfl (val_move rfl rfl) ?_
              refine Gx.val rfl rfl rfl (Val.cast (val_neq rfl rfl rfl) (v' := .bool false) rfl) ?_
              refine Gx.val rfl rfl rfl (val_move rfl rfl) ?_
              refine Gx.valg rfl rfl rfl rfl rfl (val_move rfl rfl) ?_
              refine Gx.valg rfl rfl rfl rfl rfl (val_len rfl Try.underlying26 rfl (len_base hvps31)) ?_
              refine Gx.valg rfl rfl rfl rfl rfl (val_move rfl rfl) ?_
              refine Gx.valg rfl rfl rfl rfl rfl (val_len rfl Try.underlying26 rfl (len_base hs36)) ?_
              refine Gx.valg rfl rfl rfl rfl rfl (val_neq rfl rfl rfl) ?_
              refine Gx.val rfl rfl rfl (val_pickF rfl rfl rfl) ?_
              refine Gx.done ?_
              refine Gx.thenN ?_
              refine Gx.decF rfl (by omega) ?_
              refine Gx.skip ?_
              refine Gx.thenN ?_
              refine Gx.seq ?_
              refine Gx.seq ?_
              refine Gx.region ?_
              refine Gx.val rfl rfl rfl (val_assign rfl rfl) ?_
              refine Gx.done ?_
              refine Gx.thenN ?_
              refine Gx.block ?_
              refine Gx.loop (ι := Nat) (fun ξ => (ξ ≤ l.length)) (fun ξ => [(7, ov1), (9, .int .i64 ((i : Nat) : Int)), (15, ov30), (16, .int .i64 ((ξ : Nat) : Int))]) (fun ξ => []) (fun ξ => l.length - ξ) 0 (by first | omega | (dsimp only; omega)) ((.cons rfl (.cons rfl (.cons rfl (.cons rfl .nil))))) rfl ?_
              rintro j hj
              refine Gx.know (m' := [(7, ov1), (9, .int .i64 ((i : Nat) : Int)), (15, ov30), (16, .int .i64 ((j : Nat) : Int))]) (.cons rfl (.cons rfl (.cons rfl (.cons rfl .nil)))) (Gx.norm (l' := []) rfl ?_)
              refine Gx.seq ?_
              refine Gx.seq ?_
              refine Gx.region ?_
              refine Gx.val rfl rfl rfl (val_move rfl rfl) ?_
              refine Gx.val rfl rfl rfl (val_move rfl rfl) ?_
              refine Gx.val rfl rfl rfl (val_len rfl Try.underlying26 rfl (len_base hs36)) ?_
              refine Gx.val rfl rfl rfl (val_lss rfl rfl rfl) ?_
              refine Gx.done ?_
              refine Gx.thenN ?_
              refine Gx.dec rfl (fun h46 => ?_) (fun h46 => ?_)
              · refine Gx.skip ?_
                refine Gx.thenN ?_
                refine Gx.seq ?_
                refine Gx.block ?_
                refine Gx.seq ?_
                have hrows := rows_sg hsw hok j (by omega)
                have hcs := sg_cs i j
                refine Gx.region ?_
                refine Gx.val rfl rfl rfl (val_move rfl rfl) ?_
                refine Gx.val rfl rfl rfl (val_assign rfl rfl) ?_
                refine Gx.done ?_
                refine Gx.thenN ?_
                refine Gx.seq ?_
                refine Gx.seq ?_
                refine Gx.region ?_
                refine Gx.val rfl rfl rfl (val_move rfl rfl) ?_
                refine Gx.val rfl rfl rfl (val_move rfl rfl) ?_
                refine Gx.val rfl rfl rfl (val_eql rfl rfl rfl) ?_
                refine Gx.val rfl rfl rfl (val_move rfl rfl) ?_
                refine Gx.cases (t := 158) rfl (fun h47 => ?_) (fun h47 => ?_)
                · refine Gx.skipg rfl rfl rfl rfl rfl rfl ?_
                  refine Gx.skipg rfl rfl rfl rfl rfl rfl ?_
                  refine Gx.skipg rfl rfl rfl rfl rfl rfl ?_
                  refine Gx.skipg rfl rfl rfl rfl rfl rfl ?_
                  refine Gx.val rfl rfl rfl (val_pickT rfl rfl rfl) ?_
                  refine Gx.done ?_
                  refine Gx.thenN ?_
                  refine Gx.t rfl ?_
                  refine Gx.region ?_
                  refine Gx.val rfl rfl rfl (val_move rfl rfl) ?_
                  refine Gx.val rfl rfl rfl (val_mul rfl rfl rfl (r := ((2 * i : Nat) : Int)) (w64 (by omega) (by omega))) ?_
                  refine Gx.val rfl rfl rfl (val_add rfl rfl rfl (r := ((2 * i + 1 : Nat) : Int)) (w64 (by omega) (by omega))) ?_
                  refine Gx.val rfl rfl rfl (val_move rfl rfl) ?_
                  refine Gx.val rfl rfl rfl (val_sub rfl rfl rfl (r := ((sg i j : Nat) : Int)) (w64 (by omega) (by omega))) ?_
                  refine Gx.val rfl rfl rfl (val_assign rfl rfl) ?_
                  refine Gx.done ?_
                  refine Gx.thenN ?_
                  refine Gx.seq ?_
                  have hsl : sg i j < l.length := by have := hsw.hi; omega
                  obtain ⟨x, hx⟩ := get_of_lt (xs := ps2) (k := j) (by omega)
                  obtain ⟨y, hy⟩ := get_of_lt (xs := ps31) (k := sg i j) (by omega)
                  have hxy : y.xs = x.xs := by
                    have h7 := hrows
                    rw [← hps2, ← hps31, List.getElem?_map, List.getElem?_map, hx, hy] at h7
                    exact Option.some.inj h7
                  refine Gx.regionQ Try.mixed (by kernel_rfl) ?_
                  refine Gq.val rfl rfl rfl (val_move rfl rfl) ?_
                  refine Gq.val rfl rfl rfl (val_move rfl rfl) ?_
                  refine Gq.val rfl rfl rfl (val_ixa rfl Try.underlying26 Try.ty32 rfl rfl (j := j) (rfl) (reach_base hs36 hx)) ?_
                  refine Gq.val rfl rfl rfl (val_load rfl Try.ty32 rfl rfl (cell_base (i := 0) hs36 hx rfl)) ?_
                  have hr48 := hr1 _ (List.mem_of_getElem? hx)
                  refine Gq.val rfl rfl rfl (val_move rfl rfl) ?_
                  refine Gq.val rfl rfl rfl (val_move rfl rfl) ?_
                  refine Gq.val rfl rfl rfl (val_ixa rfl Try.underlying26 Try.ty32 rfl rfl (j := sg i j) (rfl) (reach_base hvps31 hy)) ?_
                  refine Gq.val rfl rfl rfl (val_load rfl Try.ty32 rfl rfl (cell_base (i := 0) (sz := 1) (j := sg i j) hvps31 hy rfl)) ?_
                  have hr49 := hrps31 _ (List.mem_of_getElem? hy)
                  refine Gq.val rfl rfl rfl (val_call (vs := [.slice x.a x.xs.length x.c, .slice y.a y.xs.length y.c]) rfl Try.fn12 rfl (fun w H => ints_same (hr48.below H.below) (hxy ▸ hr49.below H.below))) ?_
                  refine Gq.val rfl rfl rfl (Val.cast (val_not rfl rfl) (v' := .bool false) rfl) ?_
                  refine Gq.done ?_
                  refine Gx.thenN ?_
                  refine Gx.f rfl ?_
                  refine Gx.skip ?_
                  refine Gx.blkN ?_
                  refine Gx.thenN ?_
                  refine Gx.region ?_
                  refine Gx.val rfl rfl rfl (val_move rfl rfl) ?_
                  refine Gx.val rfl rfl rfl (val_add rfl rfl rfl (r := ((j + 1 : Nat) : Int)) (w64 (by omega) (by omega))) ?_
                  refine Gx.val rfl rfl rfl (val_assign rfl rfl) ?_
                  refine Gx.done ?_
                  refine Gx.thenN ?_
                  exact Gx.round (j + 1) (by first | omega | (dsimp only; omega)) (by first | omega | (dsimp only; omega)) ((.cons rfl (.cons rfl (.cons rfl (.cons rfl .nil))))) rfl
                · refine Gx.valg rfl rfl rfl rfl rfl (val_move rfl rfl) ?_
                  refine Gx.valg rfl rfl rfl rfl rfl (val_move rfl rfl) ?_
                  refine Gx.valg rfl rfl rfl rfl rfl (val_add rfl rfl rfl (r := ((i + 1 : Nat) : Int)) (w64 (by omega) (by omega))) ?_
                  refine Gx.valg rfl rfl rfl rfl rfl (val_eql rfl rfl rfl) ?_
                  refine Gx.val rfl rfl rfl (val_pickF rfl rfl rfl) ?_
                  refine Gx.done ?_
                  refine Gx.thenN ?_
                  refine Gx.dec rfl (fun h50 => ?_) (fun h50 => ?_)
                  · refine Gx.region ?_
                    refine Gx.val rfl rfl rfl (val_move rfl rfl) ?_
                    refine Gx.val rfl rfl rfl (val_mul rfl rfl rfl (r := ((2 * i : Nat) : Int)) (w64 (by omega) (by omega))) ?_
                    refine Gx.val rfl rfl rfl (val_add rfl rfl rfl (r := ((2 * i + 1 : Nat) : Int)) (w64 (by omega) (by omega))) ?_
                    refine Gx.val rfl rfl rfl (val_move rfl rfl) ?_
                    refine Gx.val rfl rfl rfl (val_sub rfl rfl rfl (r := ((sg i j : Nat) : Int)) (w64 (by omega) (by omega))) ?_
                    refine Gx.val rfl rfl rfl (val_assign rfl rfl) ?_
                    refine Gx.done ?_
                    refine Gx.thenN ?_
                    refine Gx.seq ?_
                    have hsl : sg i j < l.length := by have := hsw.hi; omega
                    obtain ⟨x, hx⟩ := get_of_lt (xs := ps2) (k := j) (by omega)
                    obtain ⟨y, hy⟩ := get_of_lt (xs := ps31) (k := sg i j) (by omega)
                    have hxy : y.xs = x.xs := by
                      have h7 := hrows
                      rw [← hps2, ← hps31, List.getElem?_map, List.getElem?_map, hx, hy] at h7
                      exact Option.some.inj h7
                    refine Gx.regionQ Try.mixed (by kernel_rfl) ?_
                    refine Gq.val rfl rfl rfl (val_move rfl rfl) ?_
                    refine Gq.val rfl rfl rfl (val_move rfl rfl) ?_
                    refine Gq.val rfl rfl rfl (val_ixa rfl Try.underlying26 Try.ty32 rfl rfl (j := j) (rfl) (reach_base hs36 hx)) ?_
                    refine Gq.val rfl rfl rfl (val_load rfl Try.ty32 rfl rfl (cell_base (i := 0) hs36 hx rfl)) ?_
                    have hr51 := hr1 _ (List.mem_of_getElem? hx)
                    refine Gq.val rfl rfl rfl (val_move rfl rfl) ?_
                    refine Gq.val rfl rfl rfl (val_move rfl rfl) ?_
                    refine Gq.val rfl rfl rfl (val_ixa rfl Try.underlying26 Try.ty32 rfl rfl (j := sg i j) (rfl) (reach_base hvps31 hy)) ?_
                    refine Gq.val rfl rfl rfl (val_load rfl Try.ty32 rfl rfl (cell_base (i := 0) (sz := 1) (j := sg i j) hvps31 hy rfl)) ?_
                    have hr52 := hrps31 _ (List.mem_of_getElem? hy)
                    refine Gq.val rfl rfl rfl (val_call (vs := [.slice x.a x.xs.length x.c, .slice y.a y.xs.length y.c]) rfl Try.fn12 rfl (fun w H => ints_same (hr51.below H.below) (hxy ▸ hr52.below H.below))) ?_
                    refine Gq.val rfl rfl rfl (Val.cast (val_not rfl rfl) (v' := .bool false) rfl) ?_
                    refine Gq.done ?_
                    refine Gx.thenN ?_
                    refine Gx.f rfl ?_
                    refine Gx.skip ?_
                    refine Gx.blkN ?_
                    refine Gx.thenN ?_
                    refine Gx.region ?_
                    refine Gx.val rfl rfl rfl (val_move rfl rfl) ?_
                    refine Gx.val rfl rfl rfl (val_add rfl rfl rfl (r := ((j + 1 : Nat) : Int)) (w64 (by omega) (by omega))) ?_
                    refine Gx.val rfl rfl rfl (val_assign rfl rfl) ?_
                    refine Gx.done ?_
                    refine Gx.thenN ?_
                    exact Gx.round (j + 1) (by first | omega | (dsimp only; omega)) (by first | omega | (dsimp only; omega)) ((.cons rfl (.cons rfl (.cons rfl (.cons rfl .nil))))) rfl
                  · refine Gx.skip ?_
                    refine Gx.thenN ?_
                    refine Gx.seq ?_
                    have hsj : sg i j = j := by omega
                    refine Gx.slot (t := 17) (v := .int .i64 ((sg i j : Nat) : Int)) (by rw [hsj] <;> rfl) ?_
                    have hsl : sg i j < l.length := by have := hsw.hi; omega
                    obtain ⟨x, hx⟩ := get_of_lt (xs := ps2) (k := j) (by omega)
                    obtain ⟨y, hy⟩ := get_of_lt (xs := ps31) (k := sg i j) (by omega)
                    have hxy : y.xs = x.xs := by
                      have h7 := hrows
                      rw [← hps2, ← hps31, List.getElem?_map, List.getElem?_map, hx, hy] at h7
                      exact Option.some.inj h7
                    refine Gx.regionQ Try.mixed (by kernel_rfl) ?_
                    refine Gq.val rfl rfl rfl (val_move rfl rfl) ?_
                    refine Gq.val rfl rfl rfl (val_move rfl rfl) ?_
                    refine Gq.val rfl rfl rfl (val_ixa rfl Try.underlying26 Try.ty32 rfl rfl (j := j) (rfl) (reach_base hs36 hx)) ?_
                    refine Gq.val rfl rfl rfl (val_load rfl Try.ty32 rfl rfl (cell_base (i := 0) hs36 hx rfl)) ?_
                    have hr53 := hr1 _ (List.mem_of_getElem? hx)
                    refine Gq.val rfl rfl rfl (val_move rfl rfl) ?_
                    refine Gq.val rfl rfl rfl (val_move rfl rfl) ?_
                    refine Gq.val rfl rfl rfl (val_ixa rfl Try.underlying26 Try.ty32 rfl rfl (j := sg i j) (rfl) (reach_base hvps31 hy)) ?_
                    refine Gq.val rfl rfl rfl (val_load rfl Try.ty32 rfl rfl (cell_base (i := 0) (sz := 1) (j := sg i j) hvps31 hy rfl)) ?_
                    have hr54 := hrps31 _ (List.mem_of_getElem? hy)
                    refine Gq.val rfl rfl rfl (val_call (vs := [.slice x.a x.xs.length x.c, .slice y.a y.xs.length y.c]) rfl Try.fn12 rfl (fun w H => ints_same (hr53.below H.below) (hxy ▸ hr54.below H.below))) ?_
                    refine Gq.val rfl rfl rfl (Val.cast (val_not rfl rfl) (v' := .bool false) rfl) ?_
                    refine Gq.done ?_
                    refine Gx.thenN ?_
                    refine Gx.f rfl ?_
                    refine Gx.skip ?_
                    refine Gx.blkN ?_
                    refine Gx.thenN ?_
                    refine Gx.region ?_
                    refine Gx.val rfl rfl rfl (val_move rfl rfl) ?_
                    refine Gx.val rfl rfl rfl (val_add rfl rfl rfl (r := ((j + 1 : Nat) : Int)) (w64 (by omega) (by omega))) ?_
                    refine Gx.val rfl rfl rfl (val_assign rfl rfl) ?_
                    refine Gx.done ?_
                    refine Gx.thenN ?_
                    exact Gx.round (j + 1) (by first | omega | (dsimp only; omega)) (by first | omega | (dsimp only; omega)) ((.cons rfl (.cons rfl (.cons rfl (.cons rfl .nil))))) rfl
              · refine Gx.exit ?_
                refine Gx.thenE ?_
                refine Gx.thenE ?_
                refine Gx.blkE ?_
                refine Gx.thenN ?_
                refine Gx.seq ?_
                refine Gx.region ?_
                refine Gx.val rfl rfl rfl (val_assign rfl rfl) ?_
                refine Gx.done ?_
                refine Gx.thenN ?_
                refine Gx.ret ?_
                refine Gx.ret1B hW34 Try.results3 rfl ?_
                rfl
      · refine Gq.skipg rfl rfl rfl rfl rfl rfl ?_
        refine Gq.skipg rfl rfl rfl rfl rfl rfl ?_
        refine Gq.skipg rfl rfl rfl rfl rfl rfl ?_
        refine Gq.skipg rfl rfl rfl rfl rfl rfl ?_
        refine Gq.skipg rfl rfl rfl rfl rfl rfl ?_
        refine Gq.skipg rfl rfl rfl rfl rfl rfl ?_
        refine Gq.skipg rfl rfl rfl rfl rfl rfl ?_
        refine Gq.skipg rfl rfl rfl rfl rfl rfl ?_
        refine Gq.valg rfl rfl rfl rfl rfl (val_pickF rfl rfl rfl) ?_
        refine Gq.val rfl rfl rfl (val_pickF rfl rfl rfl) ?_
        refine Gq.done ?_
        refine Gx.thenN ?_
        refine Gx.f rfl ?_
        refine Gx.skip ?_
        refine Gx.thenN ?_
        refine Gx.seq ?_
        have hne : ea.who ≠ eb.who := by assumption
        have hnt : ¬ (eb.kind = 3 ∧ eb.src = (i : Int)) := by omega
        refine Gx.region ?_
        refine Gx.val rfl rfl rfl (val_assign rfl rfl) ?_
        refine Gx.done ?_
        refine Gx.thenN ?_
        refine Gx.seq ?_
        refine Gx.seq ?_
        refine Gx.ownNil FE 3 ?_
        refine Gx.region ?_
        refine Gx.val rfl rfl rfl (val_move rfl rfl) ?_
        refine Gx.val rfl rfl rfl (val_len rfl Try.underlying22 rfl (len_base hs6)) ?_
        refine Gx.val rfl rfl rfl (val_move rfl rfl) ?_
        refine Gx.done ?_
        refine Gx.thenN ?_
        refine Gx.block ?_
        refine Gx.norm (l' := [Hp.own FE 3 (.slice none 0 0) ((l.take 0).map (rl i))]) (rfl) ?_
        refine Gx.loop (ι := Nat × Value) (fun ξ => (ξ.1 ≤ l.length) ∧ (IsS ξ.2)) (fun ξ => [(0, .int .i64 ((n : Nat) : Int)), (1, v), (7, ov1), (8, .int .i64 0), (9, .int .i64 ((i : Nat) : Int)), (81, v), (82, .int .i64 ((l.length : Nat) : Int)), (83, .int .i64 ((ξ.1 : Nat) : Int)), (10, ξ.2)]) (fun ξ => [Hp.own FE 3 ξ.2 ((l.take ξ.1).map (rl i))]) (fun ξ => l.length - ξ.1) (0, (.slice none 0 0)) ⟨by first | omega | (dsimp only; omega), ⟨none, 0, 0, rfl⟩⟩ ((.cons rfl (.cons rfl (.cons rfl (.cons rfl (.cons rfl (.cons rfl (.cons rfl (.cons rfl (.cons rfl .nil)))))))))) rfl ?_
        rintro ⟨q, mv⟩ ⟨hq, him⟩
        dsimp only at hq him
        refine Gx.know (m' := [(0, .int .i64 ((n : Nat) : Int)), (1, v), (7, ov1), (8, .int .i64 0), (9, .int .i64 ((i : Nat) : Int)), (81, v), (82, .int .i64 ((l.length : Nat) : Int)), (83, .int .i64 ((q : Nat) : Int)), (10, mv)]) (.cons rfl (.cons rfl (.cons rfl (.cons rfl (.cons rfl (.cons rfl (.cons rfl (.cons rfl (.cons rfl .nil))))))))) (Gx.norm (l' := [Hp.own FE 3 mv ((l.take q).map (rl i))]) rfl ?_)
        have hmq : ((l.take q).map (rl i)).length = q := by rw [List.length_map, List.length_take]; omega
        refine Gx.seq ?_
        refine Gx.region ?_
        refine Gx.val rfl rfl rfl (val_lss rfl rfl rfl) ?_
        refine Gx.done ?_
        refine Gx.thenN ?_
        refine Gx.seq ?_
        refine Gx.dec rfl (fun h55 => ?_) (fun h55 => ?_)
        · refine Gx.skip ?_
          refine Gx.thenN ?_
          refine Gx.seq ?_
          refine Gx.block ?_
          refine Gx.seq ?_
          refine Gx.region ?_
          obtain ⟨x56, hx56⟩ := get_of_lt (xs := l) (k := q) (by first | omega | (simp; omega))
          refine Gx.val rfl rfl rfl (val_ixa rfl Try.underlying22 Try.ty30 rfl rfl (j := q) (rfl) (reach_base hs6 hx56)) ?_
          refine Gx.val rfl rfl rfl (Val.cast (val_loadA rfl Try.ty30 rfl rfl rfl (cells_base hs6 hx56)) (v' := .agg #[.int .i64 x56.kind, .int .i64 x56.who, .int .i64 x56.src]) rfl) ?_
          refine Gx.eff rfl rfl rfl (eff_alloc rfl Try.ty30 (vs := [.int .i64 0, .int .i64 0, .int .i64 0]) rfl) ?_
          rintro _ _ ⟨b57, rfl, rfl⟩
          refine Gx.eff0 rfl rfl (eff_store rfl Try.ty30 rfl rfl (us := [.int .i64 x56.kind, .int .i64 x56.who, .int .i64 x56.src]) rfl rfl rfl (k := 0) rfl (rfl) (vs' := [.int .i64 x56.kind, .int .i64 x56.who, .int .i64 x56.src]) (rfl) (l' := [Hp.rec_ b57 [.int .i64 x56.kind, .int .i64 x56.who, .int .i64 x56.src], Hp.own FE 3 mv ((l.take q).map (rl i))]) rfl) ?_
          rintro _ _ rfl
          refine Gx.done ?_
          refine Gx.thenN ?_
          refine Gx.seq ?_
          refine Gx.seq ?_
          refine Gx.region ?_
          refine Gx.val rfl rfl rfl (Val.cast (val_fieldAddr rfl Try.underlying30 rfl Try.ty3 rfl rfl) (v' := ptr b57 0) rfl) ?_
          refine Gx.val rfl rfl rfl (val_load rfl Try.ty3 rfl rfl (cell_rec (k := 0) rfl rfl)) ?_
          refine Gx.val rfl rfl rfl (val_eql rfl rfl rfl) ?_
          refine Gx.val rfl rfl rfl (val_move rfl rfl) ?_
          refine Gx.cases (t := 90) rfl (fun h58 => ?_) (fun h58 => ?_)
          · refine Gx.valg rfl rfl rfl rfl rfl (Val.cast (val_fieldAddr rfl Try.underlying30 rfl Try.ty3 rfl rfl) (v' := ptr b57 2) rfl) ?_
            refine Gx.valg rfl rfl rfl rfl rfl (val_load rfl Try.ty3 rfl rfl (cell_rec (k := 0) rfl rfl)) ?_
            refine Gx.valg rfl rfl rfl rfl rfl (val_move rfl rfl) ?_
            refine Gx.valg rfl rfl rfl rfl rfl (val_eql rfl rfl rfl) ?_
            refine Gx.valg rfl rfl rfl rfl rfl (val_move rfl rfl) ?_
            refine Gx.cases (t := 95) rfl (fun h59 => ?_) (fun h59 => ?_)
            · refine Gx.skipg rfl rfl rfl rfl rfl rfl ?_
              refine Gx.skipg rfl rfl rfl rfl rfl rfl ?_
              refine Gx.skipg rfl rfl rfl rfl rfl rfl ?_
              refine Gx.skipg rfl rfl rfl rfl rfl rfl ?_
              refine Gx.skipg rfl rfl rfl rfl rfl rfl ?_
              refine Gx.valg rfl rfl rfl rfl rfl (val_pickT rfl rfl rfl) ?_
              refine Gx.val rfl rfl rfl (val_pickT rfl rfl rfl) ?_
              refine Gx.done ?_
              refine Gx.thenN ?_
              refine Gx.t rfl ?_
              refine Gx.region ?_
              refine Gx.val rfl rfl rfl (val_move rfl rfl) ?_
              refine Gx.val rfl rfl rfl (val_mul rfl rfl rfl (r := ((2 * i : Nat) : Int)) (w64 (by omega) (by omega))) ?_
              refine Gx.val rfl rfl rfl (val_add rfl rfl rfl (r := ((2 * i + 1 : Nat) : Int)) (w64 (by omega) (by omega))) ?_
              refine Gx.val rfl rfl rfl (Val.cast (val_fieldAddr rfl Try.underlying30 rfl Try.ty3 rfl rfl) (v' := ptr b57 2) rfl) ?_
              refine Gx.val rfl rfl rfl (val_load rfl Try.ty3 rfl rfl (cell_rec (k := 0) rfl rfl)) ?_
              refine Gx.val rfl rfl rfl (val_sub rfl rfl rfl (r := (2 * (i : Int) + 1 - x56.src)) (w64 (by omega) (by omega))) ?_
              refine Gx.val rfl rfl rfl (Val.cast (val_fieldAddr rfl Try.underlying30 rfl Try.ty3 rfl rfl) (v' := ptr b57 2) rfl) ?_
              refine Gx.eff0 rfl rfl (eff_store rfl Try.ty3 rfl rfl (us := [.int .i64 (2 * (i : Int) + 1 - x56.src)]) rfl rfl rfl (k := 0) rfl (rfl) (vs' := [.int .i64 x56.kind, .int .i64 x56.who, .int .i64 (2 * (i : Int) + 1 - x56.src)]) (rfl) (l' := [Hp.rec_ b57 [.int .i64 x56.kind, .int .i64 x56.who, .int .i64 (2 * (i : Int) + 1 - x56.src)], Hp.own FE 3 mv ((l.take q).map (rl i))]) rfl) ?_
              rintro _ _ rfl
              refine Gx.done ?_
              refine Gx.thenN ?_
              refine Gx.region ?_
              refine Gx.val rfl rfl rfl (val_move rfl rfl) ?_
              refine Gx.val rfl rfl rfl (Val.cast (val_loadA rfl Try.ty30 rfl rfl rfl (cells_rec (k := 0) rfl)) (v' := .agg #[.int .i64 x56.kind, .int .i64 x56.who, .int .i64 (2 * (i : Int) + 1 - x56.src)]) rfl) ?_
              refine Gx.eff rfl rfl rfl (eff_buildSlice rfl (qs := [(0, .agg #[.int .i64 x56.kind, .int .i64 x56.who, .int .i64 (2 * (i : Int) + 1 - x56.src)])]) rfl rfl (cs := #[.int .i64 x56.kind, .int .i64 x56.who, .int .i64 (2 * (i : Int) + 1 - x56.src)]) (vs := [.int .i64 x56.kind, .int .i64 x56.who, .int .i64 (2 * (i : Int) + 1 - x56.src)]) (E := 30) rfl (fun w => by first | (go_simp; done) | (go_simp; rfl))) ?_
              rintro _ _ ⟨b60, rfl, rfl⟩
              refine Gx.eff rfl rfl rfl (eff_push (r := (⟨x56.kind, x56.who, (2 * (i : Int) + 1 - x56.src)⟩ : Ev)) rfl Try.eE FE_len FE_one rfl rfl (k := 0) rfl rfl (k' := 1) rfl (by omega) (by omega)) ?_
              rintro v61 _ ⟨hiv61, rfl⟩
              refine Gx.norm (l' := [Hp.rec_ b57 [.int .i64 x56.kind, .int .i64 x56.who, .int .i64 (2 * (i : Int) + 1 - x56.src)], Hp.own FE 3 v61 (((l.take q).map (rl i)) ++ [(⟨x56.kind, x56.who, (2 * (i : Int) + 1 - x56.src)⟩ : Ev)])]) rfl ?_
              refine Gx.val rfl rfl rfl (val_assign rfl rfl) ?_
              refine Gx.done ?_
              refine Gx.blkN ?_
              refine Gx.thenN ?_
              refine Gx.region ?_
              refine Gx.val rfl rfl rfl (val_add rfl rfl rfl (r := ((q + 1 : Nat) : Int)) (w64 (by omega) (by omega))) ?_
              refine Gx.val rfl rfl rfl (val_move rfl rfl) ?_
              refine Gx.done ?_
              refine Gx.thenN ?_
              refine Gx.drop 0 rfl ?_
              have e9 : rl i x56 = ⟨x56.kind, x56.who, 2 * (i : Int) + 1 - x56.src⟩ := rl_yes (by omega)
              refine Gx.norm (l' := [Hp.own FE 3 v61 ((l.take (q + 1)).map (rl i))]) (by rw [map_snoc hx56, e9] <;> rfl) ?_
              exact Gx.round (q + 1, v61) ⟨by first | omega | (dsimp only; omega), hiv61⟩ (by first | omega | (dsimp only; omega)) ((.cons rfl (.cons rfl (.cons rfl (.cons rfl (.cons rfl (.cons rfl (.cons rfl (.cons rfl (.cons rfl .nil)))))))))) rfl
            · refine Gx.valg rfl rfl rfl rfl rfl (Val.cast (val_fieldAddr rfl Try.underlying30 rfl Try.ty3 rfl rfl) (v' := ptr b57 2) rfl) ?_
              refine Gx.valg rfl rfl rfl rfl rfl (val_load rfl Try.ty3 rfl rfl (cell_rec (k := 0) rfl rfl)) ?_
              refine Gx.valg rfl rfl rfl rfl rfl (val_move rfl rfl) ?_
              refine Gx.valg rfl rfl rfl rfl rfl (val_add rfl rfl rfl (r := ((i + 1 : Nat) : Int)) (w64 (by omega) (by omega))) ?_
              refine Gx.valg rfl rfl rfl rfl rfl (val_eql rfl rfl rfl) ?_
              refine Gx.valg rfl rfl rfl rfl rfl (val_pickF rfl rfl rfl) ?_
              refine Gx.val rfl rfl rfl (val_pickT rfl rfl rfl) ?_
              refine Gx.done ?_
              refine Gx.thenN ?_
              refine Gx.dec rfl (fun h62 => ?_) (fun h62 => ?_)
              · refine Gx.region ?_
                refine Gx.val rfl rfl rfl (val_move rfl rfl) ?_
                refine Gx.val rfl rfl rfl (val_mul rfl rfl rfl (r := ((2 * i : Nat) : Int)) (w64 (by omega) (by omega))) ?_
                refine Gx.val rfl rfl rfl (val_add rfl rfl rfl (r := ((2 * i + 1 : Nat) : Int)) (w64 (by omega) (by omega))) ?_
                refine Gx.val rfl rfl rfl (Val.cast (val_fieldAddr rfl Try.underlying30 rfl Try.ty3 rfl rfl) (v' := ptr b57 2) rfl) ?_
                refine Gx.val rfl rfl rfl (val_load rfl Try.ty3 rfl rfl (cell_rec (k := 0) rfl rfl)) ?_
                refine Gx.val rfl rfl rfl (val_sub rfl rfl rfl (r := (2 * (i : Int) + 1 - x56.src)) (w64 (by omega) (by omega))) ?_
                refine Gx.val rfl rfl rfl (Val.cast (val_fieldAddr rfl Try.underlying30 rfl Try.ty3 rfl rfl) (v' := ptr b57 2) rfl) ?_
                refine Gx.eff0 rfl rfl (eff_store rfl Try.ty3 rfl rfl (us := [.int .i64 (2 * (i : Int) + 1 - x56.src)]) rfl rfl rfl (k := 0) rfl (rfl) (vs' := [.int .i64 x56.kind, .int .i64 x56.who, .int .i64 (2 * (i : Int) + 1 - x56.src)]) (rfl) (l' := [Hp.rec_ b57 [.int .i64 x56.kind, .int .i64 x56.who, .int .i64 (2 * (i : Int) + 1 - x56.src)], Hp.own FE 3 mv ((l.take q).map (rl i))]) rfl) ?_
                rintro _ _ rfl
                refine Gx.done ?_
                refine Gx.thenN ?_
                refine Gx.region ?_
                refine Gx.val rfl rfl rfl (val_move rfl rfl) ?_
                refine Gx.val rfl rfl rfl (Val.cast (val_loadA rfl Try.ty30 rfl rfl rfl (cells_rec (k := 0) rfl)) (v' := .agg #[.int .i64 x56.kind, .int .i64 x56.who, .int .i64 (2 * (i : Int) + 1 - x56.src)]) rfl) ?_
                refine Gx.eff rfl rfl rfl (eff_buildSlice rfl (qs := [(0, .agg #[.int .i64 x56.kind, .int .i64 x56.who, .int .i64 (2 * (i : Int) + 1 - x56.src)])]) rfl rfl (cs := #[.int .i64 x56.kind, .int .i64 x56.who, .int .i64 (2 * (i : Int) + 1 - x56.src)]) (vs := [.int .i64 x56.kind, .int .i64 x56.who, .int .i64 (2 * (i : Int) + 1 - x56.src)]) (E := 30) rfl (fun w => by first | (go_simp; done) | (go_simp; rfl))) ?_
                rintro _ _ ⟨b63, rfl, rfl⟩
                refine Gx.eff rfl rfl rfl (eff_push (r := (⟨x56.kind, x56.who, (2 * (i : Int) + 1 - x56.src)⟩ : Ev)) rfl Try.eE FE_len FE_one rfl rfl (k := 0) rfl rfl (k' := 1) rfl (by omega) (by omega)) ?_
                rintro v64 _ ⟨hiv64, rfl⟩
                refine Gx.norm (l' := [Hp.rec_ b57 [.int .i64 x56.kind, .int .i64 x56.who, .int .i64 (2 * (i : Int) + 1 - x56.src)], Hp.own FE 3 v64 (((l.take q).map (rl i)) ++ [(⟨x56.kind, x56.who, (2 * (i : Int) + 1 - x56.src)⟩ : Ev)])]) rfl ?_
                refine Gx.val rfl rfl rfl (val_assign rfl rfl) ?_
                refine Gx.done ?_
                refine Gx.blkN ?_
                refine Gx.thenN ?_
                refine Gx.region ?_
                refine Gx.val rfl rfl rfl (val_add rfl rfl rfl (r := ((q + 1 : Nat) : Int)) (w64 (by omega) (by omega))) ?_
                refine Gx.val rfl rfl rfl (val_move rfl rfl) ?_
                refine Gx.done ?_
                refine Gx.thenN ?_
                refine Gx.drop 0 rfl ?_
                have e9 : rl i x56 = ⟨x56.kind, x56.who, 2 * (i : Int) + 1 - x56.src⟩ := rl_yes (by omega)
                refine Gx.norm (l' := [Hp.own FE 3 v64 ((l.take (q + 1)).map (rl i))]) (by rw [map_snoc hx56, e9] <;> rfl) ?_
                exact Gx.round (q + 1, v64) ⟨by first | omega | (dsimp only; omega), hiv64⟩ (by first | omega | (dsimp only; omega)) ((.cons rfl (.cons rfl (.cons rfl (.cons rfl (.cons rfl (.cons rfl (.cons rfl (.cons rfl (.cons rfl .nil)))))))))) rfl
              · refine Gx.skip ?_
                refine Gx.thenN ?_
                refine Gx.region ?_
                refine Gx.val rfl rfl rfl (val_move rfl rfl) ?_
                refine Gx.val rfl rfl rfl (Val.cast (val_loadA rfl Try.ty30 rfl rfl rfl (cells_rec (k := 0) rfl)) (v' := .agg #[.int .i64 x56.kind, .int .i64 x56.who, .int .i64 x56.src]) rfl) ?_
                refine Gx.eff rfl rfl rfl (eff_buildSlice rfl (qs := [(0, .agg #[.int .i64 x56.kind, .int .i64 x56.who, .int .i64 x56.src])]) rfl rfl (cs := #[.int .i64 x56.kind, .int .i64 x56.who, .int .i64 x56.src]) (vs := [.int .i64 x56.kind, .int .i64 x56.who, .int .i64 x56.src]) (E := 30) rfl (fun w => by first | (go_simp; done) | (go_simp; rfl))) ?_
                rintro _ _ ⟨b65, rfl, rfl⟩
                refine Gx.eff rfl rfl rfl (eff_push (r := (⟨x56.kind, x56.who, x56.src⟩ : Ev)) rfl Try.eE FE_len FE_one rfl rfl (k := 0) rfl rfl (k' := 1) rfl (by omega) (by omega)) ?_
                rintro v66 _ ⟨hiv66, rfl⟩
                refine Gx.norm (l' := [Hp.rec_ b57 [.int .i64 x56.kind, .int .i64 x56.who, .int .i64 x56.src], Hp.own FE 3 v66 (((l.take q).map (rl i)) ++ [(⟨x56.kind, x56.who, x56.src⟩ : Ev)])]) rfl ?_
                refine Gx.val rfl rfl rfl (val_assign rfl rfl) ?_
                refine Gx.done ?_
                refine Gx.blkN ?_
                refine Gx.thenN ?_
                refine Gx.region ?_
                refine Gx.val rfl rfl rfl (val_add rfl rfl rfl (r := ((q + 1 : Nat) : Int)) (w64 (by omega) (by omega))) ?_
                refine Gx.val rfl rfl rfl (val_move rfl rfl) ?_
                refine Gx.done ?_
                refine Gx.thenN ?_
                refine Gx.drop 0 rfl ?_
                have e9 : rl i x56 = x56 := rl_no (by omega)
                refine Gx.norm (l' := [Hp.own FE 3 v66 ((l.take (q + 1)).map (rl i))]) (by rw [map_snoc hx56, e9] <;> rfl) ?_
                exact Gx.round (q + 1, v66) ⟨by first | omega | (dsimp only; omega), hiv66⟩ (by first | omega | (dsimp only; omega)) ((.cons rfl (.cons rfl (.cons rfl (.cons rfl (.cons rfl (.cons rfl (.cons rfl (.cons rfl (.cons rfl .nil)))))))))) rfl
          · refine Gx.skipg rfl rfl rfl rfl rfl rfl ?_
            refine Gx.skipg rfl rfl rfl rfl rfl rfl ?_
            refine Gx.skipg rfl rfl rfl rfl rfl rfl ?_
            refine Gx.skipg rfl rfl rfl rfl rfl rfl ?_
            refine Gx.skipg rfl rfl rfl rfl rfl rfl ?_
            refine Gx.skipu rfl rfl rfl rfl rfl ?_
            refine Gx.skipu rfl rfl rfl rfl rfl ?_
            refine Gx.skipu rfl rfl rfl rfl rfl ?_
            refine Gx.skipu rfl rfl rfl rfl rfl ?_
            refine Gx.skipu rfl rfl rfl rfl rfl ?_
            refine Gx.skipg rfl rfl rfl rfl rfl rfl ?_
            refine Gx.val rfl rfl rfl (val_pickF rfl rfl rfl) ?_
            refine Gx.done ?_
            refine Gx.thenN ?_
            refine Gx.f rfl ?_
            refine Gx.skip ?_
            refine Gx.thenN ?_
            refine Gx.region ?_
            refine Gx.val rfl rfl rfl (val_move rfl rfl) ?_
            refine Gx.val rfl rfl rfl (Val.cast (val_loadA rfl Try.ty30 rfl rfl rfl (cells_rec (k := 0) rfl)) (v' := .agg #[.int .i64 x56.kind, .int .i64 x56.who, .int .i64 x56.src]) rfl) ?_
            refine Gx.eff rfl rfl rfl (eff_buildSlice rfl (qs := [(0, .agg #[.int .i64 x56.kind, .int .i64 x56.who, .int .i64 x56.src])]) rfl rfl (cs := #[.int .i64 x56.kind, .int .i64 x56.who, .int .i64 x56.src]) (vs := [.int .i64 x56.kind, .int .i64 x56.who, .int .i64 x56.src]) (E := 30) rfl (fun w => by first | (go_simp; done) | (go_simp; rfl))) ?_
            rintro _ _ ⟨b67, rfl, rfl⟩
            refine Gx.eff rfl rfl rfl (eff_push (r := (⟨x56.kind, x56.who, x56.src⟩ : Ev)) rfl Try.eE FE_len FE_one rfl rfl (k := 0) rfl rfl (k' := 1) rfl (by omega) (by omega)) ?_
            rintro v68 _ ⟨hiv68, rfl⟩
            refine Gx.norm (l' := [Hp.rec_ b57 [.int .i64 x56.kind, .int .i64 x56.who, .int .i64 x56.src], Hp.own FE 3 v68 (((l.take q).map (rl i)) ++ [(⟨x56.kind, x56.who, x56.src⟩ : Ev)])]) rfl ?_
            refine Gx.val rfl rfl rfl (val_assign rfl rfl) ?_
            refine Gx.done ?_
            refine Gx.blkN ?_
            refine Gx.thenN ?_
            refine Gx.region ?_
            refine Gx.val rfl rfl rfl (val_add rfl rfl rfl (r := ((q + 1 : Nat) : Int)) (w64 (by omega) (by omega))) ?_
            refine Gx.val rfl rfl rfl (val_move rfl rfl) ?_
            refine Gx.done ?_
            refine Gx.thenN ?_
            refine Gx.drop 0 rfl ?_
            have e9 : rl i x56 = x56 := rl_no (by omega)
            refine Gx.norm (l' := [Hp.own FE 3 v68 ((l.take (q + 1)).map (rl i))]) (by rw [map_snoc hx56, e9] <;> rfl) ?_
            exact Gx.round (q + 1, v68) ⟨by first | omega | (dsimp only; omega), hiv68⟩ (by first | omega | (dsimp only; omega)) ((.cons rfl (.cons rfl (.cons rfl (.cons rfl (.cons rfl (.cons rfl (.cons rfl (.cons rfl (.cons rfl .nil)))))))))) rfl
        · refine Gx.exit ?_
          refine Gx.thenE ?_
          refine Gx.thenE ?_
          refine Gx.blkE ?_
          refine Gx.thenN ?_
          refine Gx.seq ?_
          obtain rfl : q = l.length := by omega
          have hml2 : (l.map (rl i)).length = l.length := List.length_map ..
          have hia : (l.map (rl i))[i]? = some (rl i ea) := by rw [List.getElem?_map, ha]; rfl
          have hib : (l.map (rl i))[i + 1]? = some (rl i eb) := by rw [List.getElem?_map, hb]; rfl
          refine Gx.norm (l' := [Hp.own FE 3 mv (l.map (rl i))]) (by rw [List.take_length] <;> rfl) ?_
          -- region 19, in whatever order
          refine Gx.ones 4 (Gx.norm (l' := [Hp.own FE 3 mv (l.map (rl i)), 1, 1, 1, 1]) rfl ?_)
          obtain ⟨pp69x1, pp69x1e⟩ : ∃ p : Done → Hp, p = fun d => cond (dn d 11) (Hp.rec_ (pB (dv d 9)) [.int .i64 ((rl i ea).kind), .int .i64 ((rl i ea).who), .int .i64 ((rl i ea).src)]) (cond (dn d 9) (Hp.rec_ (pB (dv d 9)) [.int .i64 0, .int .i64 0, .int .i64 0]) (1)) := ⟨_, rfl⟩
          obtain ⟨pp69x2, pp69x2e⟩ : ∃ p : Done → Hp, p = fun d => cond (dn d 12) (Hp.rec_ (pB (dv d 10)) [.int .i64 ((rl i eb).kind), .int .i64 ((rl i eb).who), .int .i64 ((rl i eb).src)]) (cond (dn d 10) (Hp.rec_ (pB (dv d 10)) [.int .i64 0, .int .i64 0, .int .i64 0]) (1)) := ⟨_, rfl⟩
          obtain ⟨pp69x3, pp69x3e⟩ : ∃ p : Done → Hp, p = fun d => cond (dn d 9) (Hp.pure (dv d 9 = ptr (pB (dv d 9)) 0)) 1 := ⟨_, rfl⟩
          obtain ⟨pp69x4, pp69x4e⟩ : ∃ p : Done → Hp, p = fun d => cond (dn d 10) (Hp.pure (dv d 10 = ptr (pB (dv d 10)) 0)) 1 := ⟨_, rfl⟩
          refine Gx.regionF [9, 10, 11, 12] [0, 1, 2, 3, 4, 5, 6, 7, 8] (fun ιi => cond (Nat.beq ιi 8) [Hp.own FE 3 mv (l.map (rl i))] (cond (Nat.beq ιi 7) [Hp.own FE 3 mv (l.map (rl i))] (cond (Nat.beq ιi 3) [Hp.own FE 3 mv (l.map (rl i))] (cond (Nat.beq ιi 2) [Hp.own FE 3 mv (l.map (rl i))] ([]))))) (fun d => [Hp.own FE 3 mv (l.map (rl i)), pp69x1 d, pp69x2 d, pp69x3 d, pp69x4 d]) Try.mixed (by kernel_rfl) (by kernel_rfl) (by rw [pp69x1e]; rw [pp69x2e]; rw [pp69x3e]; rw [pp69x4e]; rfl) ?_ ?_
          · intro ιi d w hc hs H
            by_cases hn2 : ιi = 2
            · subst hn2
              exact H.only (k := 0) rfl rfl
            · by_cases hn3 : ιi = 3
              · subst hn3
                exact H.only (k := 0) rfl rfl
              · by_cases hn7 : ιi = 7
                · subst hn7
                  exact H.only (k := 0) rfl rfl
                · by_cases hn8 : ιi = 8
                  · subst hn8
                    exact H.only (k := 0) rfl rfl
                  · refine Sat.listed (l := []) H.noneL ?_
                    simp only [beq_no hn2, beq_no hn3, beq_no hn7, beq_no hn8, cond_false]
          refine Gp.val rfl rfl rfl rfl (val_move rfl rfl) ?_
          refine Gp.val rfl rfl rfl rfl (val_move rfl rfl) ?_
          refine Gp.val rfl rfl rfl rfl (val_ixa rfl Try.underlying22 Try.ty30 rfl rfl (j := i) (rfl) (reach_own (k := 0) rfl hia)) ?_
          refine Gp.val rfl rfl rfl rfl (Val.cast (val_loadA rfl Try.ty30 rfl rfl rfl (cells_own (k := 0) rfl hia)) (v' := .agg #[.int .i64 ((rl i ea).kind), .int .i64 ((rl i ea).who), .int .i64 ((rl i ea).src)]) rfl) ?_
          refine Gp.val rfl rfl rfl rfl (val_move rfl rfl) ?_
          refine Gp.val rfl rfl rfl rfl (val_move rfl rfl) ?_
          refine Gp.val rfl rfl rfl rfl (val_add rfl rfl rfl (r := ((i + 1 : Nat) : Int)) (w64 (by omega) (by omega))) ?_
          refine Gp.val rfl rfl rfl rfl (val_ixa rfl Try.underlying22 Try.ty30 rfl rfl (j := i + 1) (rfl) (reach_own (k := 0) rfl hib)) ?_
          refine Gp.val rfl rfl rfl rfl (Val.cast (val_loadA rfl Try.ty30 rfl rfl rfl (cells_own (sz := 3) (j := i + 1) (k := 0) rfl hib)) (v' := .agg #[.int .i64 ((rl i eb).kind), .int .i64 ((rl i eb).who), .int .i64 ((rl i eb).src)]) rfl) ?_
          refine Gp.done (uniq_of (by kernel_rfl)) (by rfl) (by kernel_rfl) ⟨⟨_, rfl, ?_⟩, ⟨_, rfl, ?_⟩, ⟨_, rfl, ?_⟩, ⟨_, rfl, ?_⟩, trivial⟩ ?_
          · intro d hc hdi hpre a w hf H
            change Sat _ _ (sep [Hp.own FE 3 mv (l.map (rl i)), pp69x1 d, pp69x2 d, pp69x3 d, pp69x4 d]) at H
            have q9 := hdi
            have q11 : dn d 11 = false := hc.not 11 9 rfl (by kernel_rfl) q9
            have q12 : dn d 12 = false := hc.not 12 9 rfl (by kernel_rfl) q9
            have n1 : pp69x1 d = 1 := by rw [pp69x1e]; simp only [q9, q11, cond_true, cond_false]
            have n3 : pp69x3 d = 1 := by rw [pp69x3e]; simp only [q9, cond_true, cond_false]
            rw [n1, n3] at H
            refine EffAt.mono (Eff.at_ hf.slots H (eff_alloc rfl Try.ty30 (vs := [.int .i64 0, .int .i64 0, .int .i64 0]) rfl)) ?_
            rintro _ w2 ⟨_, ⟨b70, rfl, rfl⟩, H2⟩
            have H2 := Sat.fillAt H2 (k := 1) rfl
            have H2 := (Sat.pureI (p := (ptr b70 0 : Value) = ptr b70 0) rfl H2).fillAt (k := 3) rfl
            obtain ⟨d2, hd2⟩ : ∃ d2, d2 = upd d 9 (ptr b70 0) := ⟨_, rfl⟩
            have m9 : dn d2 9 = true := by rw [hd2]; rfl
            have m11 : dn d2 11 = false := by rw [hd2]; exact q11
            have m12 : dn d2 12 = false := by rw [hd2]; exact q12
            rw [← hd2]
            change Sat _ _ (sep [Hp.own FE 3 mv (l.map (rl i)), pp69x1 d2, pp69x2 d2, pp69x3 d2, pp69x4 d2])
            have u1 := congrFun pp69x1e d2
            simp only [m9, m11, cond_true, cond_false] at u1
            have u2 : pp69x2 d2 = pp69x2 d := by rw [hd2, pp69x2e]; rfl
            have u3 := congrFun pp69x3e d2
            simp only [m9, cond_true, cond_false] at u3
            have u4 : pp69x4 d2 = pp69x4 d := by rw [hd2, pp69x4e]; rfl
            rw [u1, u2, u3, u4]
            subst hd2
            exact H2
          · intro d hc hdi hpre a w hf H
            change Sat _ _ (sep [Hp.own FE 3 mv (l.map (rl i)), pp69x1 d, pp69x2 d, pp69x3 d, pp69x4 d]) at H
            have q10 := hdi
            have q11 : dn d 11 = false := hc.not 11 10 rfl (by kernel_rfl) q10
            have q12 : dn d 12 = false := hc.not 12 10 rfl (by kernel_rfl) q10
            have n2 : pp69x2 d = 1 := by rw [pp69x2e]; simp only [q10, q12, cond_true, cond_false]
            have n4 : pp69x4 d = 1 := by rw [pp69x4e]; simp only [q10, cond_true, cond_false]
            rw [n2, n4] at H
            refine EffAt.mono (Eff.at_ hf.slots H (eff_alloc rfl Try.ty30 (vs := [.int .i64 0, .int .i64 0, .int .i64 0]) rfl)) ?_
            rintro _ w2 ⟨_, ⟨b71, rfl, rfl⟩, H2⟩
            have H2 := Sat.fillAt H2 (k := 2) rfl
            have H2 := (Sat.pureI (p := (ptr b71 0 : Value) = ptr b71 0) rfl H2).fillAt (k := 4) rfl
            obtain ⟨d2, hd2⟩ : ∃ d2, d2 = upd d 10 (ptr b71 0) := ⟨_, rfl⟩
            have m10 : dn d2 10 = true := by rw [hd2]; rfl
            have m11 : dn d2 11 = false := by rw [hd2]; exact q11
            have m12 : dn d2 12 = false := by rw [hd2]; exact q12
            rw [← hd2]
            change Sat _ _ (sep [Hp.own FE 3 mv (l.map (rl i)), pp69x1 d2, pp69x2 d2, pp69x3 d2, pp69x4 d2])
            have u1 : pp69x1 d2 = pp69x1 d := by rw [hd2, pp69x1e]; rfl
            have u2 := congrFun pp69x2e d2
            simp only [m10, m12, cond_true, cond_false] at u2
            have u3 : pp69x3 d2 = pp69x3 d := by rw [hd2, pp69x3e]; rfl
            have u4 := congrFun pp69x4e d2
            simp only [m10, cond_true, cond_false] at u4
            rw [u1, u2, u3, u4]
            subst hd2
            exact H2
          · intro d hc hdi hpre a w hf H
            change Sat _ _ (sep [Hp.own FE 3 mv (l.map (rl i)), pp69x1 d, pp69x2 d, pp69x3 d, pp69x4 d]) at H
            have q9 : dn d 9 = true := hpre 9 (by kernel_rfl)
            have q9 : dn d 9 = true := hpre 9 (by kernel_rfl)
            have q10 : dn d 10 = true := hpre 10 (by kernel_rfl)
            have q11 := hdi
            have q12 : dn d 12 = false := hc.not 12 11 rfl (by kernel_rfl) q11
            have e9 : dv d 9 = ptr (pB (dv d 9)) 0 := H.factAt (k := 3) rfl (by rw [pp69x3e]; simp only [q9, cond_true])
            have e10 : dv d 10 = ptr (pB (dv d 10)) 0 := H.factAt (k := 4) rfl (by rw [pp69x4e]; simp only [q10, cond_true])
            have n1 : pp69x1 d = Hp.rec_ (pB (dv d 9)) [.int .i64 0, .int .i64 0, .int .i64 0] := by rw [pp69x1e]; simp only [q9, q11, cond_true, cond_false]
            have n2 : pp69x2 d = Hp.rec_ (pB (dv d 10)) [.int .i64 0, .int .i64 0, .int .i64 0] := by rw [pp69x2e]; simp only [q10, q12, cond_true, cond_false]
            rw [n1, n2] at H
            have s9 := hf.add hf.slots 9 rfl (by kernel_rfl) rfl q9 (v := ptr (pB (dv d 9)) 0) e9
            refine EffAt.mono (Eff.at_ s9 H (eff_store rfl Try.ty30 rfl rfl (us := [.int .i64 ((rl i ea).kind), .int .i64 ((rl i ea).who), .int .i64 ((rl i ea).src)]) rfl rfl rfl (k := 1) rfl (rfl) (vs' := [.int .i64 ((rl i ea).kind), .int .i64 ((rl i ea).who), .int .i64 ((rl i ea).src)]) (rfl) (l' := [Hp.own FE 3 mv (l.map (rl i)), Hp.rec_ (pB (dv d 9)) [.int .i64 ((rl i ea).kind), .int .i64 ((rl i ea).who), .int .i64 ((rl i ea).src)], Hp.rec_ (pB (dv d 10)) [.int .i64 0, .int .i64 0, .int .i64 0], pp69x3 d, pp69x4 d]) rfl)) ?_
            rintro v w2 ⟨_, rfl, H2⟩
            obtain ⟨d2, hd2⟩ : ∃ d2, d2 = upd d 11 v := ⟨_, rfl⟩
            have m11 : dn d2 11 = true := by rw [hd2]; rfl
            have m9 : dn d2 9 = true := by rw [hd2]; exact q9
            have m10 : dn d2 10 = true := by rw [hd2]; exact q10
            have m12 : dn d2 12 = false := by rw [hd2]; exact q12
            rw [← hd2]
            change Sat _ _ (sep [Hp.own FE 3 mv (l.map (rl i)), pp69x1 d2, pp69x2 d2, pp69x3 d2, pp69x4 d2])
            have u1 := congrFun pp69x1e d2
            simp only [m9, m11, cond_true, cond_false] at u1
            have u2 := congrFun pp69x2e d2
            simp only [m10, m12, cond_true, cond_false] at u2
            have u3 : pp69x3 d2 = pp69x3 d := by rw [hd2, pp69x3e]; rfl
            have u4 : pp69x4 d2 = pp69x4 d := by rw [hd2, pp69x4e]; rfl
            rw [u1, u2, u3, u4]
            subst hd2
            exact H2
          · intro d hc hdi hpre a w hf H
            change Sat _ _ (sep [Hp.own FE 3 mv (l.map (rl i)), pp69x1 d, pp69x2 d, pp69x3 d, pp69x4 d]) at H
            have q10 : dn d 10 = true := hpre 10 (by kernel_rfl)
            have q11 : dn d 11 = true := hpre 11 (by kernel_rfl)
            have q9 : dn d 9 = true := hpre 9 (by kernel_rfl)
            have q10 : dn d 10 = true := hpre 10 (by kernel_rfl)
            have q11 : dn d 11 = true := hpre 11 (by kernel_rfl)
            have q12 := hdi
            have e10 : dv d 10 = ptr (pB (dv d 10)) 0 := H.factAt (k := 4) rfl (by rw [pp69x4e]; simp only [q10, cond_true])
            have e9 : dv d 9 = ptr (pB (dv d 9)) 0 := H.factAt (k := 3) rfl (by rw [pp69x3e]; simp only [q9, cond_true])
            have n1 : pp69x1 d = Hp.rec_ (pB (dv d 9)) [.int .i64 ((rl i ea).kind), .int .i64 ((rl i ea).who), .int .i64 ((rl i ea).src)] := by rw [pp69x1e]; simp only [q9, q11, cond_true, cond_false]
            have n2 : pp69x2 d = Hp.rec_ (pB (dv d 10)) [.int .i64 0, .int .i64 0, .int .i64 0] := by rw [pp69x2e]; simp only [q10, q12, cond_true, cond_false]
            rw [n1, n2] at H
            have s10 := hf.add hf.slots 10 rfl (by kernel_rfl) rfl q10 (v := ptr (pB (dv d 10)) 0) e10
            refine EffAt.mono (Eff.at_ s10 H (eff_store rfl Try.ty30 rfl rfl (us := [.int .i64 ((rl i eb).kind), .int .i64 ((rl i eb).who), .int .i64 ((rl i eb).src)]) rfl rfl rfl (k := 2) rfl (rfl) (vs' := [.int .i64 ((rl i eb).kind), .int .i64 ((rl i eb).who), .int .i64 ((rl i eb).src)]) (rfl) (l' := [Hp.own FE 3 mv (l.map (rl i)), Hp.rec_ (pB (dv d 9)) [.int .i64 ((rl i ea).kind), .int .i64 ((rl i ea).who), .int .i64 ((rl i ea).src)], Hp.rec_ (pB (dv d 10)) [.int .i64 ((rl i eb).kind), .int .i64 ((rl i eb).who), .int .i64 ((rl i eb).src)], pp69x3 d, pp69x4 d]) rfl)) ?_
            rintro v w2 ⟨_, rfl, H2⟩
            obtain ⟨d2, hd2⟩ : ∃ d2, d2 = upd d 12 v := ⟨_, rfl⟩
            have m12 : dn d2 12 = true := by rw [hd2]; rfl
            have m10 : dn d2 10 = true := by rw [hd2]; exact q10
            have m11 : dn d2 11 = true := by rw [hd2]; exact q11
            have m9 : dn d2 9 = true := by rw [hd2]; exact q9
            rw [← hd2]
            change Sat _ _ (sep [Hp.own FE 3 mv (l.map (rl i)), pp69x1 d2, pp69x2 d2, pp69x3 d2, pp69x4 d2])
            have u1 := congrFun pp69x1e d2
            simp only [m9, m11, cond_true, cond_false] at u1
            have u2 := congrFun pp69x2e d2
            simp only [m10, m12, cond_true, cond_false] at u2
            have u3 : pp69x3 d2 = pp69x3 d := by rw [hd2, pp69x3e]; rfl
            have u4 : pp69x4 d2 = pp69x4 d := by rw [hd2, pp69x4e]; rfl
            rw [u1, u2, u3, u4]
            subst hd2
            exact H2
          · intro d hc hall a hf w H
            change Sat _ _ (sep [Hp.own FE 3 mv (l.map (rl i)), pp69x1 d, pp69x2 d, pp69x3 d, pp69x4 d]) at H
            have q9 : dn d 9 = true := hall 9 rfl
            have q10 : dn d 10 = true := hall 10 rfl
            have q11 : dn d 11 = true := hall 11 rfl
            have q12 : dn d 12 = true := hall 12 rfl
            have e9 : dv d 9 = ptr (pB (dv d 9)) 0 := H.factAt (k := 3) rfl (by rw [pp69x3e]; simp only [q9, cond_true])
            have e10 : dv d 10 = ptr (pB (dv d 10)) 0 := H.factAt (k := 4) rfl (by rw [pp69x4e]; simp only [q10, cond_true])
            have n1 : pp69x1 d = Hp.rec_ (pB (dv d 9)) [.int .i64 ((rl i ea).kind), .int .i64 ((rl i ea).who), .int .i64 ((rl i ea).src)] := by rw [pp69x1e]; simp only [q9, q11, cond_true, cond_false]
            have n2 : pp69x2 d = Hp.rec_ (pB (dv d 10)) [.int .i64 ((rl i eb).kind), .int .i64 ((rl i eb).who), .int .i64 ((rl i eb).src)] := by rw [pp69x2e]; simp only [q10, q12, cond_true, cond_false]
            have n3 : pp69x3 d = Hp.pure (dv d 9 = ptr (pB (dv d 9)) 0) := by rw [pp69x3e]; simp only [q9, cond_true]
            have n4 : pp69x4 d = Hp.pure (dv d 10 = ptr (pB (dv d 10)) 0) := by rw [pp69x4e]; simp only [q10, cond_true]
            rw [n1, n2, n3, n4] at H
            clear n1 n2 n3 n4
            obtain ⟨z72, hz72⟩ : ∃ b, b = pB (dv d 9) := ⟨_, rfl⟩
            rw [← hz72] at e9  H
            have s9 := hf.add hf.slots 9 rfl rfl rfl q9 (v := ptr z72 0) e9
            obtain ⟨z73, hz73⟩ : ∃ b, b = pB (dv d 10) := ⟨_, rfl⟩
            rw [← hz73] at e10  H
            have s10 := hf.add s9 10 rfl rfl rfl q10 (v := ptr z73 0) e10
            refine Gx.use s10 H ?_
            refine Gx.drop 4 rfl ?_
            refine Gx.drop 3 rfl ?_
            refine Gx.norm (l' := [Hp.own FE 3 mv (l.map (rl i)), Hp.rec_ z72 [.int .i64 ((rl i ea).kind), .int .i64 ((rl i ea).who), .int .i64 ((rl i ea).src)], Hp.rec_ z73 [.int .i64 ((rl i eb).kind), .int .i64 ((rl i eb).who), .int .i64 ((rl i eb).src)]]) rfl ?_
            refine Gx.thenN ?_
            refine Gx.seq ?_
            refine Gx.region ?_
            refine Gx.val rfl rfl rfl (val_move rfl rfl) ?_
            refine Gx.val rfl rfl rfl (val_move rfl rfl) ?_
            refine Gx.val rfl rfl rfl (Val.cast (val_loadA rfl Try.ty30 rfl rfl rfl (cells_rec (k := 2) rfl)) (v' := .agg #[.int .i64 ((rl i eb).kind), .int .i64 ((rl i eb).who), .int .i64 ((rl i eb).src)]) rfl) ?_
            refine Gx.val rfl rfl rfl (val_ixa rfl Try.underlying22 Try.ty30 rfl rfl (j := i) (rfl) (reach_own (k := 0) rfl hia)) ?_
            refine Gx.eff0 rfl rfl (eff_storeElA (⟨(rl i eb).kind, (rl i eb).who, (rl i eb).src⟩ : Ev) rfl Try.ty30 rfl rfl rfl FE_one (k := 0) rfl FE_len hia (l' := [Hp.own FE 3 mv (((l.map (rl i))).set i (⟨(rl i eb).kind, (rl i eb).who, (rl i eb).src⟩ : Ev)), Hp.rec_ z72 [.int .i64 ((rl i ea).kind), .int .i64 ((rl i ea).who), .int .i64 ((rl i ea).src)], Hp.rec_ z73 [.int .i64 ((rl i eb).kind), .int .i64 ((rl i eb).who), .int .i64 ((rl i eb).src)]]) rfl) ?_
            rintro _ _ rfl
            refine Gx.done ?_
            refine Gx.thenN ?_
            refine Gx.seq ?_
            refine Gx.norm (l' := [Hp.own FE 3 mv ((l.map (rl i)).set i (rl i eb)), Hp.rec_ z72 [.int .i64 ((rl i ea).kind), .int .i64 ((rl i ea).who), .int .i64 ((rl i ea).src)], Hp.rec_ z73 [.int .i64 ((rl i eb).kind), .int .i64 ((rl i eb).who), .int .i64 ((rl i eb).src)]]) (rfl) ?_
            have hib2 : ((l.map (rl i)).set i (rl i eb))[i + 1]? = some (rl i eb) := by rw [List.getElem?_set_ne (by omega)]; exact hib
            refine Gx.region ?_
            refine Gx.val rfl rfl rfl (val_move rfl rfl) ?_
            refine Gx.val rfl rfl rfl (val_move rfl rfl) ?_
            refine Gx.val rfl rfl rfl (val_add rfl rfl rfl (r := ((i + 1 : Nat) : Int)) (w64 (by omega) (by omega))) ?_
            refine Gx.val rfl rfl rfl (Val.cast (val_loadA rfl Try.ty30 rfl rfl rfl (cells_rec (k := 1) rfl)) (v' := .agg #[.int .i64 ((rl i ea).kind), .int .i64 ((rl i ea).who), .int .i64 ((rl i ea).src)]) rfl) ?_
            refine Gx.val rfl rfl rfl (val_ixa rfl Try.underlying22 Try.ty30 rfl rfl (j := i + 1) (rfl) (reach_own (k := 0) rfl hib2)) ?_
            refine Gx.eff0 rfl rfl (eff_storeElA (⟨(rl i ea).kind, (rl i ea).who, (rl i ea).src⟩ : Ev) rfl Try.ty30 rfl rfl rfl FE_one (k := 0) rfl FE_len hib2 (l' := [Hp.own FE 3 mv ((((l.map (rl i)).set i (rl i eb))).set (i + 1) (⟨(rl i ea).kind, (rl i ea).who, (rl i ea).src⟩ : Ev)), Hp.rec_ z72 [.int .i64 ((rl i ea).kind), .int .i64 ((rl i ea).who), .int .i64 ((rl i ea).src)], Hp.rec_ z73 [.int .i64 ((rl i eb).kind), .int .i64 ((rl i eb).who), .int .i64 ((rl i eb).src)]]) rfl) ?_
            rintro _ _ rfl
            refine Gx.done ?_
            refine Gx.thenN ?_
            refine Gx.seq ?_
            refine Gx.norm (l' := [Hp.own FE 3 mv (((l.map (rl i)).set i (rl i eb)).set (i + 1) (rl i ea)), Hp.rec_ z72 [.int .i64 ((rl i ea).kind), .int .i64 ((rl i ea).who), .int .i64 ((rl i ea).src)], Hp.rec_ z73 [.int .i64 ((rl i eb).kind), .int .i64 ((rl i eb).who), .int .i64 ((rl i eb).src)]]) (rfl) ?_
            have hsw := swp_of ha hb hne hnt
            obtain ⟨m9, hm9⟩ : ∃ q, q = (((l.map (rl i)).set i (rl i eb)).set (i + 1) (rl i ea)) := ⟨_, rfl⟩
            rw [← hm9] at hsw
            have hmo := hsw.ok hok
            have hm9l := hsw.len
            refine Gx.norm (l' := [Hp.own FE 3 mv m9, Hp.rec_ z72 [.int .i64 ((rl i ea).kind), .int .i64 ((rl i ea).who), .int .i64 ((rl i ea).src)], Hp.rec_ z73 [.int .i64 ((rl i eb).kind), .int .i64 ((rl i eb).who), .int .i64 ((rl i eb).src)]]) (by rw [hm9] <;> rfl) ?_
            refine Gx.region ?_
            refine Gx.val rfl rfl rfl (val_move rfl rfl) ?_
            refine Gx.val rfl rfl rfl (val_move rfl rfl) ?_
            refine Gx.callB rfl rfl rfl (vs := [.int .i64 ((n : Nat) : Int), mv]) rfl Try.fn11 rfl (R := fun u w => ∃ ov, u = .tuple #[ov, .int .i64 0] ∧ Vs w ov (vecL m9 n m9.length)) (fun w H => vecs_ok n ((H.at_ (k := 0) rfl).sls (by omega)) hmo) ?_
            rintro _ W76 ⟨ov74, rfl, ps75, hps75, hvps75, hrps75⟩ H77
            have hW78 := hW5.trans (H77.below.mono hW5.size)
            have hs79 := hs6.below H77.below
            have hs80 := hvps2.below H77.below
            have hs81 := (H77.at_ (k := 0) rfl).sls (by first | omega | (simp; done) | (simp; omega))
            have hb82 := (H77.at_ (k := 1) rfl).rec_.1
            have hc83 := (H77.at_ (k := 1) rfl).cell 0 (u := .int .i64 ((rl i ea).kind)) rfl
            have hc84 := (H77.at_ (k := 1) rfl).cell 1 (u := .int .i64 ((rl i ea).who)) rfl
            have hc85 := (H77.at_ (k := 1) rfl).cell 2 (u := .int .i64 ((rl i ea).src)) rfl
            have hb86 := (H77.at_ (k := 2) rfl).rec_.1
            have hc87 := (H77.at_ (k := 2) rfl).cell 0 (u := .int .i64 ((rl i eb).kind)) rfl
            have hc88 := (H77.at_ (k := 2) rfl).cell 1 (u := .int .i64 ((rl i eb).who)) rfl
            have hc89 := (H77.at_ (k := 2) rfl).cell 2 (u := .int .i64 ((rl i eb).src)) rfl
            have hr1 : ∀ p ∈ ps2, SlS SZ 1 W76 (.slice p.a p.xs.length p.c) p.xs := fun p hp => (hrps2 p hp).below H77.below
            have hlps75 : ps75.length = m9.length := by rw [← List.length_map (f := Vc.xs), hps75, vecL_len]
            refine Gx.val rfl rfl rfl (val_move rfl rfl) ?_
            refine Gx.val rfl rfl rfl (val_extract rfl rfl rfl) ?_
            refine Gx.val rfl rfl rfl (val_extract rfl rfl rfl) ?_
            refine Gx.val rfl rfl rfl (val_assign rfl rfl) ?_
            refine Gx.val rfl rfl rfl (val_assign rfl rfl) ?_
            refine Gx.done ?_
            refine Gx.thenN ?_
            refine Gx.seq ?_
            refine Gx.seq ?_
            refine Gx.region ?_
            refine Gx.val rfl rfl rfl (val_move rfl rfl) ?_
            refine Gx.val rfl rfl rfl (Val.cast (val_neq rfl rfl rfl) (v' := .bool false) rfl) ?_
            refine Gx.val rfl rfl rfl (val_move rfl rfl) ?_
            refine Gx.valg rfl rfl rfl rfl rfl (val_move rfl rfl) ?_
            refine Gx.valg rfl rfl rfl rfl rfl (val_len rfl Try.underlying26 rfl (len_base hvps75)) ?_
            refine Gx.valg rfl rfl rfl rfl rfl (val_move rfl rfl) ?_
            refine Gx.valg rfl rfl rfl rfl rfl (val_len rfl Try.underlying26 rfl (len_base hs80)) ?_
            refine Gx.valg rfl rfl rfl rfl rfl (val_neq rfl rfl rfl) ?_
            refine Gx.val rfl rfl rfl (val_pickF rfl rfl rfl) ?_
            refine Gx.done ?_
            refine Gx.thenN ?_
            refine Gx.decF rfl (by omega) ?_
            refine Gx.skip ?_
            refine Gx.thenN ?_
            refine Gx.seq ?_
            refine Gx.seq ?_
            refine Gx.region ?_
            refine Gx.val rfl rfl rfl (val_assign rfl rfl) ?_
            refine Gx.done ?_
            refine Gx.thenN ?_
            refine Gx.block ?_
            refine Gx.loop (ι := Nat) (fun ξ => (ξ ≤ l.length)) (fun ξ => [(7, ov1), (9, .int .i64 ((i : Nat) : Int)), (15, ov74), (16, .int .i64 ((ξ : Nat) : Int))]) (fun ξ => []) (fun ξ => l.length - ξ) 0 (by first | omega | (dsimp only; omega)) ((.cons rfl (.cons rfl (.cons rfl (.cons rfl .nil))))) rfl ?_
            rintro j hj
            refine Gx.know (m' := [(7, ov1), (9, .int .i64 ((i : Nat) : Int)), (15, ov74), (16, .int .i64 ((j : Nat) : Int))]) (.cons rfl (.cons rfl (.cons rfl (.cons rfl .nil)))) (Gx.norm (l' := []) rfl ?_)
            refine Gx.seq ?_
            refine Gx.seq ?_
            refine Gx.region ?_
            refine Gx.val rfl rfl rfl (val_move rfl rfl) ?_
            refine Gx.val rfl rfl rfl (val_move rfl rfl) ?_
            refine Gx.val rfl rfl rfl (val_len rfl Try.underlying26 rfl (len_base hs80)) ?_
            refine Gx.val rfl rfl rfl (val_lss rfl rfl rfl) ?_
            refine Gx.done ?_
            refine Gx.thenN ?_
            refine Gx.dec rfl (fun h90 => ?_) (fun h90 => ?_)
            · refine Gx.skip ?_
              refine Gx.thenN ?_
              refine Gx.seq ?_
              refine Gx.block ?_
              refine Gx.seq ?_
              have hrows := rows_sg hsw hok j (by omega)
              have hcs := sg_cs i j
              refine Gx.region ?_
              refine Gx.val rfl rfl rfl (val_move rfl rfl) ?_
              refine Gx.val rfl rfl rfl (val_assign rfl rfl) ?_
              refine Gx.done ?_
              refine Gx.thenN ?_
              refine Gx.seq ?_
              refine Gx.seq ?_
              refine Gx.region ?_
              refine Gx.val rfl rfl rfl (val_move rfl rfl) ?_
              refine Gx.val rfl rfl rfl (val_move rfl rfl) ?_
              refine Gx.val rfl rfl rfl (val_eql rfl rfl rfl) ?_
              refine Gx.val rfl rfl rfl (val_move rfl rfl) ?_
              refine Gx.cases (t := 158) rfl (fun h91 => ?_) (fun h91 => ?_)
              · refine Gx.skipg rfl rfl rfl rfl rfl rfl ?_
                refine Gx.skipg rfl rfl rfl rfl rfl rfl ?_
                refine Gx.skipg rfl rfl rfl rfl rfl rfl ?_
                refine Gx.skipg rfl rfl rfl rfl rfl rfl ?_
                refine Gx.val rfl rfl rfl (val_pickT rfl rfl rfl) ?_
                refine Gx.done ?_
                refine Gx.thenN ?_
                refine Gx.t rfl ?_
                refine Gx.region ?_
                refine Gx.val rfl rfl rfl (val_move rfl rfl) ?_
                refine Gx.val rfl rfl rfl (val_mul rfl rfl rfl (r := ((2 * i : Nat) : Int)) (w64 (by omega) (by omega))) ?_
                refine Gx.val rfl rfl rfl (val_add rfl rfl rfl (r := ((2 * i + 1 : Nat) : Int)) (w64 (by omega) (by omega))) ?_
                refine Gx.val rfl rfl rfl (val_move rfl rfl) ?_
                refine Gx.val rfl rfl rfl (val_sub rfl rfl rfl (r := ((sg i j : Nat) : Int)) (w64 (by omega) (by omega))) ?_
                refine Gx.val rfl rfl rfl (val_assign rfl rfl) ?_
                refine Gx.done ?_
                refine Gx.thenN ?_
                refine Gx.seq ?_
                have hsl : sg i j < l.length := by have := hsw.hi; omega
                obtain ⟨x, hx⟩ := get_of_lt (xs := ps2) (k := j) (by omega)
                obtain ⟨y, hy⟩ := get_of_lt (xs := ps75) (k := sg i j) (by omega)
                have hxy : y.xs = x.xs := by
                  have h7 := hrows
                  rw [← hps2, ← hps75, List.getElem?_map, List.getElem?_map, hx, hy] at h7
                  exact Option.some.inj h7
                refine Gx.regionQ Try.mixed (by kernel_rfl) ?_
                refine Gq.val rfl rfl rfl (val_move rfl rfl) ?_
                refine Gq.val rfl rfl rfl (val_move rfl rfl) ?_
                refine Gq.val rfl rfl rfl (val_ixa rfl Try.underlying26 Try.ty32 rfl rfl (j := j) (rfl) (reach_base hs80 hx)) ?_
                refine Gq.val rfl rfl rfl (val_load rfl Try.ty32 rfl rfl (cell_base (i := 0) hs80 hx rfl)) ?_
                have hr92 := hr1 _ (List.mem_of_getElem? hx)
                refine Gq.val rfl rfl rfl (val_move rfl rfl) ?_
                refine Gq.val rfl rfl rfl (val_move rfl rfl) ?_
                refine Gq.val rfl rfl rfl (val_ixa rfl Try.underlying26 Try.ty32 rfl rfl (j := sg i j) (rfl) (reach_base hvps75 hy)) ?_
                refine Gq.val rfl rfl rfl (val_load rfl Try.ty32 rfl rfl (cell_base (i := 0) (sz := 1) (j := sg i j) hvps75 hy rfl)) ?_
                have hr93 := hrps75 _ (List.mem_of_getElem? hy)
                refine Gq.val rfl rfl rfl (val_call (vs := [.slice x.a x.xs.length x.c, .slice y.a y.xs.length y.c]) rfl Try.fn12 rfl (fun w H => ints_same (hr92.below H.below) (hxy ▸ hr93.below H.below))) ?_
                refine Gq.val rfl rfl rfl (Val.cast (val_not rfl rfl) (v' := .bool false) rfl) ?_
                refine Gq.done ?_
                refine Gx.thenN ?_
                refine Gx.f rfl ?_
                refine Gx.skip ?_
                refine Gx.blkN ?_
                refine Gx.thenN ?_
                refine Gx.region ?_
                refine Gx.val rfl rfl rfl (val_move rfl rfl) ?_
                refine Gx.val rfl rfl rfl (val_add rfl rfl rfl (r := ((j + 1 : Nat) : Int)) (w64 (by omega) (by omega))) ?_
                refine Gx.val rfl rfl rfl (val_assign rfl rfl) ?_
                refine Gx.done ?_
                refine Gx.thenN ?_
                exact Gx.round (j + 1) (by first | omega | (dsimp only; omega)) (by first | omega | (dsimp only; omega)) ((.cons rfl (.cons rfl (.cons rfl (.cons rfl .nil))))) rfl
              · refine Gx.valg rfl rfl rfl rfl rfl (val_move rfl rfl) ?_
                refine Gx.valg rfl rfl rfl rfl rfl (val_move rfl rfl) ?_
                refine Gx.valg rfl rfl rfl rfl rfl (val_add rfl rfl rfl (r := ((i + 1 : Nat) : Int)) (w64 (by omega) (by omega))) ?_
                refine Gx.valg rfl rfl rfl rfl rfl (val_eql rfl rfl rfl) ?_
                refine Gx.val rfl rfl rfl (val_pickF rfl rfl rfl) ?_
                refine Gx.done ?_
                refine Gx.thenN ?_
                refine Gx.dec rfl (fun h94 => ?_) (fun h94 => ?_)
                · refine Gx.region ?_
                  refine Gx.val rfl rfl rfl (val_move rfl rfl) ?_
                  refine Gx.val rfl rfl rfl (val_mul rfl rfl rfl (r := ((2 * i : Nat) : Int)) (w64 (by omega) (by omega))) ?_
                  refine Gx.val rfl rfl rfl (val_add rfl rfl rfl (r := ((2 * i + 1 : Nat) : Int)) (w64 (by omega) (by omega))) ?_
                  refine Gx.val rfl rfl rfl (val_move rfl rfl) ?_
                  refine Gx.val rfl rfl rfl (val_sub rfl rfl rfl (r := ((sg i j : Nat) : Int)) (w64 (by omega) (by omega))) ?_
                  refine Gx.val rfl rfl rfl (val_assign rfl rfl) ?_
                  refine Gx.done ?_
                  refine Gx.thenN ?_
                  refine Gx.seq ?_
                  have hsl : sg i j < l.length := by have := hsw.hi; omega
                  obtain ⟨x, hx⟩ := get_of_lt (xs := ps2) (k := j) (by omega)
                  obtain ⟨y, hy⟩ := get_of_lt (xs := ps75) (k := sg i j) (by omega)
                  have hxy : y.xs = x.xs := by
                    have h7 := hrows
                    rw [← hps2, ← hps75, List.getElem?_map, List.getElem?_map, hx, hy] at h7
                    exact Option.some.inj h7
                  refine Gx.regionQ Try.mixed (by kernel_rfl) ?_
                  refine Gq.val rfl rfl rfl (val_move rfl rfl) ?_
                  refine Gq.val rfl rfl rfl (val_move rfl rfl) ?_
                  refine Gq.val rfl rfl rfl (val_ixa rfl Try.underlying26 Try.ty32 rfl rfl (j := j) (rfl) (reach_base hs80 hx)) ?_
                  refine Gq.val rfl rfl rfl (val_load rfl Try.ty32 rfl rfl (cell_base (i := 0) hs80 hx rfl)) ?_
                  have hr95 := hr1 _ (List.mem_of_getElem? hx)
                  refine Gq.val rfl rfl rfl (val_move rfl rfl) ?_
                  refine Gq.val rfl rfl rfl (val_move rfl rfl) ?_
                  refine Gq.val rfl rfl rfl (val_ixa rfl Try.underlying26 Try.ty32 rfl rfl (j := sg i j) (rfl) (reach_base hvps75 hy)) ?_
                  refine Gq.val rfl rfl rfl (val_load rfl Try.ty32 rfl rfl (cell_base (i := 0) (sz := 1) (j := sg i j) hvps75 hy rfl)) ?_
                  have hr96 := hrps75 _ (List.mem_of_getElem? hy)
                  refine Gq.val rfl rfl rfl (val_call (vs := [.slice x.a x.xs.length x.c, .slice y.a y.xs.length y.c]) rfl Try.fn12 rfl (fun w H => ints_same (hr95.below H.below) (hxy ▸ hr96.below H.below))) ?_
                  refine Gq.val rfl rfl rfl (Val.cast (val_not rfl rfl) (v' := .bool false) rfl) ?_
                  refine Gq.done ?_
                  refine Gx.thenN ?_
                  refine Gx.f rfl ?_
                  refine Gx.skip ?_
                  refine Gx.blkN ?_
                  refine Gx.thenN ?_
                  refine Gx.region ?_
                  refine Gx.val rfl rfl rfl (val_move rfl rfl) ?_
                  refine Gx.val rfl rfl rfl (val_add rfl rfl rfl (r := ((j + 1 : Nat) : Int)) (w64 (by omega) (by omega))) ?_
                  refine Gx.val rfl rfl rfl (val_assign rfl rfl) ?_
                  refine Gx.done ?_
                  refine Gx.thenN ?_
                  exact Gx.round (j + 1) (by first | omega | (dsimp only; omega)) (by first | omega | (dsimp only; omega)) ((.cons rfl (.cons rfl (.cons rfl (.cons rfl .nil))))) rfl
                · refine Gx.skip ?_
                  refine Gx.thenN ?_
                  refine Gx.seq ?_
                  have hsj : sg i j = j := by omega
                  refine Gx.slot (t := 17) (v := .int .i64 ((sg i j : Nat) : Int)) (by rw [hsj] <;> rfl) ?_
                  have hsl : sg i j < l.length := by have := hsw.hi; omega
                  obtain ⟨x, hx⟩ := get_of_lt (xs := ps2) (k := j) (by omega)
                  obtain ⟨y, hy⟩ := get_of_lt (xs := ps75) (k := sg i j) (by omega)
                  have hxy : y.xs = x.xs := by
                    have h7 := hrows
                    rw [← hps2, ← hps75, List.getElem?_map, List.getElem?_map, hx, hy] at h7
                    exact Option.some.inj h7
                  refine Gx.regionQ Try.mixed (by kernel_rfl) ?_
                  refine Gq.val rfl rfl rfl (val_move rfl rfl) ?_
                  refine Gq.val rfl rfl rfl (val_move rfl rfl) ?_
                  refine Gq.val rfl rfl rfl (val_ixa rfl Try.underlying26 Try.ty32 rfl rfl (j := j) (rfl) (reach_base hs80 hx)) ?_
                  refine Gq.val rfl rfl rfl (val_load rfl Try.ty32 rfl rfl (cell_base (i := 0) hs80 hx rfl)) ?_
                  have hr97 := hr1 _ (List.mem_of_getElem? hx)
                  refine Gq.val rfl rfl rfl (val_move rfl rfl) ?_
                  refine Gq.val rfl rfl rfl (val_move rfl rfl) ?_
                  refine Gq.val rfl rfl rfl (val_ixa rfl Try.underlying26 Try.ty32 rfl rfl (j := sg i j) (rfl) (reach_base hvps75 hy)) ?_
                  refine Gq.val rfl rfl rfl (val_load rfl Try.ty32 rfl rfl (cell_base (i := 0) (sz := 1) (j := sg i j) hvps75 hy rfl)) ?_
                  have hr98 := hrps75 _ (List.mem_of_getElem? hy)
                  refine Gq.val rfl rfl rfl (val_call (vs := [.slice x.a x.xs.length x.c, .slice y.a y.xs.length y.c]) rfl Try.fn12 rfl (fun w H => ints_same (hr97.below H.below) (hxy ▸ hr98.below H.below))) ?_
                  refine Gq.val rfl rfl rfl (Val.cast (val_not rfl rfl) (v' := .bool false) rfl) ?_
                  refine Gq.done ?_
                  refine Gx.thenN ?_
                  refine Gx.f rfl ?_
                  refine Gx.skip ?_
                  refine Gx.blkN ?_
                  refine Gx.thenN ?_
                  refine Gx.region ?_
                  refine Gx.val rfl rfl rfl (val_move rfl rfl) ?_
                  refine Gx.val rfl rfl rfl (val_add rfl rfl rfl (r := ((j + 1 : Nat) : Int)) (w64 (by omega) (by omega))) ?_
                  refine Gx.val rfl rfl rfl (val_assign rfl rfl) ?_
                  refine Gx.done ?_
                  refine Gx.thenN ?_
                  exact Gx.round (j + 1) (by first | omega | (dsimp only; omega)) (by first | omega | (dsimp only; omega)) ((.cons rfl (.cons rfl (.cons rfl (.cons rfl .nil))))) rfl
            · refine Gx.exit ?_
              refine Gx.thenE ?_
              refine Gx.thenE ?_
              refine Gx.blkE ?_
              refine Gx.thenN ?_
              refine Gx.seq ?_
              refine Gx.region ?_
              refine Gx.val rfl rfl rfl (val_assign rfl rfl) ?_
              refine Gx.done ?_
              refine Gx.thenN ?_
              refine Gx.ret ?_
              refine Gx.ret1B hW78 Try.results3 rfl ?_
              rfl

theorem swap_any {W : World} {v : Value} {l : List Ev} (n k : Int) (h0 : 0 ≤ k) (h1 : k ≤ 255) (hs : SlS FE 3 W v l) : Calls Try.prog 3 #[.int .i64 n, v, .int .u8 k] W fun e w' => e = .returned (.bool true) ∧ Below W.heap.size W w' := by
  obtain ⟨k, rfl⟩ : ∃ q : Nat, k = (q : Int) := ⟨k.toNat, by omega⟩
  by_cases hok : OkE n l
  · obtain ⟨n, rfl⟩ : ∃ q : Nat, n = (q : Int) := ⟨n.toNat, by have := hok.low; omega⟩
    exact swap_ok n k hs (by omega) hok
  · exact swap_bad n k hs hok
end Go.Proofs.Ytehcefknofcmiaa
