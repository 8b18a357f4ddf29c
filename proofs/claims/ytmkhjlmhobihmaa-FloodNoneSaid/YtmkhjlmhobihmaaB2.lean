/- One round more, one crash less. The walk. No condition. -/
import Derived.Test.YtmkhjlmhobihmaaB1
namespace Go.Proofs.Ytmkhjlmhobihmaa
open Go.RowKit
set_option linter.unusedVariables false
set_option linter.unusedSimpArgs false
set_option maxRecDepth 100000

theorem more_no1 {W : World} {vs va : Value} {vals : List Int} {cs : List Cr} (hv : SlS FI 1 W vs vals) (ha : SlS FC 3 W va cs) (hto : ∀ c ∈ cs, c.to_ < 4294967296) {r : Int} (hbad : vals.length = 0 ∨ 6 < vals.length ∨ r < 0 ∨ 6 < r ∨ 6 < cs.length) :
    Calls Try.prog 4 #[vs, .int .i64 r, va] W fun e w' => e = .returned (.bool true) ∧ Below W.heap.size W w' := by
  have m1 := sls_bd ha
  have m2 := sls_bd hv
  refine calls_pure (Gx.enter (l := []) Try.func4 rfl Try.ntmps4 rfl (Sat.start W) ?_)
  refine Gx.know (m' := [(0, vs), (1, .int .i64 r), (2, va)]) (.cons rfl (.cons rfl (.cons rfl .nil))) ?_
  refine Gx.seq ?_
  refine Gx.region ?_
  refine Gx.val rfl rfl rfl (val_assign rfl rfl) ?_
  refine Gx.done ?_
  refine Gx.thenN ?_
  refine Gx.seq ?_
  refine Gx.region ?_
  refine Gx.val rfl rfl rfl (val_move rfl rfl) ?_
  refine Gx.val rfl rfl rfl (val_move rfl rfl) ?_
  refine Gx.val rfl rfl rfl (val_move rfl rfl) ?_
  refine Gx.val rfl rfl rfl (val_call (vs := [vs, .int .i64 r, va]) rfl Try.fn6 rfl (fun w H => play_no1 (hv.below H.below) (ha.below H.below) hbad)) ?_
  refine Gx.val rfl rfl rfl (val_move rfl rfl) ?_
  refine Gx.val rfl rfl rfl (val_extract rfl rfl rfl) ?_
  refine Gx.val rfl rfl rfl (val_extract rfl rfl rfl) ?_
  refine Gx.val rfl rfl rfl (val_assign rfl rfl) ?_
  refine Gx.val rfl rfl rfl (val_assign rfl rfl) ?_
  refine Gx.done ?_
  refine Gx.thenN ?_
  refine Gx.seq ?_
  refine Gx.seq ?_
  refine Gx.region ?_
  refine Gx.val rfl rfl rfl (val_move rfl rfl) ?_
  refine Gx.val rfl rfl rfl (val_move rfl rfl) ?_
  refine Gx.val rfl rfl rfl (val_move rfl rfl) ?_
  refine Gx.val rfl rfl rfl (val_call (vs := [vs, .int .i64 r, va]) rfl Try.fn7 rfl (fun w H => check_no (hv.below H.below) (ha.below H.below) hto hbad)) ?_
  refine Gx.val rfl rfl rfl (Val.cast (val_neq rfl rfl rfl) (v' := .bool true) rfl) ?_
  refine Gx.val rfl rfl rfl (val_move rfl rfl) ?_
  refine Gx.skipg rfl rfl rfl rfl rfl rfl ?_
  refine Gx.skipg rfl rfl rfl rfl rfl rfl ?_
  refine Gx.val rfl rfl rfl (val_pickT rfl rfl rfl) ?_
  refine Gx.done ?_
  refine Gx.thenN ?_
  refine Gx.t rfl ?_
  refine Gx.seq ?_
  refine Gx.region ?_
  refine Gx.val rfl rfl rfl (val_move rfl rfl) ?_
  refine Gx.val rfl rfl rfl (Val.cast (val_neq rfl rfl rfl) (v' := .bool true) rfl) ?_
  refine Gx.val rfl rfl rfl (val_move rfl rfl) ?_
  refine Gx.skipg rfl rfl rfl rfl rfl rfl ?_
  refine Gx.skipg rfl rfl rfl rfl rfl rfl ?_
  refine Gx.val rfl rfl rfl (val_pickT rfl rfl rfl) ?_
  refine Gx.val rfl rfl rfl (val_assign rfl rfl) ?_
  refine Gx.done ?_
  refine Gx.thenN ?_
  refine Gx.ret ?_
  refine Gx.thenR ?_
  refine Gx.ret1 Try.results4 rfl ?_
  first | rfl | (exact congrArg Value.bool (decide_eq_true (by decide)))

theorem more_no2 {W : World} {vs va : Value} {vals : List Int} {cs : List Cr} (hv : SlS FI 1 W vs vals) (ha : SlS FC 3 W va cs) (hto : ∀ c ∈ cs, c.to_ < 4294967296) {R : Nat} (hn1 : 1 ≤ vals.length) (hn6 : vals.length ≤ 6) (hr6 : R ≤ 6) (hc6 : cs.length ≤ 6) (hbad : wrC vals.length cs [] ≠ 0) :
    Calls Try.prog 4 #[vs, .int .i64 ((R : Nat) : Int), va] W fun e w' => e = .returned (.bool true) ∧ Below W.heap.size W w' := by
  have m1 := sls_bd ha
  have m2 := sls_bd hv
  refine calls_pure (Gx.enter (l := []) Try.func4 rfl Try.ntmps4 rfl (Sat.start W) ?_)
  refine Gx.know (m' := [(0, vs), (1, .int .i64 ((R : Nat) : Int)), (2, va)]) (.cons rfl (.cons rfl (.cons rfl .nil))) ?_
  refine Gx.seq ?_
  refine Gx.region ?_
  refine Gx.val rfl rfl rfl (val_assign rfl rfl) ?_
  refine Gx.done ?_
  refine Gx.thenN ?_
  refine Gx.seq ?_
  refine Gx.region ?_
  refine Gx.val rfl rfl rfl (val_move rfl rfl) ?_
  refine Gx.val rfl rfl rfl (val_move rfl rfl) ?_
  refine Gx.val rfl rfl rfl (val_move rfl rfl) ?_
  refine Gx.val rfl rfl rfl (val_call (vs := [vs, .int .i64 ((R : Nat) : Int), va]) rfl Try.fn6 rfl (fun w H => play_no2 (hv.below H.below) (ha.below H.below) hto hn1 hn6 hr6 hc6 hbad)) ?_
  refine Gx.val rfl rfl rfl (val_move rfl rfl) ?_
  refine Gx.val rfl rfl rfl (val_extract rfl rfl rfl) ?_
  refine Gx.val rfl rfl rfl (val_extract rfl rfl rfl) ?_
  refine Gx.val rfl rfl rfl (val_assign rfl rfl) ?_
  refine Gx.val rfl rfl rfl (val_assign rfl rfl) ?_
  refine Gx.done ?_
  refine Gx.thenN ?_
  refine Gx.seq ?_
  refine Gx.seq ?_
  refine Gx.region ?_
  refine Gx.val rfl rfl rfl (val_move rfl rfl) ?_
  refine Gx.val rfl rfl rfl (val_move rfl rfl) ?_
  refine Gx.val rfl rfl rfl (val_move rfl rfl) ?_
  refine Gx.val rfl rfl rfl (val_call (vs := [vs, .int .i64 ((R : Nat) : Int), va]) rfl Try.fn7 rfl (fun w H => check_ok (hv.below H.below) (ha.below H.below) hto hn1 hn6 (by omega) (by omega) hc6)) ?_
  refine Gx.val rfl rfl rfl (val_neq rfl rfl rfl) ?_
  refine Gx.val rfl rfl rfl (val_move rfl rfl) ?_
  refine Gx.slot (t := 24) (v := .bool true) (look_decT rfl (hbad)) ?_
  refine Gx.skipg rfl rfl rfl rfl rfl rfl ?_
  refine Gx.skipg rfl rfl rfl rfl rfl rfl ?_
  refine Gx.val rfl rfl rfl (val_pickT rfl rfl rfl) ?_
  refine Gx.done ?_
  refine Gx.thenN ?_
  refine Gx.t rfl ?_
  refine Gx.seq ?_
  refine Gx.region ?_
  refine Gx.val rfl rfl rfl (val_move rfl rfl) ?_
  refine Gx.val rfl rfl rfl (val_neq rfl rfl rfl) ?_
  refine Gx.val rfl rfl rfl (val_move rfl rfl) ?_
  refine Gx.slot (t := 30) (v := .bool true) (look_decT rfl (hbad)) ?_
  refine Gx.skipg rfl rfl rfl rfl rfl rfl ?_
  refine Gx.skipg rfl rfl rfl rfl rfl rfl ?_
  refine Gx.val rfl rfl rfl (val_pickT rfl rfl rfl) ?_
  refine Gx.val rfl rfl rfl (val_assign rfl rfl) ?_
  refine Gx.done ?_
  refine Gx.thenN ?_
  refine Gx.ret ?_
  refine Gx.thenR ?_
  refine Gx.ret1 Try.results4 rfl ?_
  first | rfl | (exact congrArg Value.bool (decide_eq_true hbad))

theorem wr_drop {n : Nat} {cs : List Cr} (h : wrC n cs [] = 0) (h0 : 0 < cs.length) : wrC n (cs.drop 1) [] = 0 := by
  cases cs with
  | nil => simp at h0
  | cons c l => exact (wr_tail h).1
theorem more_tail {n : Nat} {cs : List Cr} {vs : List Int} {r k : Nat} {x y : Int} (h : wrC n cs [] = 0) (h0 : 0 < cs.length) (hx : (lstF (cs.drop 1) vs r)[k]? = some x) (hy : (lstF cs vs r)[k]? = some y) : x ≤ y := by
  cases cs with
  | nil => simp at h0
  | cons c l => exact more_less (wr_tail h).2 hx hy
theorem more_yes {W : World} {vs va : Value} {vals : List Int} {cs : List Cr} (hv : SlS FI 1 W vs vals) (ha : SlS FC 3 W va cs) (hto : ∀ c ∈ cs, c.to_ < 4294967296) {R : Nat} (hn1 : 1 ≤ vals.length) (hn6 : vals.length ≤ 6) (hr6 : R ≤ 6) (hc6 : cs.length ≤ 6) (hin : ∀ x ∈ vals, In x) (hok : wrC vals.length cs [] = 0) :
    Calls Try.prog 4 #[vs, .int .i64 ((R : Nat) : Int), va] W fun e w' => e = .returned (.bool true) ∧ Below W.heap.size W w' := by
  have m1 := sls_bd ha
  have m2 := sls_bd hv
  refine calls_pure (Gx.enter (l := []) Try.func4 rfl Try.ntmps4 rfl (Sat.start W) ?_)
  refine Gx.know (m' := [(0, vs), (1, .int .i64 ((R : Nat) : Int)), (2, va)]) (.cons rfl (.cons rfl (.cons rfl .nil))) ?_
  refine Gx.seq ?_
  refine Gx.region ?_
  refine Gx.val rfl rfl rfl (val_assign rfl rfl) ?_
  refine Gx.done ?_
  refine Gx.thenN ?_
  refine Gx.seq ?_
  refine Gx.region ?_
  refine Gx.val rfl rfl rfl (val_move rfl rfl) ?_
  refine Gx.val rfl rfl rfl (val_move rfl rfl) ?_
  refine Gx.val rfl rfl rfl (val_move rfl rfl) ?_
  refine Gx.callB rfl rfl rfl (vs := [vs, .int .i64 ((R : Nat) : Int), va]) rfl Try.fn6 rfl (R := fun v w' => ∃ lv, v = .tuple #[lv, .int .i64 0] ∧ SlS FI 1 w' lv (lstF cs vals R)) (fun w H => play_ok (hv.below H.below) (ha.below H.below) (hto) (hn1) (hn6) (hr6) (hc6) (hin) (hok)) ?_
  rintro _ W2 ⟨lv1, rfl, hlv1⟩ H3
  have hW4 := H3.below
  have hs5 := hv.below H3.below
  have hs6 := ha.below H3.below
  have hlllv1 : (lstF cs vals R).length = (vals).length := lst_len ..
  refine Gx.val rfl rfl rfl (val_move rfl rfl) ?_
  refine Gx.val rfl rfl rfl (val_extract rfl rfl rfl) ?_
  obtain ⟨sa7, sn8, sc9, rfl⟩ := hlv1.isS
  refine Gx.val rfl rfl rfl (val_extract rfl rfl rfl) ?_
  refine Gx.val rfl rfl rfl (val_assign rfl rfl) ?_
  refine Gx.val rfl rfl rfl (val_assign rfl rfl) ?_
  refine Gx.done ?_
  refine Gx.thenN ?_
  refine Gx.seq ?_
  refine Gx.seq ?_
  refine Gx.region ?_
  refine Gx.val rfl rfl rfl (val_move rfl rfl) ?_
  refine Gx.val rfl rfl rfl (val_move rfl rfl) ?_
  refine Gx.val rfl rfl rfl (val_move rfl rfl) ?_
  refine Gx.val rfl rfl rfl (val_call (vs := [vs, .int .i64 ((R : Nat) : Int), va]) rfl Try.fn7 rfl (fun w H => check_ok (hs5.below H.below) (hs6.below H.below) hto hn1 hn6 (by omega) (by omega) hc6)) ?_
  refine Gx.val rfl rfl rfl (val_neq rfl rfl rfl) ?_
  refine Gx.val rfl rfl rfl (val_move rfl rfl) ?_
  refine Gx.slot (t := 24) (v := .bool false) (look_decF rfl (fun q => q hok)) ?_
  refine Gx.valg rfl rfl rfl rfl rfl (val_move rfl rfl) ?_
  refine Gx.valg rfl rfl rfl rfl rfl (val_eql rfl rfl rfl) ?_
  refine Gx.val rfl rfl rfl (val_pickF rfl rfl rfl) ?_
  refine Gx.done ?_
  refine Gx.thenN ?_
  refine Gx.dec rfl (fun h10 => ?_) (fun h10 => ?_)
  · refine Gx.seq ?_
    refine Gx.region ?_
    refine Gx.val rfl rfl rfl (val_move rfl rfl) ?_
    refine Gx.val rfl rfl rfl (Val.cast (val_neq rfl rfl rfl) (v' := .bool false) rfl) ?_
    refine Gx.val rfl rfl rfl (val_move rfl rfl) ?_
    refine Gx.valg rfl rfl rfl rfl rfl (val_move rfl rfl) ?_
    refine Gx.valg rfl rfl rfl rfl rfl (val_eql rfl rfl rfl) ?_
    refine Gx.val rfl rfl rfl (val_pickF rfl rfl rfl) ?_
    refine Gx.val rfl rfl rfl (val_assign rfl rfl) ?_
    refine Gx.done ?_
    refine Gx.thenN ?_
    refine Gx.ret ?_
    refine Gx.thenR ?_
    refine Gx.ret1B hW4 Try.results4 rfl ?_
    first | rfl | (exact congrArg Value.bool (decide_eq_true (by omega)))
  · refine Gx.skip ?_
    refine Gx.thenN ?_
    refine Gx.seq ?_
    refine Gx.region ?_
    refine Gx.val rfl rfl rfl (val_move rfl rfl) ?_
    refine Gx.val rfl rfl rfl (val_move rfl rfl) ?_
    refine Gx.val rfl rfl rfl (val_add rfl rfl rfl (r := ((R + 1 : Nat) : Int)) (w64 (by omega) (by omega))) ?_
    refine Gx.val rfl rfl rfl (val_move rfl rfl) ?_
    refine Gx.callB rfl rfl rfl (vs := [vs, .int .i64 ((R + 1 : Nat) : Int), va]) rfl Try.fn6 rfl (R := fun v w' => ∃ lv, v = .tuple #[lv, .int .i64 0] ∧ SlS FI 1 w' lv (lstF cs vals (R + 1))) (fun w H => play_ok (hs5.below H.below) (hs6.below H.below) (hto) (hn1) (hn6) (by omega) (hc6) (hin) (hok)) ?_
    rintro _ W12 ⟨lv11, rfl, hlv11⟩ H13
    have hW14 := hW4.trans (H13.below.mono hW4.size)
    have hs15 := hs5.below H13.below
    have hs16 := hs6.below H13.below
    have hs17 := hlv1.below H13.below
    have hlllv11 : (lstF cs vals (R + 1)).length = (vals).length := lst_len ..
    refine Gx.val rfl rfl rfl (val_move rfl rfl) ?_
    refine Gx.val rfl rfl rfl (val_extract rfl rfl rfl) ?_
    obtain ⟨sa18, sn19, sc20, rfl⟩ := hlv11.isS
    refine Gx.val rfl rfl rfl (val_extract rfl rfl rfl) ?_
    refine Gx.val rfl rfl rfl (val_assign rfl rfl) ?_
    refine Gx.val rfl rfl rfl (val_assign rfl rfl) ?_
    refine Gx.done ?_
    refine Gx.thenN ?_
    refine Gx.seq ?_
    refine Gx.seq ?_
    refine Gx.region ?_
    refine Gx.val rfl rfl rfl (val_move rfl rfl) ?_
    refine Gx.val rfl rfl rfl (Val.cast (val_neq rfl rfl rfl) (v' := .bool false) rfl) ?_
    refine Gx.val rfl rfl rfl (val_move rfl rfl) ?_
    refine Gx.valg rfl rfl rfl rfl rfl (val_move rfl rfl) ?_
    refine Gx.valg rfl rfl rfl rfl rfl (Val.cast (val_neq rfl rfl rfl) (v' := .bool false) rfl) ?_
    refine Gx.val rfl rfl rfl (val_pickF rfl rfl rfl) ?_
    refine Gx.val rfl rfl rfl (val_move rfl rfl) ?_
    refine Gx.valg rfl rfl rfl rfl rfl (val_move rfl rfl) ?_
    refine Gx.valg rfl rfl rfl rfl rfl (val_len rfl Try.underlying22 rfl (len_base hs17)) ?_
    refine Gx.valg rfl rfl rfl rfl rfl (val_move rfl rfl) ?_
    refine Gx.valg rfl rfl rfl rfl rfl (val_len rfl Try.underlying22 rfl (len_base hs15)) ?_
    refine Gx.valg rfl rfl rfl rfl rfl (val_neq rfl rfl rfl) ?_
    refine Gx.val rfl rfl rfl (val_pickF rfl rfl rfl) ?_
    refine Gx.val rfl rfl rfl (val_move rfl rfl) ?_
    refine Gx.slot (t := 55) (v := .bool false) (look_decF rfl (by omega)) ?_
    refine Gx.valg rfl rfl rfl rfl rfl (val_move rfl rfl) ?_
    refine Gx.valg rfl rfl rfl rfl rfl (val_move rfl rfl) ?_
    refine Gx.valg rfl rfl rfl rfl rfl (val_call (vs := [.slice sa18 sn19 sc20, .slice sa7 sn8 sc9]) rfl Try.fn9 rfl (fun w H => leq_yes (hlv11.below H.below) (hs17.below H.below) (by omega) (fun k x y hx hy => more_up hx hy))) ?_
    refine Gx.valg rfl rfl rfl rfl rfl (Val.cast (val_not rfl rfl) (v' := .bool false) rfl) ?_
    refine Gx.val rfl rfl rfl (val_pickF rfl rfl rfl) ?_
    refine Gx.done ?_
    refine Gx.thenN ?_
    refine Gx.f rfl ?_
    refine Gx.skip ?_
    refine Gx.thenN ?_
    refine Gx.seq ?_
    refine Gx.seq ?_
    refine Gx.region ?_
    refine Gx.val rfl rfl rfl (val_move rfl rfl) ?_
    refine Gx.val rfl rfl rfl (val_len rfl Try.underlying23 rfl (len_base hs16)) ?_
    refine Gx.val rfl rfl rfl (val_eql rfl rfl rfl) ?_
    refine Gx.done ?_
    refine Gx.thenN ?_
    refine Gx.dec rfl (fun h21 => ?_) (fun h21 => ?_)
    · refine Gx.seq ?_
      refine Gx.region ?_
      refine Gx.val rfl rfl rfl (val_assign rfl rfl) ?_
      refine Gx.done ?_
      refine Gx.thenN ?_
      refine Gx.ret ?_
      refine Gx.thenR ?_
      refine Gx.ret1B hW14 Try.results4 rfl ?_
      first | rfl | (exact congrArg Value.bool (decide_eq_true (by omega)))
    · refine Gx.skip ?_
      refine Gx.thenN ?_
      refine Gx.seq ?_
      have hcn : 0 < cs.length := by omega
      refine Gx.region ?_
      refine Gx.val rfl rfl rfl (val_move rfl rfl) ?_
      refine Gx.val rfl rfl rfl (val_move rfl rfl) ?_
      refine Gx.val rfl rfl rfl (val_move rfl rfl) ?_
      have hcut22 : SlS FC 3 W12 (sCut 3 1 cs.length va) (cs.drop 1) := by have q := (hs16).cut (lo := 1) (hi := cs.length) (by omega) (by omega); rwa [List.take_length] at q
      refine Gx.val rfl rfl rfl (val_cutFrom (lo := 1) rfl Try.underlying23 Try.ty30 rfl hs16 rfl (rfl) (by omega)) ?_
      refine Gx.callB rfl rfl rfl (vs := [vs, .int .i64 ((R : Nat) : Int), sCut 3 1 cs.length va]) rfl Try.fn6 rfl (R := fun v w' => ∃ lv, v = .tuple #[lv, .int .i64 0] ∧ SlS FI 1 w' lv (lstF (cs.drop 1) vals R)) (fun w H => play_ok (hs15.below H.below) (hcut22.below H.below) (fun c hc => hto c (List.mem_of_mem_drop hc)) (hn1) (hn6) (hr6) (by rw [List.length_drop]; omega) (hin) (wr_drop hok hcn)) ?_
      rintro _ W24 ⟨lv23, rfl, hlv23⟩ H25
      have hW26 := hW14.trans (H25.below.mono hW14.size)
      have hs27 := hs15.below H25.below
      have hs28 := hs16.below H25.below
      have hs29 := hs17.below H25.below
      have hs30 := hlv11.below H25.below
      have hs31 := hcut22.below H25.below
      have hlllv23 : (lstF (cs.drop 1) vals R).length = (vals).length := lst_len ..
      refine Gx.val rfl rfl rfl (val_move rfl rfl) ?_
      refine Gx.val rfl rfl rfl (val_extract rfl rfl rfl) ?_
      obtain ⟨sa32, sn33, sc34, rfl⟩ := hlv23.isS
      refine Gx.val rfl rfl rfl (val_extract rfl rfl rfl) ?_
      refine Gx.val rfl rfl rfl (val_assign rfl rfl) ?_
      refine Gx.val rfl rfl rfl (val_assign rfl rfl) ?_
      refine Gx.done ?_
      refine Gx.thenN ?_
      refine Gx.seq ?_
      refine Gx.region ?_
      refine Gx.val rfl rfl rfl (val_move rfl rfl) ?_
      refine Gx.val rfl rfl rfl (Val.cast (val_eql rfl rfl rfl) (v' := .bool true) rfl) ?_
      refine Gx.val rfl rfl rfl (val_move rfl rfl) ?_
      refine Gx.valg rfl rfl rfl rfl rfl (val_move rfl rfl) ?_
      refine Gx.valg rfl rfl rfl rfl rfl (val_move rfl rfl) ?_
      refine Gx.valg rfl rfl rfl rfl rfl (val_call (vs := [.slice sa32 sn33 sc34, .slice sa7 sn8 sc9]) rfl Try.fn9 rfl (fun w H => leq_yes (hlv23.below H.below) (hs29.below H.below) (by omega) (fun k x y hx hy => more_tail hok hcn hx hy))) ?_
      refine Gx.val rfl rfl rfl (val_pickT rfl rfl rfl) ?_
      refine Gx.val rfl rfl rfl (val_assign rfl rfl) ?_
      refine Gx.done ?_
      refine Gx.thenN ?_
      refine Gx.ret ?_
      refine Gx.ret1B hW26 Try.results4 rfl ?_
      first | rfl | (exact congrArg Value.bool (decide_eq_true (by omega)))

theorem more_any {W : World} {vs va : Value} {vals : List Int} {cs : List Cr} {r : Int} (hv : SlS FI 1 W vs vals) (hin : ∀ x ∈ vals, (Lit.int .i64 x).wf = true) (ha : SlS FC 3 W va cs) (hto : ∀ c ∈ cs, c.to_ < 4294967296) :
    Calls Try.prog 4 #[vs, .int .i64 r, va] W fun e w' => e = .returned (.bool true) ∧ Below W.heap.size W w' := by
  by_cases hbad : vals.length = 0 ∨ 6 < vals.length ∨ r < 0 ∨ 6 < r ∨ 6 < cs.length
  · exact more_no1 hv ha hto hbad
  obtain ⟨R, rfl⟩ : ∃ R : Nat, r = (R : Int) := ⟨r.toNat, by omega⟩
  by_cases hok : wrC vals.length cs [] = 0
  · exact more_yes hv ha hto (by omega) (by omega) (by omega) (by omega) hin hok
  · exact more_no2 hv ha hto (by omega) (by omega) (by omega) (by omega) hok
end Go.Proofs.Ytmkhjlmhobihmaa
