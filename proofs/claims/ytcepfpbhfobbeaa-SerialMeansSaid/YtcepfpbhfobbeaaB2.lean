/- Two neighbours that don't clash, in the other order. No condition. -/
import Derived.Test.YtcepfpbhfobbeaaB1
namespace Go.Proofs.Ytcepfpbhfobbeaa
open Go.RowKit
set_option linter.unusedVariables false
set_option linter.unusedSimpArgs false
set_option maxRecDepth 100000

theorem clash_symm (a b : An) : clashB a b = clashB b a := by
  rw [Bool.eq_iff_iff, clashB_iff, clashB_iff]; omega
def swp (l : List An) (i : Nat) (x y : An) : List An := (l.set i y).set (i + 1) x
section
variable {l : List An} {i : Nat} {x y : An}
theorem swp_get (hx : l[i]? = some x) (hy : l[i + 1]? = some y) (j : Nat) : (swp l i x y)[j]? = if j = i then some y else if j = i + 1 then some x else l[j]? := by
  have h1 := (List.getElem?_eq_some_iff.1 hy).1
  unfold swp
  by_cases e : j = i + 1
  · subst e
    rw [if_neg (by omega), if_pos rfl, List.getElem?_set_self (by rw [List.length_set]; exact h1)]
  · rw [List.getElem?_set_ne (fun q => e q.symm), if_neg e]
    by_cases e2 : j = i
    · subst e2; rw [if_pos rfl, List.getElem?_set_self (by omega)]
    · rw [if_neg e2, List.getElem?_set_ne (fun q => e2 q.symm)]
theorem swp_edge (hx : l[i]? = some x) (hy : l[i + 1]? = some y) (hc : clashB x y = false) {a b : Nat} (h : Edge l a b) : Edge (swp l i x y) a b := by
  obtain ⟨p, q, u, v, hpq, hu, hv, hcl, e1, e2⟩ := h
  have key : ∀ (r : Nat) (w : An), l[r]? = some w → (swp l i x y)[if r = i then i + 1 else if r = i + 1 then i else r]? = some w := fun r w hr => by
    rw [swp_get hx hy]
    by_cases er : r = i
    · subst er; rw [if_pos rfl, if_neg (by omega), if_pos rfl]; rw [hx] at hr; exact hr
    · rw [if_neg er]
      by_cases er2 : r = i + 1
      · subst er2; rw [if_pos rfl, if_pos rfl]; rw [hy] at hr; exact hr
      · rw [if_neg er2, if_neg er, if_neg er2]; exact hr
  refine ⟨_, _, u, v, ?_, key p u hu, key q v hv, hcl, e1, e2⟩
  by_cases c1 : p = i
  · subst c1
    rw [if_pos rfl]
    by_cases c2 : q = p + 1
    · subst c2
      cases hx.symm.trans hu; cases hy.symm.trans hv
      rw [hc] at hcl; cases hcl
    · rw [if_neg (by omega), if_neg c2]; omega
  · rw [if_neg c1]
    by_cases c3 : p = i + 1
    · rw [if_pos c3, if_neg (by omega), if_neg (by omega)]; omega
    · rw [if_neg c3]
      by_cases c4 : q = i
      · rw [if_pos c4]; omega
      · rw [if_neg c4]
        by_cases c5 : q = i + 1
        · rw [if_pos c5]; omega
        · rw [if_neg c5]; exact hpq
theorem swp_swp (hx : l[i]? = some x) (hy : l[i + 1]? = some y) : swp (swp l i x y) i y x = l := by
  have h1 : (swp l i x y)[i]? = some y := by rw [swp_get hx hy, if_pos rfl]
  have h2 : (swp l i x y)[i + 1]? = some x := by rw [swp_get hx hy, if_neg (by omega), if_pos rfl]
  refine List.ext_getElem? fun j => ?_
  rw [swp_get h1 h2, swp_get hx hy]
  by_cases e : j = i
  · subst e; rw [if_pos rfl, hx]
  · rw [if_neg e]
    by_cases e2 : j = i + 1
    · subst e2; rw [if_pos rfl, hy]
    · rw [if_neg e2, if_neg e, if_neg e2]
theorem swp_acyc (hx : l[i]? = some x) (hy : l[i + 1]? = some y) (hc : clashB x y = false) : Acyc (swp l i x y) ↔ Acyc l := by
  have h1 : (swp l i x y)[i]? = some y := by rw [swp_get hx hy, if_pos rfl]
  have h2 : (swp l i x y)[i + 1]? = some x := by rw [swp_get hx hy, if_neg (by omega), if_pos rfl]
  constructor
  · rintro ⟨r, h⟩; exact ⟨r, fun a b hab => h a b (swp_edge hx hy hc hab)⟩
  · rintro ⟨r, h⟩
    refine ⟨r, fun a b hab => h a b ?_⟩
    have := swp_edge h1 h2 (by rw [clash_symm]; exact hc) hab
    rwa [swp_swp hx hy] at this
theorem swp_ok (hok : OkN l) (hx : l[i]? = some x) (hy : l[i + 1]? = some y) : OkN (swp l i x y) := by
  refine ⟨by unfold swp; rw [List.length_set, List.length_set]; exact hok.len, fun j a ha => ?_⟩
  rw [swp_get hx hy] at ha
  split at ha
  · cases ha; exact hok.all _ _ hy
  · split at ha
    · cases ha; exact hok.all _ _ hx
    · exact hok.all _ _ ha
theorem few_acyc (h : l.length < 2) : Acyc l := ⟨fun _ => 0, fun a b ⟨j, i, x, y, h1, h2, h3, _⟩ => by
  have := (List.getElem?_eq_some_iff.1 h3).1
  omega⟩
end
theorem swap_no {W : World} {hv : Value} {l : List Act} {k : Nat} (hk : k < 256) (hok : ¬ OkA l) (hs : SlS FR 3 W hv l) :
    Calls Try.prog 4 #[hv, .int .u8 ((k : Nat) : Int)] W fun e w' => e = .returned (.bool true) ∧ Below W.heap.size W w' := by
  have m1 := sls_bd hs

  refine calls_pure (Gx.enter (l := []) Try.func4 rfl Try.ntmps4 rfl (Sat.start W) ?_)
  refine Gx.know (m' := [(0, hv), (1, .int .u8 ((k : Nat) : Int))]) (.cons rfl (.cons rfl .nil)) ?_
  refine Gx.seq ?_
  refine Gx.region ?_
  refine Gx.val rfl rfl rfl (val_assign rfl rfl) ?_
  refine Gx.done ?_
  refine Gx.thenN ?_
  refine Gx.seq ?_
  refine Gx.region ?_
  refine Gx.val rfl rfl rfl (val_move rfl rfl) ?_
  refine Gx.eff rfl rfl rfl (eff_callE (vs := [hv]) rfl Try.fn8 rfl (R := fun v => ∃ (c : Int), v = .tuple #[.slice none 0 0, .bool false, .int .i64 c] ∧ c ≠ 0) (fun w H => serial_no hok (hs.below H.below))) ?_
  rintro _ _ ⟨⟨c1, rfl, hc1⟩, rfl⟩
  refine Gx.val rfl rfl rfl (val_move rfl rfl) ?_
  refine Gx.val rfl rfl rfl (val_extract rfl rfl rfl) ?_
  refine Gx.val rfl rfl rfl (val_extract rfl rfl rfl) ?_
  refine Gx.val rfl rfl rfl (val_extract rfl rfl rfl) ?_
  refine Gx.val rfl rfl rfl (val_assign rfl rfl) ?_
  refine Gx.val rfl rfl rfl (val_assign rfl rfl) ?_
  refine Gx.val rfl rfl rfl (val_assign rfl rfl) ?_
  refine Gx.done ?_
  refine Gx.thenN ?_
  refine Gx.seq ?_
  refine Gx.seq ?_
  refine Gx.region ?_
  refine Gx.val rfl rfl rfl (val_move rfl rfl) ?_
  refine Gx.val rfl rfl rfl (val_call (vs := [hv]) rfl Try.fn9 rfl (fun w H => acts_no (hs.below H.below) hok)) ?_
  refine Gx.val rfl rfl rfl (Val.cast (val_not rfl rfl) (v' := .bool true) rfl) ?_
  refine Gx.done ?_
  refine Gx.thenN ?_
  refine Gx.t rfl ?_
  refine Gx.seq ?_
  refine Gx.region ?_
  refine Gx.val rfl rfl rfl (val_move rfl rfl) ?_
  refine Gx.val rfl rfl rfl (val_neq rfl rfl rfl) ?_
  refine Gx.val rfl rfl rfl (val_assign rfl rfl) ?_
  refine Gx.done ?_
  refine Gx.thenN ?_
  refine Gx.ret ?_
  refine Gx.thenR ?_
  refine Gx.ret1 Try.results4 rfl ?_
  exact congrArg Value.bool (decide_eq_true (by assumption))

theorem swap_ok {W : World} {hv : Value} {l : List An} {k : Nat} (hk : k < 256) (hok : OkN l) (hs : SlS FA 3 W hv l) :
    Calls Try.prog 4 #[hv, .int .u8 ((k : Nat) : Int)] W fun e w' => e = .returned (.bool true) ∧ Below W.heap.size W w' := by
  have m1 := sls_bd hs
  have m2 := hok.len
  refine calls_pure (Gx.enter (l := []) Try.func4 rfl Try.ntmps4 rfl (Sat.start W) ?_)
  refine Gx.know (m' := [(0, hv), (1, .int .u8 ((k : Nat) : Int))]) (.cons rfl (.cons rfl .nil)) ?_
  refine Gx.seq ?_
  refine Gx.region ?_
  refine Gx.val rfl rfl rfl (val_assign rfl rfl) ?_
  refine Gx.done ?_
  refine Gx.thenN ?_
  refine Gx.seq ?_
  refine Gx.region ?_
  refine Gx.val rfl rfl rfl (val_move rfl rfl) ?_
  refine Gx.eff rfl rfl rfl (eff_callE (vs := [hv]) rfl Try.fn8 rfl (R := SerB l) (fun w H => serial_b hok (hs.below H.below))) ?_
  rintro _ _ ⟨⟨a1, n1, c1, b1, rfl, hz1⟩, rfl⟩
  refine Gx.val rfl rfl rfl (val_move rfl rfl) ?_
  refine Gx.val rfl rfl rfl (val_extract rfl rfl rfl) ?_
  refine Gx.val rfl rfl rfl (val_extract rfl rfl rfl) ?_
  refine Gx.val rfl rfl rfl (val_extract rfl rfl rfl) ?_
  refine Gx.val rfl rfl rfl (val_assign rfl rfl) ?_
  refine Gx.val rfl rfl rfl (val_assign rfl rfl) ?_
  refine Gx.val rfl rfl rfl (val_assign rfl rfl) ?_
  refine Gx.done ?_
  refine Gx.thenN ?_
  refine Gx.seq ?_
  refine Gx.seq ?_
  refine Gx.region ?_
  refine Gx.val rfl rfl rfl (val_move rfl rfl) ?_
  refine Gx.val rfl rfl rfl (val_call (vs := [hv]) rfl Try.fn9 rfl (fun w H => acts_ok (hs.below H.below) hok)) ?_
  refine Gx.val rfl rfl rfl (Val.cast (val_not rfl rfl) (v' := .bool false) rfl) ?_
  refine Gx.done ?_
  refine Gx.thenN ?_
  refine Gx.f rfl ?_
  refine Gx.skip ?_
  refine Gx.thenN ?_
  refine Gx.seq ?_
  refine Gx.seq ?_
  refine Gx.region ?_
  refine Gx.val rfl rfl rfl (val_move rfl rfl) ?_
  refine Gx.val rfl rfl rfl (Val.cast (val_neq rfl rfl rfl) (v' := .bool false) rfl) ?_
  refine Gx.val rfl rfl rfl (val_move rfl rfl) ?_
  refine Gx.valg rfl rfl rfl rfl rfl (val_move rfl rfl) ?_
  refine Gx.valg rfl rfl rfl rfl rfl (val_len rfl Try.underlying22 rfl (len_base hs)) ?_
  refine Gx.valg rfl rfl rfl rfl rfl (val_lss rfl rfl rfl) ?_
  refine Gx.val rfl rfl rfl (val_pickF rfl rfl rfl) ?_
  refine Gx.done ?_
  refine Gx.thenN ?_
  refine Gx.dec rfl (fun h2 => ?_) (fun h2 => ?_)
  · refine Gx.seq ?_
    refine Gx.region ?_
    refine Gx.val rfl rfl rfl (val_move rfl rfl) ?_
    refine Gx.val rfl rfl rfl (Val.cast (val_eql rfl rfl rfl) (v' := .bool true) rfl) ?_
    refine Gx.val rfl rfl rfl (val_move rfl rfl) ?_
    refine Gx.valg rfl rfl rfl rfl rfl (val_move rfl rfl) ?_
    refine Gx.val rfl rfl rfl (val_pickT rfl rfl rfl) ?_
    refine Gx.val rfl rfl rfl (val_assign rfl rfl) ?_
    refine Gx.done ?_
    refine Gx.thenN ?_
    refine Gx.ret ?_
    refine Gx.thenR ?_
    refine Gx.ret1 Try.results4 rfl ?_
    exact congrArg Value.bool (hz1.2 (few_acyc (by omega)))
  · refine Gx.skip ?_
    refine Gx.thenN ?_
    refine Gx.seq ?_
    have hkm := Nat.mod_lt k (show 0 < l.length - 1 by omega)
    refine Gx.region ?_
    refine Gx.val rfl rfl rfl (val_move rfl rfl) ?_
    refine Gx.val rfl rfl rfl (val_conv rfl Try.underlying5 Try.underlying3 rfl (r := ((k : Nat) : Int)) (w64 rfl (by omega))) ?_
    refine Gx.val rfl rfl rfl (val_move rfl rfl) ?_
    refine Gx.val rfl rfl rfl (val_len rfl Try.underlying22 rfl (len_base hs)) ?_
    refine Gx.val rfl rfl rfl (val_sub rfl rfl rfl (r := ((l.length - 1 : Nat) : Int)) (w64 (by omega) (by omega))) ?_
    refine Gx.val rfl rfl rfl (val_rem rfl rfl rfl (r := ((k % (l.length - 1) : Nat) : Int)) (by omega) (rfl)) ?_
    refine Gx.val rfl rfl rfl (val_assign rfl rfl) ?_
    refine Gx.done ?_
    refine Gx.thenN ?_
    refine Gx.seq ?_
    refine Gx.seq ?_
    refine Gx.regionQ Try.mixed (by kernel_rfl) ?_
    refine Gq.val rfl rfl rfl (val_move rfl rfl) ?_
    refine Gq.val rfl rfl rfl (val_move rfl rfl) ?_
    obtain ⟨x3, hx3⟩ := get_of_lt (xs := l) (k := k % (l.length - 1)) (by first | omega | (rw [List.length_set]; omega) | (simp; omega))
    refine Gq.val rfl rfl rfl (val_ixa rfl Try.underlying22 Try.ty30 rfl rfl (j := k % (l.length - 1)) (rfl) (reach_base hs hx3)) ?_
    refine Gq.val rfl rfl rfl (Val.cast (val_fieldAddr rfl Try.underlying30 rfl Try.ty3 rfl rfl) (v' := ptr (sB hv) (sO hv + (k % (l.length - 1)) * 3 + 1)) rfl) ?_
    refine Gq.val rfl rfl rfl (val_load rfl Try.ty3 rfl rfl (cell_base (i := 1) hs hx3 rfl)) ?_
    refine Gq.val rfl rfl rfl (val_move rfl rfl) ?_
    refine Gq.val rfl rfl rfl (val_move rfl rfl) ?_
    refine Gq.val rfl rfl rfl (val_add rfl rfl rfl (r := ((k % (l.length - 1) + 1 : Nat) : Int)) (w64 (by omega) (by omega))) ?_
    obtain ⟨x4, hx4⟩ := get_of_lt (xs := l) (k := k % (l.length - 1) + 1) (by first | omega | (rw [List.length_set]; omega) | (simp; omega))
    refine Gq.val rfl rfl rfl (val_ixa rfl Try.underlying22 Try.ty30 rfl rfl (j := k % (l.length - 1) + 1) (rfl) (reach_base hs hx4)) ?_
    refine Gq.val rfl rfl rfl (Val.cast (val_fieldAddr rfl Try.underlying30 rfl Try.ty3 rfl rfl) (v' := ptr (sB hv) (sO hv + (k % (l.length - 1) + 1) * 3 + 1)) rfl) ?_
    refine Gq.val rfl rfl rfl (val_load rfl Try.ty3 rfl rfl (cell_base (i := 1) hs hx4 rfl)) ?_
    refine Gq.val rfl rfl rfl (val_eql rfl rfl rfl) ?_
    refine Gq.val rfl rfl rfl (val_move rfl rfl) ?_
    refine Gq.cases (t := 53) rfl (fun h5 => ?_) (fun h5 => ?_)
    · refine Gq.skipg rfl rfl rfl rfl rfl rfl ?_
      refine Gq.skipg rfl rfl rfl rfl rfl rfl ?_
      refine Gq.skipg rfl rfl rfl rfl rfl rfl ?_
      refine Gq.skipg rfl rfl rfl rfl rfl rfl ?_
      refine Gq.skipg rfl rfl rfl rfl rfl rfl ?_
      refine Gq.skipg rfl rfl rfl rfl rfl rfl ?_
      refine Gq.skipg rfl rfl rfl rfl rfl rfl ?_
      refine Gq.skipg rfl rfl rfl rfl rfl rfl ?_
      refine Gq.skipg rfl rfl rfl rfl rfl rfl ?_
      refine Gq.skipg rfl rfl rfl rfl rfl rfl ?_
      refine Gq.val rfl rfl rfl (val_pickT rfl rfl rfl) ?_
      refine Gq.done ?_
      refine Gx.thenN ?_
      refine Gx.t rfl ?_
      refine Gx.seq ?_
      refine Gx.region ?_
      refine Gx.val rfl rfl rfl (val_assign rfl rfl) ?_
      refine Gx.done ?_
      refine Gx.thenN ?_
      refine Gx.ret ?_
      refine Gx.thenR ?_
      refine Gx.ret1 Try.results4 rfl ?_
      rfl
    · refine Gq.valg rfl rfl rfl rfl rfl (val_move rfl rfl) ?_
      refine Gq.valg rfl rfl rfl rfl rfl (val_move rfl rfl) ?_
      refine Gq.valg rfl rfl rfl rfl rfl (val_ixa rfl Try.underlying22 Try.ty30 rfl rfl (j := k % (l.length - 1)) (rfl) (reach_base hs hx3)) ?_
      refine Gq.valg rfl rfl rfl rfl rfl (Val.cast (val_loadA rfl Try.ty30 rfl rfl rfl (cells_base hs hx3)) (v' := .agg #[.int .i64 x3.kind, .int .i64 ((x3.txn : Nat) : Int), .int .i64 ((x3.item : Nat) : Int)]) rfl) ?_
      refine Gq.valg rfl rfl rfl rfl rfl (val_move rfl rfl) ?_
      refine Gq.valg rfl rfl rfl rfl rfl (val_move rfl rfl) ?_
      refine Gq.valg rfl rfl rfl rfl rfl (val_add rfl rfl rfl (r := ((k % (l.length - 1) + 1 : Nat) : Int)) (w64 (by omega) (by omega))) ?_
      refine Gq.valg rfl rfl rfl rfl rfl (val_ixa rfl Try.underlying22 Try.ty30 rfl rfl (j := k % (l.length - 1) + 1) (rfl) (reach_base hs hx4)) ?_
      refine Gq.valg rfl rfl rfl rfl rfl (Val.cast (val_loadA rfl Try.ty30 rfl rfl rfl (cells_base hs hx4)) (v' := .agg #[.int .i64 x4.kind, .int .i64 ((x4.txn : Nat) : Int), .int .i64 ((x4.item : Nat) : Int)]) rfl) ?_
      refine Gq.valg rfl rfl rfl rfl rfl (val_call (vs := [.agg #[.int .i64 x3.kind, .int .i64 ((x3.txn : Nat) : Int), .int .i64 ((x3.item : Nat) : Int)], .agg #[.int .i64 x4.kind, .int .i64 ((x4.txn : Nat) : Int), .int .i64 ((x4.item : Nat) : Int)]]) rfl Try.fn11 rfl (fun w H => clash11 x3 x4 _ (by have := hok.all _ _ hx3; omega) (by have := hok.all _ _ hx4; omega))) ?_
      refine Gq.val rfl rfl rfl (val_pickF rfl rfl rfl) ?_
      refine Gq.done ?_
      refine Gx.thenN ?_
      refine Gx.bool rfl (fun h6 => ?_) (fun h6 => ?_)
      · refine Gx.seq ?_
        refine Gx.region ?_
        refine Gx.val rfl rfl rfl (val_assign rfl rfl) ?_
        refine Gx.done ?_
        refine Gx.thenN ?_
        refine Gx.ret ?_
        refine Gx.thenR ?_
        refine Gx.ret1 Try.results4 rfl ?_
        rfl
      · refine Gx.skip ?_
        refine Gx.thenN ?_
        refine Gx.seq ?_
        refine Gx.region ?_
        refine Gx.eff rfl rfl rfl (eff_buildNil (f := FA) (sz := 3) (e := 30) rfl Try.underlying22 (fun w => by first | (go_simp; done) | (go_simp; rfl))) ?_
        rintro v7 _ ⟨hiv7, rfl⟩
        refine Gx.val rfl rfl rfl (val_move rfl rfl) ?_
        refine Gx.eff rfl rfl rfl (eff_pushAll (k := 0) (ys := l) rfl Try.eA FA_len FA_one rfl rfl (fun w H => hs.below H.below) rfl (by simp; omega) (by simp; omega)) ?_
        rintro v8 _ ⟨hiv8, rfl⟩
        refine Gx.norm (l' := [Hp.own FA 3 v8 l]) rfl ?_
        refine Gx.val rfl rfl rfl (val_assign rfl rfl) ?_
        refine Gx.done ?_
        refine Gx.thenN ?_
        refine Gx.seq ?_
        refine Gx.region ?_
        refine Gx.val rfl rfl rfl (val_move rfl rfl) ?_
        refine Gx.val rfl rfl rfl (val_move rfl rfl) ?_
        refine Gx.val rfl rfl rfl (val_move rfl rfl) ?_
        refine Gx.val rfl rfl rfl (val_move rfl rfl) ?_
        refine Gx.val rfl rfl rfl (val_add rfl rfl rfl (r := ((k % (l.length - 1) + 1 : Nat) : Int)) (w64 (by omega) (by omega))) ?_
        refine Gx.val rfl rfl rfl (val_ixa rfl Try.underlying22 Try.ty30 rfl rfl (j := k % (l.length - 1) + 1) (rfl) (reach_base hs hx4)) ?_
        refine Gx.val rfl rfl rfl (Val.cast (val_loadA rfl Try.ty30 rfl rfl rfl (cells_base hs hx4)) (v' := .agg #[.int .i64 x4.kind, .int .i64 ((x4.txn : Nat) : Int), .int .i64 ((x4.item : Nat) : Int)]) rfl) ?_
        refine Gx.val rfl rfl rfl (val_ixa rfl Try.underlying22 Try.ty30 rfl rfl (j := k % (l.length - 1)) (rfl) (reach_own (k := 0) rfl hx3)) ?_
        refine Gx.eff0 rfl rfl (eff_storeElA x4 rfl Try.ty30 rfl rfl rfl FA_one (k := 0) rfl FA_len hx3 (l' := [Hp.own FA 3 v8 (l.set (k % (l.length - 1)) x4)]) rfl) ?_
        rintro _ _ rfl
        refine Gx.done ?_
        refine Gx.thenN ?_
        refine Gx.seq ?_
        refine Gx.region ?_
        refine Gx.val rfl rfl rfl (val_move rfl rfl) ?_
        refine Gx.val rfl rfl rfl (val_move rfl rfl) ?_
        refine Gx.val rfl rfl rfl (val_add rfl rfl rfl (r := ((k % (l.length - 1) + 1 : Nat) : Int)) (w64 (by omega) (by omega))) ?_
        refine Gx.val rfl rfl rfl (val_move rfl rfl) ?_
        refine Gx.val rfl rfl rfl (val_move rfl rfl) ?_
        refine Gx.val rfl rfl rfl (val_ixa rfl Try.underlying22 Try.ty30 rfl rfl (j := k % (l.length - 1)) (rfl) (reach_base hs hx3)) ?_
        refine Gx.val rfl rfl rfl (Val.cast (val_loadA rfl Try.ty30 rfl rfl rfl (cells_base hs hx3)) (v' := .agg #[.int .i64 x3.kind, .int .i64 ((x3.txn : Nat) : Int), .int .i64 ((x3.item : Nat) : Int)]) rfl) ?_
        obtain ⟨x9, hx9⟩ := get_of_lt (xs := l.set (k % (l.length - 1)) x4) (k := k % (l.length - 1) + 1) (by first | omega | (rw [List.length_set]; omega) | (simp; omega))
        refine Gx.val rfl rfl rfl (val_ixa rfl Try.underlying22 Try.ty30 rfl rfl (j := k % (l.length - 1) + 1) (rfl) (reach_own (k := 0) rfl hx9)) ?_
        refine Gx.eff0 rfl rfl (eff_storeElA x3 rfl Try.ty30 rfl rfl rfl FA_one (k := 0) rfl FA_len hx9 (l' := [Hp.own FA 3 v8 ((l.set (k % (l.length - 1)) x4).set (k % (l.length - 1) + 1) x3)]) rfl) ?_
        rintro _ _ rfl
        refine Gx.done ?_
        refine Gx.thenN ?_
        refine Gx.seq ?_
        refine Gx.norm (l' := [Hp.own FA 3 v8 (swp l (k % (l.length - 1)) x3 x4)]) rfl ?_
        refine Gx.region ?_
        refine Gx.val rfl rfl rfl (val_move rfl rfl) ?_
        refine Gx.eff rfl rfl rfl (eff_callE (vs := [v8]) rfl Try.fn8 rfl (R := SerB (swp l (k % (l.length - 1)) x3 x4)) (fun w H => serial_b (swp_ok hok hx3 hx4) ((H.at_ (k := 0) rfl).sls (by unfold swp; rw [List.length_set, List.length_set]; omega)))) ?_
        rintro _ _ ⟨⟨a8, n8, c8, b8, rfl, hz8⟩, rfl⟩
        refine Gx.val rfl rfl rfl (val_move rfl rfl) ?_
        refine Gx.val rfl rfl rfl (val_extract rfl rfl rfl) ?_
        refine Gx.val rfl rfl rfl (val_extract rfl rfl rfl) ?_
        refine Gx.val rfl rfl rfl (val_extract rfl rfl rfl) ?_
        refine Gx.val rfl rfl rfl (val_assign rfl rfl) ?_
        refine Gx.val rfl rfl rfl (val_assign rfl rfl) ?_
        refine Gx.val rfl rfl rfl (val_assign rfl rfl) ?_
        refine Gx.done ?_
        refine Gx.thenN ?_
        refine Gx.seq ?_
        refine Gx.region ?_
        refine Gx.val rfl rfl rfl (val_move rfl rfl) ?_
        refine Gx.val rfl rfl rfl (Val.cast (val_eql rfl rfl rfl) (v' := .bool true) rfl) ?_
        refine Gx.val rfl rfl rfl (val_move rfl rfl) ?_
        refine Gx.valg rfl rfl rfl rfl rfl (val_move rfl rfl) ?_
        refine Gx.valg rfl rfl rfl rfl rfl (val_move rfl rfl) ?_
        refine Gx.valg rfl rfl rfl rfl rfl (val_eqlB Try.underlying4 rfl rfl rfl) ?_
        refine Gx.val rfl rfl rfl (val_pickT rfl rfl rfl) ?_
        refine Gx.val rfl rfl rfl (val_assign rfl rfl) ?_
        refine Gx.done ?_
        refine Gx.thenN ?_
        refine Gx.ret ?_
        refine Gx.ret1 Try.results4 rfl ?_
        exact congrArg Value.bool (by have h9 : b1 = b8 := (by rw [Bool.eq_iff_iff, hz1, hz8, swp_acyc hx3 hx4 (by simp_all)]); rw [h9]; simp)

theorem swap_any {W : World} {hv : Value} {r : List Act} {k : Nat} (hk : k < 256) (hs : SlS FR 3 W hv r) : Calls Try.prog 4 #[hv, .int .u8 ((k : Nat) : Int)] W fun e w' => e = .returned (.bool true) ∧ Below W.heap.size W w' := by
  by_cases hok : OkA r
  · obtain ⟨l, rfl, hn⟩ := raw_of hok
    exact swap_ok hk hn (sls_raw.1 hs)
  · exact swap_no hk hok hs

theorem swapI_any {W : World} {hv : Value} {r : List Act} (k : Int) (h0 : 0 ≤ k) (hk : k < 256) (hs : SlS FR 3 W hv r) : Calls Try.prog 4 #[hv, .int .u8 k] W fun e w' => e = .returned (.bool true) ∧ Below W.heap.size W w' := by
  obtain ⟨j, rfl⟩ := Int.eq_ofNat_of_zero_le h0
  exact swap_any (by omega) hs
end Go.Proofs.Ytcepfpbhfobbeaa
