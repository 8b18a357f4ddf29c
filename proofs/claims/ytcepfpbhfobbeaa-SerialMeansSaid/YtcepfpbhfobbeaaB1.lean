/- By the rules of locks there is an order; and each order that keeps all. No condition. -/
import Derived.Test.YtcepfpbhfobbeaaA4
namespace Go.Proofs.Ytcepfpbhfobbeaa
open Go.RowKit
set_option linter.unusedVariables false
set_option linter.unusedSimpArgs false
set_option maxRecDepth 100000

def SerB (l : List An) (v : Value) : Prop := ∃ a n c b, v = .tuple #[.slice a n c, .bool b, .int .i64 0] ∧ (b = true ↔ Acyc l)
theorem serial_b {W : World} {hv : Value} {l : List An} (hok : OkN l) (hs : SlS FA 3 W hv l) : Calls Try.prog 8 #[hv] W fun e w' => ∃ v, e = .returned v ∧ SerB l v ∧ Below W.heap.size W w' :=
  (serial_ok hok hs).mono fun e w' ⟨v, he, ⟨a, n, c, b, zs, hv, _, h⟩, hb⟩ => ⟨v, he, ⟨a, n, c, b, hv, ser_acyc h⟩, hb⟩
theorem sls_nil {α : Type} {f : α → List Value} {sz : Nat} {w : World} : SlS f sz w (.slice none 0 0) ([] : List α) := ⟨none, 0, rfl, Nat.zero_le _, ⟨fun _ => rfl, Nat.le_refl _⟩, fun j x hx => by simp at hx⟩
theorem nil_ok : OkN [] := ⟨Nat.zero_le _, fun i a h => by simp at h⟩
theorem locks_no {W : World} {hv : Value} {l : List Act} (hok : ¬ OkA l) (hs : SlS FR 3 W hv l) :
    Calls Try.prog 6 #[hv] W fun e w' => e = .returned (.bool true) ∧ Below W.heap.size W w' := by
  refine calls_pure (Gx.enter (l := []) Try.func6 rfl Try.ntmps6 rfl (Sat.start W) ?_)
  refine Gx.know (m' := [(0, hv)]) (.cons rfl .nil) ?_
  refine Gx.seq ?_
  refine Gx.region ?_
  refine Gx.val rfl rfl rfl (val_assign rfl rfl) ?_
  refine Gx.done ?_
  refine Gx.thenN ?_
  refine Gx.seq ?_
  refine Gx.region ?_
  refine Gx.val rfl rfl rfl (val_move rfl rfl) ?_
  refine Gx.eff rfl rfl rfl (eff_callE (vs := [hv]) rfl Try.fn8 rfl (R := fun v => ∃ (c : Int), v = .tuple #[.slice none 0 0, .bool false, .int .i64 c] ∧ c ≠ 0) (fun w H => serial_no hok (hs.below H.below))) ?_
  rintro _ _ ⟨⟨c1, rfl, hc1⟩, rfl⟩
  refine Gx.val rfl rfl rfl (val_move rfl rfl) ?_
  refine Gx.val rfl rfl rfl (val_extract rfl rfl rfl) ?_
  refine Gx.val rfl rfl rfl (val_extract rfl rfl rfl) ?_
  refine Gx.val rfl rfl rfl (val_extract rfl rfl rfl) ?_
  refine Gx.val rfl rfl rfl (val_assign rfl rfl) ?_
  refine Gx.val rfl rfl rfl (val_assign rfl rfl) ?_
  refine Gx.val rfl rfl rfl (val_assign rfl rfl) ?_
  refine Gx.done ?_
  refine Gx.thenN ?_
  refine Gx.seq ?_
  refine Gx.region ?_
  refine Gx.val rfl rfl rfl (val_move rfl rfl) ?_
  refine Gx.eff rfl rfl rfl (eff_callE (vs := [hv]) rfl Try.fn14 rfl (R := fun v => ∃ (b : Bool) (c : Int), v = .tuple #[.bool b, .int .i64 c] ∧ c ≠ 0) (fun w H => locked_no hok (hs.below H.below))) ?_
  rintro _ _ ⟨⟨b2, c3, rfl, hc3⟩, rfl⟩
  refine Gx.val rfl rfl rfl (val_move rfl rfl) ?_
  refine Gx.val rfl rfl rfl (val_extract rfl rfl rfl) ?_
  refine Gx.val rfl rfl rfl (val_extract rfl rfl rfl) ?_
  refine Gx.val rfl rfl rfl (val_assign rfl rfl) ?_
  refine Gx.val rfl rfl rfl (val_assign rfl rfl) ?_
  refine Gx.done ?_
  refine Gx.thenN ?_
  refine Gx.seq ?_
  refine Gx.region ?_
  refine Gx.eff rfl rfl rfl (eff_callE (vs := [.slice none 0 0]) rfl Try.fn14 rfl (R := fun v => ∃ b : Bool, v = .tuple #[.bool b, .int .i64 0] ∧ b = true) (fun w H => (locked_ok nil_ok sls_nil).mono fun e w' ⟨v, he, ⟨b, hv, _, h2⟩, hb⟩ => ⟨v, he, ⟨b, hv, h2 rfl⟩, hb⟩)) ?_
  rintro _ _ ⟨⟨b4, rfl, hb4⟩, rfl⟩
  refine Gx.val rfl rfl rfl (val_move rfl rfl) ?_
  refine Gx.val rfl rfl rfl (val_extract rfl rfl rfl) ?_
  refine Gx.val rfl rfl rfl (val_extract rfl rfl rfl) ?_
  refine Gx.val rfl rfl rfl (val_assign rfl rfl) ?_
  refine Gx.val rfl rfl rfl (val_assign rfl rfl) ?_
  refine Gx.done ?_
  refine Gx.thenN ?_
  refine Gx.seq ?_
  refine Gx.seq ?_
  refine Gx.region ?_
  refine Gx.val rfl rfl rfl (val_move rfl rfl) ?_
  refine Gx.val rfl rfl rfl (val_call (vs := [hv]) rfl Try.fn9 rfl (fun w H => acts_no (hs.below H.below) hok)) ?_
  refine Gx.val rfl rfl rfl (Val.cast (val_not rfl rfl) (v' := .bool true) rfl) ?_
  refine Gx.done ?_
  refine Gx.thenN ?_
  refine Gx.t rfl ?_
  refine Gx.seq ?_
  refine Gx.region ?_
  refine Gx.val rfl rfl rfl (val_move rfl rfl) ?_
  refine Gx.val rfl rfl rfl (val_neq rfl rfl rfl) ?_
  refine Gx.val rfl rfl rfl (val_move rfl rfl) ?_
  refine Gx.cases (t := 30) rfl (fun h5 => ?_) (fun h5 => ?_)
  · refine Gx.valg rfl rfl rfl rfl rfl (val_move rfl rfl) ?_
    refine Gx.valg rfl rfl rfl rfl rfl (val_neq rfl rfl rfl) ?_
    refine Gx.val rfl rfl rfl (val_pickT rfl rfl rfl) ?_
    refine Gx.val rfl rfl rfl (val_assign rfl rfl) ?_
    refine Gx.done ?_
    refine Gx.thenN ?_
    refine Gx.ret ?_
    refine Gx.thenR ?_
    refine Gx.ret1 Try.results6 rfl ?_
    exact congrArg Value.bool (decide_eq_true (by assumption))
  · refine Gx.skipg rfl rfl rfl rfl rfl rfl ?_
    refine Gx.skipg rfl rfl rfl rfl rfl rfl ?_
    refine Gx.val rfl rfl rfl (val_pickF rfl rfl rfl) ?_
    refine Gx.val rfl rfl rfl (val_assign rfl rfl) ?_
    refine Gx.done ?_
    refine Gx.thenN ?_
    refine Gx.ret ?_
    refine Gx.thenR ?_
    refine Gx.ret1 Try.results6 rfl ?_
    exfalso; first | (simp_all; done) | omega

theorem locks_ok {W : World} {hv : Value} {l : List An} (hok : OkN l) (hs : SlS FA 3 W hv l) :
    Calls Try.prog 6 #[hv] W fun e w' => e = .returned (.bool true) ∧ Below W.heap.size W w' := by
  refine calls_pure (Gx.enter (l := []) Try.func6 rfl Try.ntmps6 rfl (Sat.start W) ?_)
  refine Gx.know (m' := [(0, hv)]) (.cons rfl .nil) ?_
  refine Gx.seq ?_
  refine Gx.region ?_
  refine Gx.val rfl rfl rfl (val_assign rfl rfl) ?_
  refine Gx.done ?_
  refine Gx.thenN ?_
  refine Gx.seq ?_
  refine Gx.region ?_
  refine Gx.val rfl rfl rfl (val_move rfl rfl) ?_
  refine Gx.eff rfl rfl rfl (eff_callE (vs := [hv]) rfl Try.fn8 rfl (R := SerB l) (fun w H => serial_b hok (hs.below H.below))) ?_
  rintro _ _ ⟨⟨a1, n1, c1, b1, rfl, hz1⟩, rfl⟩
  refine Gx.val rfl rfl rfl (val_move rfl rfl) ?_
  refine Gx.val rfl rfl rfl (val_extract rfl rfl rfl) ?_
  refine Gx.val rfl rfl rfl (val_extract rfl rfl rfl) ?_
  refine Gx.val rfl rfl rfl (val_extract rfl rfl rfl) ?_
  refine Gx.val rfl rfl rfl (val_assign rfl rfl) ?_
  refine Gx.val rfl rfl rfl (val_assign rfl rfl) ?_
  refine Gx.val rfl rfl rfl (val_assign rfl rfl) ?_
  refine Gx.done ?_
  refine Gx.thenN ?_
  refine Gx.seq ?_
  refine Gx.region ?_
  refine Gx.val rfl rfl rfl (val_move rfl rfl) ?_
  refine Gx.eff rfl rfl rfl (eff_callE (vs := [hv]) rfl Try.fn14 rfl (R := fun v => ∃ b : Bool, v = .tuple #[.bool b, .int .i64 0] ∧ (b = true → Acyc l) ∧ (l = [] → b = true)) (fun w H => locked_ok hok (hs.below H.below))) ?_
  rintro _ _ ⟨⟨b2, rfl, hb2, _⟩, rfl⟩
  refine Gx.val rfl rfl rfl (val_move rfl rfl) ?_
  refine Gx.val rfl rfl rfl (val_extract rfl rfl rfl) ?_
  refine Gx.val rfl rfl rfl (val_extract rfl rfl rfl) ?_
  refine Gx.val rfl rfl rfl (val_assign rfl rfl) ?_
  refine Gx.val rfl rfl rfl (val_assign rfl rfl) ?_
  refine Gx.done ?_
  refine Gx.thenN ?_
  refine Gx.seq ?_
  refine Gx.region ?_
  refine Gx.eff rfl rfl rfl (eff_callE (vs := [.slice none 0 0]) rfl Try.fn14 rfl (R := fun v => ∃ b : Bool, v = .tuple #[.bool b, .int .i64 0] ∧ b = true) (fun w H => (locked_ok nil_ok sls_nil).mono fun e w' ⟨v, he, ⟨b, hv, _, h2⟩, hb⟩ => ⟨v, he, ⟨b, hv, h2 rfl⟩, hb⟩)) ?_
  rintro _ _ ⟨⟨b3, rfl, hb3⟩, rfl⟩
  refine Gx.val rfl rfl rfl (val_move rfl rfl) ?_
  refine Gx.val rfl rfl rfl (val_extract rfl rfl rfl) ?_
  refine Gx.val rfl rfl rfl (val_extract rfl rfl rfl) ?_
  refine Gx.val rfl rfl rfl (val_assign rfl rfl) ?_
  refine Gx.val rfl rfl rfl (val_assign rfl rfl) ?_
  refine Gx.done ?_
  refine Gx.thenN ?_
  refine Gx.seq ?_
  refine Gx.seq ?_
  refine Gx.region ?_
  refine Gx.val rfl rfl rfl (val_move rfl rfl) ?_
  refine Gx.val rfl rfl rfl (val_call (vs := [hv]) rfl Try.fn9 rfl (fun w H => acts_ok (hs.below H.below) hok)) ?_
  refine Gx.val rfl rfl rfl (Val.cast (val_not rfl rfl) (v' := .bool false) rfl) ?_
  refine Gx.done ?_
  refine Gx.thenN ?_
  refine Gx.f rfl ?_
  refine Gx.skip ?_
  refine Gx.thenN ?_
  refine Gx.seq ?_
  refine Gx.region ?_
  refine Gx.val rfl rfl rfl (val_move rfl rfl) ?_
  refine Gx.val rfl rfl rfl (Val.cast (val_eql rfl rfl rfl) (v' := .bool true) rfl) ?_
  refine Gx.val rfl rfl rfl (val_move rfl rfl) ?_
  refine Gx.valg rfl rfl rfl rfl rfl (val_move rfl rfl) ?_
  refine Gx.valg rfl rfl rfl rfl rfl (Val.cast (val_eql rfl rfl rfl) (v' := .bool true) rfl) ?_
  refine Gx.val rfl rfl rfl (val_pickT rfl rfl rfl) ?_
  refine Gx.val rfl rfl rfl (val_move rfl rfl) ?_
  refine Gx.valg rfl rfl rfl rfl rfl (val_move rfl rfl) ?_
  refine Gx.valg rfl rfl rfl rfl rfl (Val.cast (val_eql rfl rfl rfl) (v' := .bool true) rfl) ?_
  refine Gx.val rfl rfl rfl (val_pickT rfl rfl rfl) ?_
  refine Gx.val rfl rfl rfl (val_move rfl rfl) ?_
  refine Gx.valg rfl rfl rfl rfl rfl (val_move rfl rfl) ?_
  refine Gx.val rfl rfl rfl (val_pickT rfl rfl rfl) ?_
  refine Gx.val rfl rfl rfl (val_move rfl rfl) ?_
  refine Gx.casesB (t := 47) rfl (fun h4 => ?_) (fun h4 => ?_)
  · refine Gx.valg rfl rfl rfl rfl rfl (val_move rfl rfl) ?_
    refine Gx.valg rfl rfl rfl rfl rfl (val_not rfl rfl) ?_
    refine Gx.valg rfl rfl rfl rfl rfl (val_move rfl rfl) ?_
    refine Gx.casesB (t := 50) rfl (fun h5 => ?_) (fun h5 => ?_)
    · refine Gx.skipg rfl rfl rfl rfl rfl rfl ?_
      refine Gx.valg rfl rfl rfl rfl rfl (val_pickT rfl rfl rfl) ?_
      refine Gx.val rfl rfl rfl (val_pickT rfl rfl rfl) ?_
      refine Gx.val rfl rfl rfl (val_assign rfl rfl) ?_
      refine Gx.done ?_
      refine Gx.thenN ?_
      refine Gx.ret ?_
      refine Gx.ret1 Try.results6 rfl ?_
      rfl
    · refine Gx.valg rfl rfl rfl rfl rfl (val_move rfl rfl) ?_
      refine Gx.valg rfl rfl rfl rfl rfl (val_pickF rfl rfl rfl) ?_
      refine Gx.val rfl rfl rfl (val_pickT rfl rfl rfl) ?_
      refine Gx.val rfl rfl rfl (val_assign rfl rfl) ?_
      refine Gx.done ?_
      refine Gx.thenN ?_
      refine Gx.ret ?_
      refine Gx.ret1 Try.results6 rfl ?_
      exact congrArg Value.bool (hz1.2 (hb2 (by simp_all)))
  · refine Gx.skipg rfl rfl rfl rfl rfl rfl ?_
    refine Gx.skipg rfl rfl rfl rfl rfl rfl ?_
    refine Gx.skipg rfl rfl rfl rfl rfl rfl ?_
    refine Gx.skipu rfl rfl rfl rfl rfl ?_
    refine Gx.skipg rfl rfl rfl rfl rfl rfl ?_
    refine Gx.val rfl rfl rfl (val_pickF rfl rfl rfl) ?_
    refine Gx.val rfl rfl rfl (val_assign rfl rfl) ?_
    refine Gx.done ?_
    refine Gx.thenN ?_
    refine Gx.ret ?_
    refine Gx.ret1 Try.results6 rfl ?_
    exfalso; first | (simp_all; done) | omega

theorem locks_any {W : World} {hv : Value} {r : List Act}  (hs : SlS FR 3 W hv r) : Calls Try.prog 6 #[hv] W fun e w' => e = .returned (.bool true) ∧ Below W.heap.size W w' := by
  by_cases hok : OkA r
  · obtain ⟨l, rfl, hn⟩ := raw_of hok
    exact locks_ok  hn (sls_raw.1 hs)
  · exact locks_no  hok hs

theorem keeps_acyc {l : List An} {xs : List Int} (h : Keeps l xs) : Acyc l := by
  refine ⟨fun t => (pos xs (t : Int)).toNat, fun a b hab => ?_⟩
  have h1 := h.ed a b hab
  have ha := h.key a hab.key.1
  have hb := h.key b hab.key.2
  have hne : a ≠ b := by
    obtain ⟨j, i, x, y, _, _, _, hc, rfl, rfl⟩ := hab
    exact (clashB_iff.1 hc).2.2.1
  have h2 : pos xs (a : Int) ≠ pos xs (b : Int) := fun e => hne (by have := pos_inj ha hb e; omega)
  have h3 := pos_mem.2 ha
  show (pos xs (a : Int)).toNat < (pos xs (b : Int)).toNat
  omega
theorem pos_cast {zs : List Nat} {t : Nat} (h : t ∈ zs) : pos (zs.map (Nat.cast : Nat → Int)) (t : Int) = (zs.idxOf t : Int) := by
  have hlt := List.idxOf_lt_length_of_mem h
  have hg := List.getElem_idxOf hlt
  refine pos_eq (by rw [List.getElem?_map, List.getElem?_eq_getElem hlt, hg]; rfl) fun hm => ?_
  rw [← List.map_take] at hm
  obtain ⟨u, hu, e⟩ := List.mem_map.1 hm
  obtain rfl : u = t := by omega
  obtain ⟨q, hq⟩ := List.getElem?_of_mem hu
  have hql := (List.getElem?_eq_some_iff.1 hq).1
  rw [List.length_take] at hql
  rw [List.getElem?_take, if_pos (by omega)] at hq
  have := List.not_of_lt_findIdx (p := fun x => x == u) (xs := zs) (i := q) (by show q < zs.idxOf u; omega)
  rw [(List.getElem?_eq_some_iff.1 hq).2] at this
  simp at this
theorem topo_keeps {l : List An} {zs : List Nat} (h : Topo (Key l) (Edge l) zs) : Keeps l (zs.map (Nat.cast : Nat → Int)) := by
  refine ⟨fun t ht => List.mem_map.2 ⟨t, (h.key t).1 ht, rfl⟩, fun a b hab => ?_, ?_⟩
  · have ha := (h.key a).1 hab.key.1
    have hb := (h.key b).1 hab.key.2
    rw [pos_cast ha, pos_cast hb]
    have hlt := List.idxOf_lt_length_of_mem hb
    have hm := h.ed (zs.idxOf b) b (by rw [List.getElem?_eq_getElem hlt, List.getElem_idxOf hlt]) a hab
    have h1 : zs.idxOf a < zs.idxOf b := by
      obtain ⟨q, hq⟩ := List.getElem?_of_mem hm
      have hql := (List.getElem?_eq_some_iff.1 hq).1
      rw [List.length_take] at hql
      rw [List.getElem?_take, if_pos (by omega)] at hq
      have h3 : zs.idxOf a ≤ q := Nat.le_of_not_lt fun hl => by
        have := List.not_of_lt_findIdx (p := fun x => x == a) (xs := zs) (i := q) hl
        rw [(List.getElem?_eq_some_iff.1 hq).2] at this
        simp at this
      omega
    omega
  · have := h.nd
    exact List.pairwise_map.2 (this.imp fun hne e => hne (by omega))
theorem sls_cast {w : World} {v : Value} {ms : List Nat} (H : SlS FN 1 w v ms) : SlS FZ 1 w v (ms.map (Nat.cast : Nat → Int)) := by
  obtain ⟨a, c, e, hm, hn, hc⟩ := H
  refine ⟨a, c, by rw [List.length_map]; exact e, by rw [List.length_map]; exact hm, by rw [List.length_map]; exact hn, fun j x hx => ?_⟩
  rw [List.getElem?_map] at hx
  cases e2 : ms[j]? with
  | none => rw [e2] at hx; cases hx
  | some y => rw [e2] at hx; cases hx; exact hc j y e2
def SerZ (l : List An) (v : Value) (w : World) : Prop := ∃ a n c b zs, v = .tuple #[.slice a n c, .bool b, .int .i64 0] ∧ SlS FZ 1 w (.slice a n c) (zs.map (Nat.cast : Nat → Int)) ∧ SerR l b zs
theorem serial_z {W : World} {hv : Value} {l : List An} (hok : OkN l) (hs : SlS FA 3 W hv l) : Calls Try.prog 8 #[hv] W fun e w' => ∃ v, e = .returned v ∧ SerZ l v w' ∧ Below W.heap.size W w' :=
  (serial_ok hok hs).mono fun e w' ⟨v, he, ⟨a, n, c, b, zs, hv, h1, h⟩, hb⟩ => ⟨v, he, ⟨a, n, c, b, zs, hv, sls_cast h1, h⟩, hb⟩
theorem keep_no {W : World} {hv va : Value} {l : List Act} {xs : List Int} (ha : SlS FZ 1 W va xs) (hok : ¬ OkA l) (hs : SlS FR 3 W hv l) :
    Calls Try.prog 3 #[hv, va] W fun e w' => e = .returned (.bool true) ∧ Below W.heap.size W w' := by
  refine calls_pure (Gx.enter (l := []) Try.func3 rfl Try.ntmps3 rfl (Sat.start W) ?_)
  refine Gx.know (m' := [(0, hv), (1, va)]) (.cons rfl (.cons rfl .nil)) ?_
  refine Gx.seq ?_
  refine Gx.region ?_
  refine Gx.val rfl rfl rfl (val_assign rfl rfl) ?_
  refine Gx.done ?_
  refine Gx.thenN ?_
  refine Gx.seq ?_
  refine Gx.region ?_
  refine Gx.val rfl rfl rfl (val_move rfl rfl) ?_
  refine Gx.eff rfl rfl rfl (eff_callE (vs := [hv]) rfl Try.fn8 rfl (R := fun v => ∃ (c : Int), v = .tuple #[.slice none 0 0, .bool false, .int .i64 c] ∧ c ≠ 0) (fun w H => serial_no hok (hs.below H.below))) ?_
  rintro _ _ ⟨⟨c1, rfl, hc1⟩, rfl⟩
  refine Gx.val rfl rfl rfl (val_move rfl rfl) ?_
  refine Gx.val rfl rfl rfl (val_extract rfl rfl rfl) ?_
  refine Gx.val rfl rfl rfl (val_extract rfl rfl rfl) ?_
  refine Gx.val rfl rfl rfl (val_extract rfl rfl rfl) ?_
  refine Gx.val rfl rfl rfl (val_assign rfl rfl) ?_
  refine Gx.val rfl rfl rfl (val_assign rfl rfl) ?_
  refine Gx.val rfl rfl rfl (val_assign rfl rfl) ?_
  refine Gx.done ?_
  refine Gx.thenN ?_
  refine Gx.seq ?_
  refine Gx.seq ?_
  refine Gx.region ?_
  refine Gx.val rfl rfl rfl (val_move rfl rfl) ?_
  refine Gx.val rfl rfl rfl (val_call (vs := [hv]) rfl Try.fn9 rfl (fun w H => acts_no (hs.below H.below) hok)) ?_
  refine Gx.val rfl rfl rfl (Val.cast (val_not rfl rfl) (v' := .bool true) rfl) ?_
  refine Gx.done ?_
  refine Gx.thenN ?_
  refine Gx.t rfl ?_
  refine Gx.seq ?_
  refine Gx.region ?_
  refine Gx.val rfl rfl rfl (val_move rfl rfl) ?_
  refine Gx.val rfl rfl rfl (val_neq rfl rfl rfl) ?_
  refine Gx.val rfl rfl rfl (val_assign rfl rfl) ?_
  refine Gx.done ?_
  refine Gx.thenN ?_
  refine Gx.ret ?_
  refine Gx.thenR ?_
  refine Gx.ret1 Try.results3 rfl ?_
  exact congrArg Value.bool (decide_eq_true (by assumption))

theorem keep_ok {W : World} {hv va : Value} {l : List An} {xs : List Int} (ha : SlS FZ 1 W va xs) (hok : OkN l) (hs : SlS FA 3 W hv l) :
    Calls Try.prog 3 #[hv, va] W fun e w' => e = .returned (.bool true) ∧ Below W.heap.size W w' := by
  refine calls_pure (Gx.enter (l := []) Try.func3 rfl Try.ntmps3 rfl (Sat.start W) ?_)
  refine Gx.know (m' := [(0, hv), (1, va)]) (.cons rfl (.cons rfl .nil)) ?_
  refine Gx.seq ?_
  refine Gx.region ?_
  refine Gx.val rfl rfl rfl (val_assign rfl rfl) ?_
  refine Gx.done ?_
  refine Gx.thenN ?_
  refine Gx.seq ?_
  refine Gx.region ?_
  refine Gx.val rfl rfl rfl (val_move rfl rfl) ?_
  refine Gx.callB rfl rfl rfl (vs := [hv]) rfl Try.fn8 rfl (R := SerZ l) (fun w H => serial_z hok (hs.below H.below)) ?_
  rintro _ W1 ⟨a9, n9, c9, b9, zs, rfl, hz, hr⟩ H2
  have hW3 := H2.below
  have hs4 := hs.below H2.below
  have hs5 := ha.below H2.below
  refine Gx.val rfl rfl rfl (val_move rfl rfl) ?_
  refine Gx.val rfl rfl rfl (val_extract rfl rfl rfl) ?_
  refine Gx.val rfl rfl rfl (val_extract rfl rfl rfl) ?_
  refine Gx.val rfl rfl rfl (val_extract rfl rfl rfl) ?_
  refine Gx.val rfl rfl rfl (val_assign rfl rfl) ?_
  refine Gx.val rfl rfl rfl (val_assign rfl rfl) ?_
  refine Gx.val rfl rfl rfl (val_assign rfl rfl) ?_
  refine Gx.done ?_
  refine Gx.thenN ?_
  refine Gx.seq ?_
  refine Gx.seq ?_
  refine Gx.region ?_
  refine Gx.val rfl rfl rfl (val_move rfl rfl) ?_
  refine Gx.val rfl rfl rfl (val_call (vs := [hv]) rfl Try.fn9 rfl (fun w H => acts_ok (hs4.below H.below) hok)) ?_
  refine Gx.val rfl rfl rfl (Val.cast (val_not rfl rfl) (v' := .bool false) rfl) ?_
  refine Gx.done ?_
  refine Gx.thenN ?_
  refine Gx.f rfl ?_
  refine Gx.skip ?_
  refine Gx.thenN ?_
  refine Gx.seq ?_
  refine Gx.seq ?_
  refine Gx.region ?_
  refine Gx.val rfl rfl rfl (val_move rfl rfl) ?_
  refine Gx.val rfl rfl rfl (Val.cast (val_neq rfl rfl rfl) (v' := .bool false) rfl) ?_
  refine Gx.val rfl rfl rfl (val_move rfl rfl) ?_
  refine Gx.valg rfl rfl rfl rfl rfl (val_move rfl rfl) ?_
  refine Gx.valg rfl rfl rfl rfl rfl (val_move rfl rfl) ?_
  refine Gx.casesB (t := 23) rfl (fun h6 => ?_) (fun h6 => ?_)
  · refine Gx.valg rfl rfl rfl rfl rfl (val_move rfl rfl) ?_
    refine Gx.valg rfl rfl rfl rfl rfl (val_move rfl rfl) ?_
    refine Gx.effg rfl rfl rfl rfl rfl (eff_callE (vs := [hv, .slice a9 n9 c9]) rfl Try.fn10 rfl (R := fun v => ∃ b : Bool, v = .bool b ∧ (b = true ↔ Keeps l (zs.map (Nat.cast : Nat → Int)))) (fun w H => keeps_any hok (hs4.below H.below) (hz.below H.below))) ?_
    rintro _ _ ⟨⟨b7, rfl, hk1⟩, rfl⟩
    refine Gx.valg rfl rfl rfl rfl rfl (val_not rfl rfl) ?_
    refine Gx.valg rfl rfl rfl rfl rfl (val_pickT rfl rfl rfl) ?_
    refine Gx.val rfl rfl rfl (val_pickF rfl rfl rfl) ?_
    refine Gx.done ?_
    refine Gx.thenN ?_
    refine Gx.bool rfl (fun h8 => ?_) (fun h8 => ?_)
    · refine Gx.seq ?_
      refine Gx.region ?_
      refine Gx.val rfl rfl rfl (val_assign rfl rfl) ?_
      refine Gx.done ?_
      refine Gx.thenN ?_
      refine Gx.ret ?_
      refine Gx.thenR ?_
      refine Gx.ret1B hW3 Try.results3 rfl ?_
      exfalso; have := hk1.2 (topo_keeps (hr.1 (by simp_all))); simp_all
    · refine Gx.skip ?_
      refine Gx.thenN ?_
      refine Gx.seq ?_
      refine Gx.region ?_
      refine Gx.val rfl rfl rfl (val_move rfl rfl) ?_
      refine Gx.val rfl rfl rfl (val_move rfl rfl) ?_
      refine Gx.slot (t := 31) (v := .bool true) (look_boolT rfl (h6)) ?_
      refine Gx.skipg rfl rfl rfl rfl rfl rfl ?_
      refine Gx.skipg rfl rfl rfl rfl rfl rfl ?_
      refine Gx.skipg rfl rfl rfl rfl rfl rfl ?_
      refine Gx.skipg rfl rfl rfl rfl rfl rfl ?_
      refine Gx.val rfl rfl rfl (val_pickT rfl rfl rfl) ?_
      refine Gx.val rfl rfl rfl (val_assign rfl rfl) ?_
      refine Gx.done ?_
      refine Gx.thenN ?_
      refine Gx.ret ?_
      refine Gx.ret1B hW3 Try.results3 rfl ?_
      rfl
  · refine Gx.skipg rfl rfl rfl rfl rfl rfl ?_
    refine Gx.skipg rfl rfl rfl rfl rfl rfl ?_
    refine Gx.skipg rfl rfl rfl rfl rfl rfl ?_
    refine Gx.skipg rfl rfl rfl rfl rfl rfl ?_
    refine Gx.valg rfl rfl rfl rfl rfl (val_pickF rfl rfl rfl) ?_
    refine Gx.val rfl rfl rfl (val_pickF rfl rfl rfl) ?_
    refine Gx.done ?_
    refine Gx.thenN ?_
    refine Gx.f rfl ?_
    refine Gx.skip ?_
    refine Gx.thenN ?_
    refine Gx.seq ?_
    refine Gx.region ?_
    refine Gx.val rfl rfl rfl (val_move rfl rfl) ?_
    refine Gx.val rfl rfl rfl (val_move rfl rfl) ?_
    refine Gx.slot (t := 31) (v := .bool false) (look_boolF rfl (h6)) ?_
    refine Gx.valg rfl rfl rfl rfl rfl (val_move rfl rfl) ?_
    refine Gx.valg rfl rfl rfl rfl rfl (val_move rfl rfl) ?_
    refine Gx.effg rfl rfl rfl rfl rfl (eff_callE (vs := [hv, va]) rfl Try.fn10 rfl (R := fun v => ∃ b : Bool, v = .bool b ∧ (b = true ↔ Keeps l xs)) (fun w H => keeps_any hok (hs4.below H.below) (hs5.below H.below))) ?_
    rintro _ _ ⟨⟨b9, rfl, hk2⟩, rfl⟩
    refine Gx.valg rfl rfl rfl rfl rfl (val_not rfl rfl) ?_
    refine Gx.val rfl rfl rfl (val_pickF rfl rfl rfl) ?_
    refine Gx.val rfl rfl rfl (val_assign rfl rfl) ?_
    refine Gx.done ?_
    refine Gx.thenN ?_
    refine Gx.ret ?_
    refine Gx.ret1B hW3 Try.results3 rfl ?_
    exact congrArg Value.bool (by have h9 : ¬ Keeps l xs := fun hk => stuck_no (hr.2 (by simp_all)).2 (keeps_acyc hk); rw [Bool.not_eq_true']; exact Bool.eq_false_iff.2 fun e => h9 (hk2.1 e))

theorem keep_any {W : World} {hv : Value} {r : List Act} {va : Value} {xs : List Int} (ha : SlS FZ 1 W va xs) (hs : SlS FR 3 W hv r) : Calls Try.prog 3 #[hv, va] W fun e w' => e = .returned (.bool true) ∧ Below W.heap.size W w' := by
  by_cases hok : OkA r
  · obtain ⟨l, rfl, hn⟩ := raw_of hok
    exact keep_ok ha hn (sls_raw.1 hs)
  · exact keep_no ha hok hs

end Go.Proofs.Ytcepfpbhfobbeaa
