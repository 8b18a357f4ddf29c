/- The rules of two phases. The walk. No condition. -/
import Derived.Test.YtcepfpbhfobbeaaA3
namespace Go.Proofs.Ytcepfpbhfobbeaa
open Go.RowKit
set_option linter.unusedVariables false
set_option linter.unusedSimpArgs false
set_option maxRecDepth 100000

def Acyc (l : List An) : Prop := ∃ rank : Nat → Nat, ∀ a b, Edge l a b → rank a < rank b
theorem Edge.key {l : List An} {a b : Nat} (h : Edge l a b) : Key l a ∧ Key l b := by
  obtain ⟨j, i, x, y, _, hx, hy, _, e1, e2⟩ := h
  exact ⟨⟨j, x, hx, e1⟩, ⟨i, y, hy, e2⟩⟩
theorem stuck_no {l : List An} (h : Stuck (Key l) (Edge l)) : ¬ Acyc l := by
  obtain ⟨S, ⟨t, hk, hn⟩, h2⟩ := h
  rintro ⟨rank, hr⟩
  obtain ⟨m, ⟨u, hu, hun, e⟩, hmin⟩ := least_nat (p := fun m => ∃ u, Key l u ∧ ¬ u ∈ S ∧ rank u = m) _ ⟨t, hk, hn, rfl⟩
  obtain ⟨a, ha, han⟩ := h2 u hu hun
  have := hmin _ ⟨a, ha.key.1, han, rfl⟩
  have := hr a u ha
  omega
theorem topo_acyc {l : List An} {zs : List Nat} (h : Topo (Key l) (Edge l) zs) : Acyc l := by
  refine ⟨fun t => zs.idxOf t, fun a b hab => ?_⟩
  show zs.idxOf a < zs.idxOf b
  have hb := (h.key b).1 hab.key.2
  have hlt := List.idxOf_lt_length_of_mem hb
  have hg := List.getElem_idxOf hlt
  have ha := h.ed (zs.idxOf b) b (by rw [List.getElem?_eq_getElem hlt, hg]) a hab
  obtain ⟨q, hq⟩ := List.getElem?_of_mem ha
  have hql := (List.getElem?_eq_some_iff.1 hq).1
  rw [List.length_take] at hql
  rw [List.getElem?_take, if_pos (by omega)] at hq
  have h1 := List.idxOf_lt_length_of_mem (List.mem_of_getElem? hq)
  have h2 := List.getElem_idxOf h1
  refine Nat.lt_of_le_of_lt (Nat.le_of_not_lt fun hlt2 => ?_) (show q < _ by omega)
  have h3 := (List.getElem?_eq_some_iff.1 hq).2
  have hp := List.pairwise_iff_getElem.1 h.nd q (zs.idxOf a) (by omega) h1 hlt2
  exact hp (h3.trans h2.symm)
theorem ser_acyc {l : List An} {b : Bool} {zs : List Nat} (h : SerR l b zs) : b = true ↔ Acyc l := by
  cases b
  · exact iff_of_false (by decide) (stuck_no (h.2 rfl).2)
  · exact iff_of_true rfl (topo_acyc (h.1 rfl))
def isU (T : Nat) (a : An) : Bool := decide (a.kind = 4 ∧ a.txn = T)
def fu (l : List An) (T : Nat) : Nat := l.findIdx (isU T)
theorem fu_le {l : List An} {T i : Nat} {x : An} (h : l[i]? = some x) (h2 : x.kind = 4) (h3 : x.txn = T) : fu l T ≤ i := by
  obtain ⟨hlt, rfl⟩ := List.getElem?_eq_some_iff.1 h
  refine Nat.le_of_not_lt fun hl => ?_
  have := List.not_of_lt_findIdx hl
  simp [isU, h2, h3] at this
theorem fu_ge {l : List An} {T k : Nat} (hk : k ≤ l.length) (h : ∀ (i : Nat) (x : An), i < k → l[i]? = some x → ¬ (x.kind = 4 ∧ x.txn = T)) : k ≤ fu l T := by
  refine Nat.le_of_not_lt fun hl => ?_
  have hlt : fu l T < l.length := by omega
  have := List.findIdx_getElem (p := isU T) (w := hlt)
  have this' : isU T l[fu l T] = true := this
  exact h _ _ hl (List.getElem?_eq_getElem hlt) (by simpa [isU] using this')
structure LInv (l : List An) (k : Nat) (ms : List (Nat × Nat)) (L : Nat → Bool) : Prop where
  late : ∀ T, T < 6 → (L T = true ↔ ∃ (i : Nat) (x : An), i < k ∧ l[i]? = some x ∧ x.kind = 4 ∧ x.txn = T)
  own : ∀ (i : Nat) (x : An), i < k → l[i]? = some x → x.kind ≤ 2 → getM ms x.item = some x.txn ∨ (L x.txn = true ∧ ∀ T2, getM ms x.item = some T2 → fu l x.txn < fu l T2)
  cl : ∀ (j i : Nat) (x y : An), j < i → i < k → l[j]? = some x → l[i]? = some y → clashB x y = true → fu l x.txn < fu l y.txn
def updL (L : Nat → Bool) (j : Nat) : Nat → Bool := fun k => if k = j then true else L k
theorem getM_del {ms : List (Nat × Nat)} (hn : ms.Pairwise (fun p q => p.1 ≠ q.1)) (a b : Nat) : getM (delM ms a) b = if a = b then none else getM ms b := by
  rw [delM_eq a hn]
  split
  · rename_i e; subst e
    exact getM_no fun p hp => by simpa using (List.mem_filter.1 hp).2
  · rename_i e
    cases h : getM ms b with
    | none =>
      refine getM_no fun p hp => ?_
      exact getM_none.1 h p (List.mem_filter.1 hp).1
    | some x =>
      refine getM_of (hn.filter _) (List.mem_filter.2 ⟨getM_some h, ?_⟩)
      simp; exact fun e2 => e e2.symm
section
variable {l : List An} {k : Nat} {ms : List (Nat × Nat)} {L : Nat → Bool} {x : An}
theorem LInv.start : LInv l 0 [] (fun _ => false) := ⟨fun T _ => ⟨fun h => (by cases h), fun ⟨i, _, h, _⟩ => (by omega)⟩, fun i x h => by omega, fun j i x y _ h => by omega⟩
theorem late_succ {T : Nat} (hx : l[k]? = some x) : (∃ (i : Nat) (y : An), i < k + 1 ∧ l[i]? = some y ∧ y.kind = 4 ∧ y.txn = T) ↔ (∃ (i : Nat) (y : An), i < k ∧ l[i]? = some y ∧ y.kind = 4 ∧ y.txn = T) ∨ (x.kind = 4 ∧ x.txn = T) := by
  constructor
  · rintro ⟨i, y, h1, h2, h3⟩
    rcases Nat.lt_or_eq_of_le (Nat.le_of_lt_succ h1) with h | rfl
    · exact .inl ⟨i, y, h, h2, h3⟩
    · cases hx.symm.trans h2; exact .inr h3
  · rintro (⟨i, y, h1, h2⟩ | h)
    · exact ⟨i, y, by omega, h2⟩
    · exact ⟨k, x, by omega, hx, h⟩
theorem LInv.fu_of (I : LInv l k ms L) {T : Nat} (hT : T < 6) (hk : k ≤ l.length) (h : L T = false) : k ≤ fu l T := fu_ge hk fun i y hi hy hyk => by
  have := (I.late T hT).2 ⟨i, y, hi, hy, hyk.1, hyk.2⟩
  rw [h] at this; cases this
theorem LInv.fu_lt (I : LInv l k ms L) {T : Nat} (hT : T < 6) (h : L T = true) : fu l T < k := by
  obtain ⟨i, y, hi, hy, h1, h2⟩ := (I.late T hT).1 h
  exact Nat.lt_of_le_of_lt (fu_le hy h1 h2) hi
theorem LInv.lock (I : LInv l k ms L) (hok : OkN l) (hx : l[k]? = some x) (hk : x.kind = 3) (hg : getM ms x.item = none) (hl : L x.txn = false) : LInv l (k + 1) (putM ms x.item x.txn) L := by
  have hkl := (List.getElem?_eq_some_iff.1 hx).1
  have hxb := hok.all _ _ hx
  refine ⟨fun T hT => by rw [late_succ hx, I.late T hT]; exact ⟨.inl, fun h => h.resolve_right fun q => by omega⟩, fun i y hi hy hyk => ?_, fun j i y z hj hi hy hz hc => ?_⟩
  · rcases Nat.lt_or_eq_of_le (Nat.le_of_lt_succ hi) with h | rfl
    · have hyb := hok.all _ _ hy
      have h0 := I.own i y h hy hyk
      rw [getM_put]
      by_cases e : x.item = y.item
      · rw [if_pos e]
        rcases h0 with h1 | ⟨h1, _⟩
        · rw [← e, hg] at h1; cases h1
        · right
          refine ⟨h1, fun T2 h2 => ?_⟩
          cases h2
          have := I.fu_lt (by omega) h1
          have := I.fu_of (by omega) (by omega) hl
          omega
      · rw [if_neg e]; exact h0
    · cases hx.symm.trans hy; omega
  · rcases Nat.lt_or_eq_of_le (Nat.le_of_lt_succ hi) with h | rfl
    · exact I.cl j i y z hj h hy hz hc
    · cases hx.symm.trans hz
      have := clashB_iff.1 hc; omega
theorem LInv.unlock (I : LInv l k ms L) (hok : OkN l) (hn : ms.Pairwise (fun p q => p.1 ≠ q.1)) (hx : l[k]? = some x) (hk : x.kind = 4) (hg : getM ms x.item = some x.txn) : LInv l (k + 1) (delM ms x.item) (updL L x.txn) := by
  refine ⟨fun T hT => ?_, fun i y hi hy hyk => ?_, fun j i y z hj hi hy hz hc => ?_⟩
  · rw [late_succ hx, ← I.late T hT]
    unfold updL
    by_cases e : T = x.txn
    · subst e; simp [hk]
    · rw [if_neg e]
      exact ⟨.inl, fun h => h.resolve_right fun q => e q.2.symm⟩
  · rcases Nat.lt_or_eq_of_le (Nat.le_of_lt_succ hi) with h | rfl
    · have h0 := I.own i y h hy hyk
      rw [getM_del hn]
      by_cases e : x.item = y.item
      · rw [if_pos e]
        right
        refine ⟨?_, fun T2 h2 => by cases h2⟩
        unfold updL
        by_cases e2 : y.txn = x.txn
        · rw [if_pos e2]
        · rw [if_neg e2]
          rcases h0 with h1 | h1
          · rw [← e, hg] at h1; exact absurd (Option.some.inj h1).symm e2
          · exact h1.1
      · rw [if_neg e]
        refine h0.imp id fun h1 => ⟨?_, h1.2⟩
        unfold updL; split
        · rfl
        · exact h1.1
    · cases hx.symm.trans hy; omega
  · rcases Nat.lt_or_eq_of_le (Nat.le_of_lt_succ hi) with h | rfl
    · exact I.cl j i y z hj h hy hz hc
    · cases hx.symm.trans hz
      have := clashB_iff.1 hc; omega
theorem LInv.data (I : LInv l k ms L) (hx : l[k]? = some x) (hk : x.kind ≤ 2) (hg : getM ms x.item = some x.txn) : LInv l (k + 1) ms L := by
  refine ⟨fun T hT => by rw [late_succ hx, I.late T hT]; exact ⟨.inl, fun h => h.resolve_right fun q => by omega⟩, fun i y hi hy hyk => ?_, fun j i y z hj hi hy hz hc => ?_⟩
  · rcases Nat.lt_or_eq_of_le (Nat.le_of_lt_succ hi) with h | rfl
    · exact I.own i y h hy hyk
    · cases hx.symm.trans hy; exact .inl hg
  · rcases Nat.lt_or_eq_of_le (Nat.le_of_lt_succ hi) with h | rfl
    · exact I.cl j i y z hj h hy hz hc
    · cases hx.symm.trans hz
      obtain ⟨c1, c2, c3, c4, c5⟩ := clashB_iff.1 hc
      rcases I.own j y (by omega) hy c1 with h1 | ⟨_, h1⟩
      · rw [c4, hg] at h1; exact absurd (Option.some.inj h1).symm c3
      · exact h1 _ (by rw [c4]; exact hg)
end
theorem ble6 {j : Nat} (h : j < 6) : Nat.ble (0 + j * 1 + 1) 6 = true := Nat.ble_eq_true_of_le (by omega)
theorem delM_le (ms : List (Nat × Nat)) (a : Nat) : (delM ms a).length ≤ ms.length := by
  induction ms with
  | nil => exact Nat.le_refl _
  | cons p l ih =>
    obtain ⟨b, y⟩ := p
    simp only [delM]
    split
    · simp
    · simp only [List.length_cons]; omega
theorem locked_ok {W : World} {hv : Value} {l : List An} (hok : OkN l) (hs : SlS FA 3 W hv l) :
    Calls Try.prog 14 #[hv] W fun e w' => ∃ v, e = .returned v ∧ (∃ b : Bool, v = .tuple #[.bool b, .int .i64 0] ∧ (b = true → Acyc l) ∧ (l = [] → b = true)) ∧ Below W.heap.size W w' := by
  have h60 := hok.len
  refine calls_rel (R := fun v => ∃ b : Bool, v = .tuple #[.bool b, .int .i64 0] ∧ (b = true → Acyc l) ∧ (l = [] → b = true)) (Gx.enter (l := []) Try.func14 rfl Try.ntmps14 rfl (Sat.start W) ?_)
  refine Gx.know (m' := [(0, hv)]) (.cons rfl .nil) ?_
  refine Gx.seq ?_
  refine Gx.region ?_
  refine Gx.val rfl rfl rfl (val_assign rfl rfl) ?_
  refine Gx.val rfl rfl rfl (val_assign rfl rfl) ?_
  refine Gx.done ?_
  refine Gx.thenN ?_
  refine Gx.seq ?_
  refine Gx.seq ?_
  refine Gx.region ?_
  refine Gx.val rfl rfl rfl (val_move rfl rfl) ?_
  refine Gx.val rfl rfl rfl (val_call (vs := [hv]) rfl Try.fn16 rfl (fun w H => check_ok (hs.below H.below) hok)) ?_
  refine Gx.val rfl rfl rfl (val_assign rfl rfl) ?_
  refine Gx.done ?_
  refine Gx.thenN ?_
  refine Gx.seq ?_
  refine Gx.region ?_
  refine Gx.val rfl rfl rfl (val_move rfl rfl) ?_
  refine Gx.val rfl rfl rfl (Val.cast (val_neq rfl rfl rfl) (v' := .bool false) rfl) ?_
  refine Gx.done ?_
  refine Gx.thenN ?_
  refine Gx.f rfl ?_
  refine Gx.skip ?_
  refine Gx.thenN ?_
  refine Gx.seq ?_
  refine Gx.region ?_
  refine Gx.eff rfl rfl rfl (eff_makeMap 3 natL natI rfl) ?_
  rintro _ _ ⟨b1, rfl, rfl⟩
  refine Gx.val rfl rfl rfl (val_assign rfl rfl) ?_
  refine Gx.done ?_
  refine Gx.thenN ?_
  refine Gx.seq ?_
  refine Gx.region ?_
  refine Gx.eff rfl rfl rfl (eff_alloc rfl Try.ty43 (vs := [.bool false, .bool false, .bool false, .bool false, .bool false, .bool false]) rfl) ?_
  rintro _ _ ⟨b2, rfl, rfl⟩
  refine Gx.done ?_
  refine Gx.thenN ?_
  refine Gx.seq ?_
  refine Gx.seq ?_
  refine Gx.norm (l' := [Hp.rec_ b2 [.bool ((fun _ => false) 0), .bool ((fun _ => false) 1), .bool ((fun _ => false) 2), .bool ((fun _ => false) 3), .bool ((fun _ => false) 4), .bool ((fun _ => false) 5)], Hp.map Try.prog 3 natL natI b1 ([])]) rfl ?_
  refine Gx.region ?_
  refine Gx.val rfl rfl rfl (val_move rfl rfl) ?_
  refine Gx.val rfl rfl rfl (val_len rfl Try.underlying22 rfl (len_base hs)) ?_
  refine Gx.val rfl rfl rfl (val_move rfl rfl) ?_
  refine Gx.done ?_
  refine Gx.thenN ?_
  refine Gx.block ?_
  refine Gx.loop (ι := Nat × (List (Nat × Nat)) × (Nat → Bool)) (fun ξ => (ξ.1 ≤ l.length) ∧ (LInv l ξ.1 ξ.2.1 ξ.2.2) ∧ (ξ.2.1.length ≤ ξ.1)) (fun ξ => [(5, .map (some b1)), (6, ptr b2 0), (17, hv), (18, .int .i64 ((l.length : Nat) : Int)), (19, .int .i64 ((ξ.1 : Nat) : Int))]) (fun ξ => [Hp.rec_ b2 [.bool (ξ.2.2 0), .bool (ξ.2.2 1), .bool (ξ.2.2 2), .bool (ξ.2.2 3), .bool (ξ.2.2 4), .bool (ξ.2.2 5)], Hp.map Try.prog 3 natL natI b1 ξ.2.1]) (fun ξ => l.length - ξ.1) (0, [], (fun _ => false)) ⟨by first | omega | (dsimp only; omega), LInv.start, Nat.le_refl _⟩ ((.cons rfl (.cons rfl (.cons rfl (.cons rfl (.cons rfl .nil)))))) rfl ?_
  rintro ⟨k, ms, L⟩ ⟨hk, hI, hml⟩
  dsimp only at hk hI hml
  refine Gx.know (m' := [(5, .map (some b1)), (6, ptr b2 0), (17, hv), (18, .int .i64 ((l.length : Nat) : Int)), (19, .int .i64 ((k : Nat) : Int))]) (.cons rfl (.cons rfl (.cons rfl (.cons rfl (.cons rfl .nil))))) (Gx.norm (l' := [Hp.rec_ b2 [.bool (L 0), .bool (L 1), .bool (L 2), .bool (L 3), .bool (L 4), .bool (L 5)], Hp.map Try.prog 3 natL natI b1 ms]) rfl ?_)
  refine Gx.seq ?_
  refine Gx.region ?_
  refine Gx.val rfl rfl rfl (val_lss rfl rfl rfl) ?_
  refine Gx.done ?_
  refine Gx.thenN ?_
  refine Gx.seq ?_
  refine Gx.dec rfl (fun h3 => ?_) (fun h3 => ?_)
  · refine Gx.skip ?_
    refine Gx.thenN ?_
    refine Gx.seq ?_
    refine Gx.block ?_
    refine Gx.seq ?_
    refine Gx.region ?_
    obtain ⟨x4, hx4⟩ := get_of_lt (xs := l) (k := k) (by omega)
    refine Gx.val rfl rfl rfl (val_ixa rfl Try.underlying22 Try.ty30 rfl rfl (j := k) (rfl) (reach_base hs hx4)) ?_
    refine Gx.val rfl rfl rfl (Val.cast (val_loadA rfl Try.ty30 rfl rfl rfl (cells_base hs hx4)) (v' := .agg #[.int .i64 x4.kind, .int .i64 ((x4.txn : Nat) : Int), .int .i64 ((x4.item : Nat) : Int)]) rfl) ?_
    refine Gx.eff rfl rfl rfl (eff_alloc rfl Try.ty30 (vs := [.int .i64 0, .int .i64 0, .int .i64 0]) rfl) ?_
    rintro _ _ ⟨b5, rfl, rfl⟩
    refine Gx.eff0 rfl rfl (eff_store rfl Try.ty30 rfl rfl (us := [.int .i64 x4.kind, .int .i64 ((x4.txn : Nat) : Int), .int .i64 ((x4.item : Nat) : Int)]) rfl rfl rfl (k := 0) rfl (rfl) (vs' := [.int .i64 x4.kind, .int .i64 ((x4.txn : Nat) : Int), .int .i64 ((x4.item : Nat) : Int)]) (rfl) (l' := [Hp.rec_ b5 [.int .i64 x4.kind, .int .i64 ((x4.txn : Nat) : Int), .int .i64 ((x4.item : Nat) : Int)], Hp.rec_ b2 [.bool (L 0), .bool (L 1), .bool (L 2), .bool (L 3), .bool (L 4), .bool (L 5)], Hp.map Try.prog 3 natL natI b1 ms]) rfl) ?_
    rintro _ _ rfl
    refine Gx.done ?_
    refine Gx.thenN ?_
    refine Gx.seq ?_
    have hxb := hok.all _ _ hx4
    refine Gx.fact (p := ms.Pairwise (fun p q => p.1 ≠ q.1)) (fun w H => (H.at_ (k := 2) rfl).mapNodup Try.kN.keyed) (fun hmn => ?_)
    rcases hgm : getM ms x4.item with _ | T
    · refine Gx.region ?_
      refine Gx.val rfl rfl rfl (val_move rfl rfl) ?_
      refine Gx.val rfl rfl rfl (Val.cast (val_fieldAddr rfl Try.underlying30 rfl Try.ty3 rfl rfl) (v' := ptr b5 2) rfl) ?_
      refine Gx.val rfl rfl rfl (val_load rfl Try.ty3 rfl rfl (cell_rec (k := 0) rfl rfl)) ?_
      refine Gx.val rfl rfl rfl (val_lookupN rfl Try.underlying42 Try.kN Try.ty3 rfl rfl (i := x4.item) (by omega) (k := 2) rfl (hgm)) ?_
      refine Gx.val rfl rfl rfl (val_move rfl rfl) ?_
      refine Gx.val rfl rfl rfl (val_extract rfl rfl rfl) ?_
      refine Gx.val rfl rfl rfl (val_extract rfl rfl rfl) ?_
      refine Gx.val rfl rfl rfl (val_assign rfl rfl) ?_
      refine Gx.val rfl rfl rfl (val_assign rfl rfl) ?_
      refine Gx.done ?_
      refine Gx.thenN ?_
      refine Gx.block ?_
      refine Gx.seq ?_
      refine Gx.region ?_
      refine Gx.val rfl rfl rfl (Val.cast (val_fieldAddr rfl Try.underlying30 rfl Try.ty3 rfl rfl) (v' := ptr b5 0) rfl) ?_
      refine Gx.val rfl rfl rfl (val_load rfl Try.ty3 rfl rfl (cell_rec (k := 0) rfl rfl)) ?_
      refine Gx.val rfl rfl rfl (val_eql rfl rfl rfl) ?_
      refine Gx.val rfl rfl rfl (val_assign rfl rfl) ?_
      refine Gx.done ?_
      refine Gx.thenN ?_
      refine Gx.dec rfl (fun h6 => ?_) (fun h6 => ?_)
      · refine Gx.seq ?_
        refine Gx.seq ?_
        refine Gx.region ?_
        refine Gx.val rfl rfl rfl (val_move rfl rfl) ?_
        refine Gx.val rfl rfl rfl (val_move rfl rfl) ?_
        refine Gx.valg rfl rfl rfl rfl rfl (Val.cast (val_fieldAddr rfl Try.underlying30 rfl Try.ty3 rfl rfl) (v' := ptr b5 1) rfl) ?_
        refine Gx.valg rfl rfl rfl rfl rfl (val_load rfl Try.ty3 rfl rfl (cell_rec (k := 0) rfl rfl)) ?_
        refine Gx.valg rfl rfl rfl rfl rfl (Val.cast (val_ixaA rfl Try.underlying43 Try.ty4 rfl rfl (j := x4.txn) (rfl) (by omega)) (v' := ptr b2 (0 + x4.txn * 1)) rfl) ?_
        refine Gx.valg rfl rfl rfl rfl rfl (val_load rfl Try.ty4 rfl rfl (cell_rec (u := .bool (L x4.txn)) (k := 1) rfl (by rcases (show x4.txn = 0 ∨ x4.txn = 1 ∨ x4.txn = 2 ∨ x4.txn = 3 ∨ x4.txn = 4 ∨ x4.txn = 5 by omega) with e | e | e | e | e | e <;> rw [e] <;> rfl))) ?_
        refine Gx.val rfl rfl rfl (val_pickF rfl rfl rfl) ?_
        refine Gx.done ?_
        refine Gx.thenN ?_
        refine Gx.bool rfl (fun h7 => ?_) (fun h7 => ?_)
        · refine Gx.seq ?_
          refine Gx.region ?_
          refine Gx.val rfl rfl rfl (val_assign rfl rfl) ?_
          refine Gx.val rfl rfl rfl (val_assign rfl rfl) ?_
          refine Gx.done ?_
          refine Gx.thenN ?_
          refine Gx.ret ?_
          refine Gx.thenR ?_
          refine Gx.blkR ?_
          refine Gx.blkR ?_
          refine Gx.thenR ?_
          refine Gx.thenR ?_
          refine Gx.blkR ?_
          refine Gx.thenR ?_
          refine Gx.ret2 Try.results14 rfl rfl ?_
          exact ⟨false, rfl, fun e => (by cases e), fun e => by subst e; have h9 := (List.getElem?_eq_some_iff.1 hx4).1; simp at h9⟩
        · refine Gx.skip ?_
          refine Gx.thenN ?_
          refine Gx.region ?_
          refine Gx.val rfl rfl rfl (val_move rfl rfl) ?_
          refine Gx.val rfl rfl rfl (Val.cast (val_fieldAddr rfl Try.underlying30 rfl Try.ty3 rfl rfl) (v' := ptr b5 2) rfl) ?_
          refine Gx.val rfl rfl rfl (val_load rfl Try.ty3 rfl rfl (cell_rec (k := 0) rfl rfl)) ?_
          refine Gx.val rfl rfl rfl (Val.cast (val_fieldAddr rfl Try.underlying30 rfl Try.ty3 rfl rfl) (v' := ptr b5 1) rfl) ?_
          refine Gx.val rfl rfl rfl (val_load rfl Try.ty3 rfl rfl (cell_rec (k := 0) rfl rfl)) ?_
          refine Gx.eff0 rfl rfl (eff_mapUpdate (vf := natI) rfl Try.underlying42 Try.kN natK rfl rfl rfl (i := x4.item) (r := x4.txn) (by omega) (k := 2) rfl (show ms.length < maxLen from by unfold maxLen; omega) (l' := [Hp.rec_ b5 [.int .i64 x4.kind, .int .i64 ((x4.txn : Nat) : Int), .int .i64 ((x4.item : Nat) : Int)], Hp.rec_ b2 [.bool (L 0), .bool (L 1), .bool (L 2), .bool (L 3), .bool (L 4), .bool (L 5)], Hp.map Try.prog 3 natL natI b1 (putM ms x4.item x4.txn)]) rfl) ?_
          rintro _ _ rfl
          refine Gx.done ?_
          refine Gx.blkN ?_
          refine Gx.blkN ?_
          refine Gx.thenN ?_
          refine Gx.region ?_
          refine Gx.val rfl rfl rfl (val_add rfl rfl rfl (r := ((k + 1 : Nat) : Int)) (w64 (by omega) (by omega))) ?_
          refine Gx.val rfl rfl rfl (val_move rfl rfl) ?_
          refine Gx.done ?_
          refine Gx.thenN ?_
          refine Gx.drop 0 rfl ?_
          exact Gx.round (k + 1, putM ms x4.item x4.txn, L) ⟨by first | omega | (dsimp only; omega), hI.lock hok hx4 (by omega) hgm (by simpa using h7), by have h0 := putM_length ms x4.item x4.txn; rw [h0]; split <;> omega⟩ (by first | omega | (dsimp only; omega)) ((.cons rfl (.cons rfl (.cons rfl (.cons rfl (.cons rfl .nil)))))) rfl
      · refine Gx.seq ?_
        refine Gx.region ?_
        refine Gx.val rfl rfl rfl (val_move rfl rfl) ?_
        refine Gx.val rfl rfl rfl (Val.cast (val_not rfl rfl) (v' := .bool true) rfl) ?_
        refine Gx.val rfl rfl rfl (val_move rfl rfl) ?_
        refine Gx.skipg rfl rfl rfl rfl rfl rfl ?_
        refine Gx.skipg rfl rfl rfl rfl rfl rfl ?_
        refine Gx.skipg rfl rfl rfl rfl rfl rfl ?_
        refine Gx.skipg rfl rfl rfl rfl rfl rfl ?_
        refine Gx.val rfl rfl rfl (val_pickT rfl rfl rfl) ?_
        refine Gx.val rfl rfl rfl (val_assign rfl rfl) ?_
        refine Gx.done ?_
        refine Gx.thenN ?_
        refine Gx.t rfl ?_
        refine Gx.seq ?_
        refine Gx.region ?_
        refine Gx.val rfl rfl rfl (val_assign rfl rfl) ?_
        refine Gx.val rfl rfl rfl (val_assign rfl rfl) ?_
        refine Gx.done ?_
        refine Gx.thenN ?_
        refine Gx.ret ?_
        refine Gx.blkR ?_
        refine Gx.blkR ?_
        refine Gx.thenR ?_
        refine Gx.thenR ?_
        refine Gx.blkR ?_
        refine Gx.thenR ?_
        refine Gx.ret2 Try.results14 rfl rfl ?_
        exact ⟨false, rfl, fun e => (by cases e), fun e => by subst e; have h9 := (List.getElem?_eq_some_iff.1 hx4).1; simp at h9⟩
    · refine Gx.region ?_
      refine Gx.val rfl rfl rfl (val_move rfl rfl) ?_
      refine Gx.val rfl rfl rfl (Val.cast (val_fieldAddr rfl Try.underlying30 rfl Try.ty3 rfl rfl) (v' := ptr b5 2) rfl) ?_
      refine Gx.val rfl rfl rfl (val_load rfl Try.ty3 rfl rfl (cell_rec (k := 0) rfl rfl)) ?_
      refine Gx.val rfl rfl rfl (val_lookupS rfl Try.underlying42 Try.kN Try.ty3 rfl rfl (i := x4.item) (by omega) (k := 2) rfl (hgm)) ?_
      refine Gx.val rfl rfl rfl (val_move rfl rfl) ?_
      refine Gx.val rfl rfl rfl (val_extract rfl rfl rfl) ?_
      refine Gx.val rfl rfl rfl (val_extract rfl rfl rfl) ?_
      refine Gx.val rfl rfl rfl (val_assign rfl rfl) ?_
      refine Gx.val rfl rfl rfl (val_assign rfl rfl) ?_
      refine Gx.done ?_
      refine Gx.thenN ?_
      refine Gx.block ?_
      refine Gx.seq ?_
      refine Gx.region ?_
      refine Gx.val rfl rfl rfl (Val.cast (val_fieldAddr rfl Try.underlying30 rfl Try.ty3 rfl rfl) (v' := ptr b5 0) rfl) ?_
      refine Gx.val rfl rfl rfl (val_load rfl Try.ty3 rfl rfl (cell_rec (k := 0) rfl rfl)) ?_
      refine Gx.val rfl rfl rfl (val_eql rfl rfl rfl) ?_
      refine Gx.val rfl rfl rfl (val_assign rfl rfl) ?_
      refine Gx.done ?_
      refine Gx.thenN ?_
      refine Gx.dec rfl (fun h8 => ?_) (fun h8 => ?_)
      · refine Gx.seq ?_
        refine Gx.seq ?_
        refine Gx.region ?_
        refine Gx.val rfl rfl rfl (val_move rfl rfl) ?_
        refine Gx.val rfl rfl rfl (val_move rfl rfl) ?_
        refine Gx.skipg rfl rfl rfl rfl rfl rfl ?_
        refine Gx.skipg rfl rfl rfl rfl rfl rfl ?_
        refine Gx.skipg rfl rfl rfl rfl rfl rfl ?_
        refine Gx.skipg rfl rfl rfl rfl rfl rfl ?_
        refine Gx.val rfl rfl rfl (val_pickT rfl rfl rfl) ?_
        refine Gx.done ?_
        refine Gx.thenN ?_
        refine Gx.t rfl ?_
        refine Gx.seq ?_
        refine Gx.region ?_
        refine Gx.val rfl rfl rfl (val_assign rfl rfl) ?_
        refine Gx.val rfl rfl rfl (val_assign rfl rfl) ?_
        refine Gx.done ?_
        refine Gx.thenN ?_
        refine Gx.ret ?_
        refine Gx.thenR ?_
        refine Gx.blkR ?_
        refine Gx.blkR ?_
        refine Gx.thenR ?_
        refine Gx.thenR ?_
        refine Gx.blkR ?_
        refine Gx.thenR ?_
        refine Gx.ret2 Try.results14 rfl rfl ?_
        exact ⟨false, rfl, fun e => (by cases e), fun e => by subst e; have h9 := (List.getElem?_eq_some_iff.1 hx4).1; simp at h9⟩
      · refine Gx.seq ?_
        refine Gx.region ?_
        refine Gx.val rfl rfl rfl (val_move rfl rfl) ?_
        refine Gx.val rfl rfl rfl (Val.cast (val_not rfl rfl) (v' := .bool false) rfl) ?_
        refine Gx.val rfl rfl rfl (val_move rfl rfl) ?_
        refine Gx.valg rfl rfl rfl rfl rfl (val_move rfl rfl) ?_
        refine Gx.valg rfl rfl rfl rfl rfl (Val.cast (val_fieldAddr rfl Try.underlying30 rfl Try.ty3 rfl rfl) (v' := ptr b5 1) rfl) ?_
        refine Gx.valg rfl rfl rfl rfl rfl (val_load rfl Try.ty3 rfl rfl (cell_rec (k := 0) rfl rfl)) ?_
        refine Gx.valg rfl rfl rfl rfl rfl (val_neq rfl rfl rfl) ?_
        refine Gx.val rfl rfl rfl (val_pickF rfl rfl rfl) ?_
        refine Gx.val rfl rfl rfl (val_assign rfl rfl) ?_
        refine Gx.done ?_
        refine Gx.thenN ?_
        refine Gx.dec rfl (fun h9 => ?_) (fun h9 => ?_)
        · refine Gx.seq ?_
          refine Gx.region ?_
          refine Gx.val rfl rfl rfl (val_assign rfl rfl) ?_
          refine Gx.val rfl rfl rfl (val_assign rfl rfl) ?_
          refine Gx.done ?_
          refine Gx.thenN ?_
          refine Gx.ret ?_
          refine Gx.blkR ?_
          refine Gx.blkR ?_
          refine Gx.thenR ?_
          refine Gx.thenR ?_
          refine Gx.blkR ?_
          refine Gx.thenR ?_
          refine Gx.ret2 Try.results14 rfl rfl ?_
          exact ⟨false, rfl, fun e => (by cases e), fun e => by subst e; have h9 := (List.getElem?_eq_some_iff.1 hx4).1; simp at h9⟩
        · refine Gx.seq ?_
          refine Gx.region ?_
          refine Gx.val rfl rfl rfl (Val.cast (val_fieldAddr rfl Try.underlying30 rfl Try.ty3 rfl rfl) (v' := ptr b5 0) rfl) ?_
          refine Gx.val rfl rfl rfl (val_load rfl Try.ty3 rfl rfl (cell_rec (k := 0) rfl rfl)) ?_
          refine Gx.val rfl rfl rfl (val_eql rfl rfl rfl) ?_
          refine Gx.val rfl rfl rfl (val_assign rfl rfl) ?_
          refine Gx.done ?_
          refine Gx.thenN ?_
          refine Gx.dec rfl (fun h10 => ?_) (fun h10 => ?_)
          · refine Gx.seq ?_
            refine Gx.region ?_
            refine Gx.val rfl rfl rfl (val_move rfl rfl) ?_
            refine Gx.val rfl rfl rfl (Val.cast (val_fieldAddr rfl Try.underlying30 rfl Try.ty3 rfl rfl) (v' := ptr b5 2) rfl) ?_
            refine Gx.val rfl rfl rfl (val_load rfl Try.ty3 rfl rfl (cell_rec (k := 0) rfl rfl)) ?_
            refine Gx.eff0 rfl rfl (eff_delete rfl Try.underlying42 Try.kN natK rfl rfl (i := x4.item) (by omega) (k := 2) rfl (l' := [Hp.rec_ b5 [.int .i64 x4.kind, .int .i64 ((x4.txn : Nat) : Int), .int .i64 ((x4.item : Nat) : Int)], Hp.rec_ b2 [.bool (L 0), .bool (L 1), .bool (L 2), .bool (L 3), .bool (L 4), .bool (L 5)], Hp.map Try.prog 3 natL natI b1 (delM ms x4.item)]) rfl) ?_
            rintro _ _ rfl
            refine Gx.done ?_
            refine Gx.thenN ?_
            refine Gx.region ?_
            refine Gx.val rfl rfl rfl (Val.cast (val_fieldAddr rfl Try.underlying30 rfl Try.ty3 rfl rfl) (v' := ptr b5 1) rfl) ?_
            refine Gx.val rfl rfl rfl (val_load rfl Try.ty3 rfl rfl (cell_rec (k := 0) rfl rfl)) ?_
            refine Gx.val rfl rfl rfl (Val.cast (val_ixaA rfl Try.underlying43 Try.ty4 rfl rfl (j := x4.txn) (rfl) (by omega)) (v' := ptr b2 (0 + x4.txn * 1)) rfl) ?_
            refine Gx.eff0 rfl rfl (eff_store rfl Try.ty4 rfl rfl (us := [.bool true]) rfl rfl rfl (k := 1) rfl (ble6 (by omega)) (vs' := [.bool ((updL L x4.txn) 0), .bool ((updL L x4.txn) 1), .bool ((updL L x4.txn) 2), .bool ((updL L x4.txn) 3), .bool ((updL L x4.txn) 4), .bool ((updL L x4.txn) 5)]) (by rcases (show x4.txn = 0 ∨ x4.txn = 1 ∨ x4.txn = 2 ∨ x4.txn = 3 ∨ x4.txn = 4 ∨ x4.txn = 5 by omega) with e | e | e | e | e | e <;> rw [e] <;> rfl) (l' := [Hp.rec_ b5 [.int .i64 x4.kind, .int .i64 ((x4.txn : Nat) : Int), .int .i64 ((x4.item : Nat) : Int)], Hp.rec_ b2 [.bool ((updL L x4.txn) 0), .bool ((updL L x4.txn) 1), .bool ((updL L x4.txn) 2), .bool ((updL L x4.txn) 3), .bool ((updL L x4.txn) 4), .bool ((updL L x4.txn) 5)], Hp.map Try.prog 3 natL natI b1 (delM ms x4.item)]) rfl) ?_
            rintro _ _ rfl
            refine Gx.done ?_
            refine Gx.blkN ?_
            refine Gx.blkN ?_
            refine Gx.thenN ?_
            refine Gx.region ?_
            refine Gx.val rfl rfl rfl (val_add rfl rfl rfl (r := ((k + 1 : Nat) : Int)) (w64 (by omega) (by omega))) ?_
            refine Gx.val rfl rfl rfl (val_move rfl rfl) ?_
            refine Gx.done ?_
            refine Gx.thenN ?_
            refine Gx.drop 0 rfl ?_
            exact Gx.round (k + 1, delM ms x4.item, (updL L x4.txn)) ⟨by first | omega | (dsimp only; omega), hI.unlock hok hmn hx4 (by omega) (by rw [hgm]; exact congrArg some (by omega)), by have := delM_le ms x4.item; dsimp only; omega⟩ (by first | omega | (dsimp only; omega)) ((.cons rfl (.cons rfl (.cons rfl (.cons rfl (.cons rfl .nil)))))) rfl
          · refine Gx.skip ?_
            refine Gx.blkN ?_
            refine Gx.blkN ?_
            refine Gx.thenN ?_
            refine Gx.region ?_
            refine Gx.val rfl rfl rfl (val_add rfl rfl rfl (r := ((k + 1 : Nat) : Int)) (w64 (by omega) (by omega))) ?_
            refine Gx.val rfl rfl rfl (val_move rfl rfl) ?_
            refine Gx.done ?_
            refine Gx.thenN ?_
            refine Gx.drop 0 rfl ?_
            exact Gx.round (k + 1, ms, L) ⟨by first | omega | (dsimp only; omega), hI.data hx4 (by omega) (by rw [hgm]; exact congrArg some (by omega)), by dsimp only; omega⟩ (by first | omega | (dsimp only; omega)) ((.cons rfl (.cons rfl (.cons rfl (.cons rfl (.cons rfl .nil)))))) rfl
  · refine Gx.exit ?_
    refine Gx.thenE ?_
    refine Gx.thenE ?_
    refine Gx.blkE ?_
    refine Gx.thenN ?_
    refine Gx.seq ?_
    refine Gx.region ?_
    refine Gx.val rfl rfl rfl (val_assign rfl rfl) ?_
    refine Gx.val rfl rfl rfl (val_assign rfl rfl) ?_
    refine Gx.done ?_
    refine Gx.thenN ?_
    refine Gx.ret ?_
    refine Gx.ret2 Try.results14 rfl rfl ?_
    exact ⟨true, rfl, fun _ => ⟨fu l, fun a b ⟨j, i, x, y, h1, h2, h3, h4, e1, e2⟩ => e1 ▸ e2 ▸ hI.cl j i x y h1 (by have := (List.getElem?_eq_some_iff.1 h3).1; omega) h2 h3 h4⟩, fun _ => rfl⟩

theorem locked_no {W : World} {hv : Value} {l : List Act} (hok : ¬ OkA l) (hs : SlS FR 3 W hv l) :
    Calls Try.prog 14 #[hv] W fun e w' => ∃ v, e = .returned v ∧ (∃ (b : Bool) (c : Int), v = .tuple #[.bool b, .int .i64 c] ∧ c ≠ 0) ∧ Below W.heap.size W w' := by
  refine calls_rel (R := fun v => ∃ (b : Bool) (c : Int), v = .tuple #[.bool b, .int .i64 c] ∧ c ≠ 0) (Gx.enter (l := []) Try.func14 rfl Try.ntmps14 rfl (Sat.start W) ?_)
  refine Gx.know (m' := [(0, hv)]) (.cons rfl .nil) ?_
  refine Gx.seq ?_
  refine Gx.region ?_
  refine Gx.val rfl rfl rfl (val_assign rfl rfl) ?_
  refine Gx.val rfl rfl rfl (val_assign rfl rfl) ?_
  refine Gx.done ?_
  refine Gx.thenN ?_
  refine Gx.seq ?_
  refine Gx.seq ?_
  refine Gx.region ?_
  refine Gx.val rfl rfl rfl (val_move rfl rfl) ?_
  refine Gx.eff rfl rfl rfl (eff_callE (vs := [hv]) rfl Try.fn16 rfl (R := fun v => ∃ c : Int, v = .int .i64 c ∧ c ≠ 0) (fun w H => check_no (hs.below H.below) hok)) ?_
  rintro _ _ ⟨⟨c1, rfl, hc1⟩, rfl⟩
  refine Gx.val rfl rfl rfl (val_assign rfl rfl) ?_
  refine Gx.done ?_
  refine Gx.thenN ?_
  refine Gx.seq ?_
  refine Gx.region ?_
  refine Gx.val rfl rfl rfl (val_move rfl rfl) ?_
  refine Gx.val rfl rfl rfl (val_neq rfl rfl rfl) ?_
  refine Gx.done ?_
  refine Gx.thenN ?_
  refine Gx.decT rfl (by assumption) ?_
  refine Gx.seq ?_
  refine Gx.region ?_
  refine Gx.val rfl rfl rfl (val_move rfl rfl) ?_
  refine Gx.val rfl rfl rfl (val_assign rfl rfl) ?_
  refine Gx.val rfl rfl rfl (val_assign rfl rfl) ?_
  refine Gx.done ?_
  refine Gx.thenN ?_
  refine Gx.ret ?_
  refine Gx.thenR ?_
  refine Gx.ret2 Try.results14 rfl rfl ?_
  exact ⟨_, _, rfl, by assumption⟩

theorem serial_no {W : World} {hv : Value} {l : List Act} (hok : ¬ OkA l) (hs : SlS FR 3 W hv l) :
    Calls Try.prog 8 #[hv] W fun e w' => ∃ v, e = .returned v ∧ (∃ (c : Int), v = .tuple #[.slice none 0 0, .bool false, .int .i64 c] ∧ c ≠ 0) ∧ Below W.heap.size W w' := by
  refine calls_rel (R := fun v => ∃ (c : Int), v = .tuple #[.slice none 0 0, .bool false, .int .i64 c] ∧ c ≠ 0) (Gx.enter (l := []) Try.func8 rfl Try.ntmps8 rfl (Sat.start W) ?_)
  refine Gx.know (m' := [(0, hv)]) (.cons rfl .nil) ?_
  refine Gx.seq ?_
  refine Gx.region ?_
  refine Gx.val rfl rfl rfl (val_assign rfl rfl) ?_
  refine Gx.val rfl rfl rfl (val_assign rfl rfl) ?_
  refine Gx.val rfl rfl rfl (val_assign rfl rfl) ?_
  refine Gx.done ?_
  refine Gx.thenN ?_
  refine Gx.seq ?_
  refine Gx.seq ?_
  refine Gx.region ?_
  refine Gx.val rfl rfl rfl (val_move rfl rfl) ?_
  refine Gx.eff rfl rfl rfl (eff_callE (vs := [hv]) rfl Try.fn16 rfl (R := fun v => ∃ c : Int, v = .int .i64 c ∧ c ≠ 0) (fun w H => check_no (hs.below H.below) hok)) ?_
  rintro _ _ ⟨⟨c1, rfl, hc1⟩, rfl⟩
  refine Gx.val rfl rfl rfl (val_assign rfl rfl) ?_
  refine Gx.done ?_
  refine Gx.thenN ?_
  refine Gx.seq ?_
  refine Gx.region ?_
  refine Gx.val rfl rfl rfl (val_move rfl rfl) ?_
  refine Gx.val rfl rfl rfl (val_neq rfl rfl rfl) ?_
  refine Gx.done ?_
  refine Gx.thenN ?_
  refine Gx.decT rfl (by assumption) ?_
  refine Gx.seq ?_
  refine Gx.region ?_
  refine Gx.val rfl rfl rfl (val_move rfl rfl) ?_
  refine Gx.val rfl rfl rfl (val_assign rfl rfl) ?_
  refine Gx.val rfl rfl rfl (val_assign rfl rfl) ?_
  refine Gx.val rfl rfl rfl (val_assign rfl rfl) ?_
  refine Gx.done ?_
  refine Gx.thenN ?_
  refine Gx.ret ?_
  refine Gx.thenR ?_
  refine Gx.ret3 Try.results8 rfl rfl rfl ?_
  exact ⟨_, rfl, by assumption⟩

end Go.Proofs.Ytcepfpbhfobbeaa
