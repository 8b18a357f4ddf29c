/- What is told is an order, and none stands ahead of it. No condition. -/
import Derived.Test.YtocgifddjpbmlaaB3
namespace Go.Proofs.Ytocgifddjpbmlaa
open Go.RowKit
set_option linter.unusedVariables false
set_option linter.unusedSimpArgs false
set_option maxRecDepth 100000

def regsZ (h : List Op) (zs : List Int) : Nat → Int := regsL h (zs.map Int.toNat)
def stepP (h : List Op) (xs : List Int) (q : Nat) (z : Int) (a : Op) : Prop := 0 ≤ z ∧ h[z.toNat]? = some a ∧ ¬ z ∈ xs.take q ∧ (∀ (j : Nat) (b : Op), (j : Int) ∈ xs.drop (q + 1) → h[j]? = some b → ¬ aheadB b a = true) ∧ (a.write = true ∨ (0 ≤ a.to ∧ regsZ h (xs.take q) a.reg.toNat = a.val))
def PO (h : List Op) (xs : List Int) (k : Nat) : Prop := ∀ (q : Nat) (z : Int), q < k → xs[q]? = some z → ∃ a, stepP h xs q z a
def IsOrd (h : List Op) (xs : List Int) : Prop := (∀ (i : Nat) (a : Op), h[i]? = some a → 0 ≤ a.to → (i : Int) ∈ xs) ∧ PO h xs xs.length
theorem regsZ_snoc {h : List Op} {xs : List Int} {k : Nat} {z : Int} {a : Op} (hz : xs[k]? = some z) (ha : h[z.toNat]? = some a) : regsZ h (xs.take (k + 1)) = stepR (regsZ h (xs.take k)) a := by
  unfold regsZ
  rw [take_of hz, List.map_append, List.map_cons, List.map_nil, regsL_snoc ha]
theorem Ext.pre {h : List Op} {l m : List Nat} (E : Ext h l m) : m.take l.length = l ∧ l.length ≤ m.length := by
  induction E with
  | done => exact ⟨List.take_length, Nat.le_refl _⟩
  | @step l m i hm E ih =>
    obtain ⟨h1, h2⟩ := ih
    rw [List.length_append, List.length_singleton] at h1 h2
    refine ⟨?_, by omega⟩
    have : (m.take (l.length + 1)).take l.length = (l ++ [i]).take l.length := by rw [h1]
    rw [List.take_take, Nat.min_eq_left (Nat.le_succ _), List.take_left'  rfl] at this
    exact this
theorem Ext.full {h : List Op} {l m : List Nat} (E : Ext h l m) : fullB h m = true := by
  induction E with
  | done hf => exact hf
  | step hm E ih => exact ih
theorem Ext.at {h : List Op} {l m : List Nat} (E : Ext h l m) : ∀ (q i : Nat), l.length ≤ q → m[q]? = some i → mayB h (m.take q) i = true := by
  induction E with
  | done => intro q i hq hi; have := (List.getElem?_eq_some_iff.1 hi).1; omega
  | @step l m i hm E ih =>
    intro q j hq hj
    rcases Nat.lt_or_eq_of_le hq with hlt | he
    · exact ih q j (by rw [List.length_append, List.length_singleton]; omega) hj
    · obtain ⟨p1, p2⟩ := E.pre
      rw [List.length_append, List.length_singleton] at p1 p2
      have h0 := (Ext.step hm E).pre.1
      subst he
      rw [h0]
      have : (m.take (l.length + 1))[l.length]? = some i := by rw [p1]; simp
      rw [List.getElem?_take, if_pos (Nat.lt_succ_self _), hj] at this
      cases this; exact hm
theorem ext_from {h : List Op} {m : List Nat} (hf : fullB h m = true) (hs : ∀ q i, m[q]? = some i → mayB h (m.take q) i = true) : ∀ (d k : Nat), m.length - k = d → k ≤ m.length → Ext h (m.take k) m := by
  intro d
  induction d with
  | zero =>
    intro k hd hk
    obtain rfl : k = m.length := by omega
    rw [List.take_length]; exact .done hf
  | succ d ih =>
    intro k hd hk
    obtain ⟨i, hi⟩ := get_of_lt (xs := m) (k := k) (by omega)
    exact .step (hs k i hi) (by have := ih (k + 1) (by omega) (by omega); rwa [take_of hi] at this)
theorem cast_toNat {xs : List Int} (h : ∀ z ∈ xs, 0 ≤ z) : (xs.map Int.toNat).map (Nat.cast : Nat → Int) = xs := by
  rw [List.map_map]
  conv => rhs; rw [← List.map_id xs]
  exact List.map_congr_left fun z hz => by have := h z hz; simp; omega
theorem toNat_cast (m : List Nat) : (m.map (Nat.cast : Nat → Int)).map Int.toNat = m := by
  rw [List.map_map]
  conv => rhs; rw [← List.map_id m]
  exact List.map_congr_left fun z hz => by simp
theorem isord_ext {h : List Op} {xs : List Int} (hok : OkH h) (H : IsOrd h xs) : ∃ m : List Nat, xs = m.map Nat.cast ∧ Ext h [] m := by
  obtain ⟨h1, h2⟩ := H
  have hpos : ∀ z ∈ xs, 0 ≤ z := fun z hz => by
    obtain ⟨q, hq⟩ := List.getElem?_of_mem hz
    obtain ⟨a, ha, _⟩ := h2 q z (List.getElem?_eq_some_iff.1 hq).1 hq
    exact ha
  have hm := cast_toNat hpos
  refine ⟨xs.map Int.toNat, hm.symm, ?_⟩
  have hin : ∀ (j : Nat) (ys : List Int), (∀ z ∈ ys, 0 ≤ z) → (j ∈ ys.map Int.toNat ↔ (j : Int) ∈ ys) := fun j ys hy => by
    rw [List.mem_map]
    exact ⟨fun ⟨z, hz, e⟩ => by have := hy z hz; rw [show (j : Int) = z by omega]; exact hz, fun hj => ⟨_, hj, by simp⟩⟩
  refine ext_from (m := xs.map Int.toNat) (fullB_iff.2 fun i a hi h0 => (hin i xs hpos).2 (h1 i a hi h0)) (fun q i hi => ?_) _ 0 rfl (Nat.zero_le _)
  rw [List.getElem?_map] at hi
  cases e : xs[q]? with
  | none => rw [e] at hi; cases hi
  | some z =>
    rw [e] at hi; cases hi
    obtain ⟨a, p1, p2, p3, p4, p5⟩ := h2 q z (List.getElem?_eq_some_iff.1 e).1 e
    have hpt : ∀ z ∈ xs.take q, 0 ≤ z := fun z hz => hpos z (List.mem_of_mem_take hz)
    have hzz : ((z.toNat : Nat) : Int) = z := by omega
    rw [← List.map_take]
    refine (mayB_iff p2).2 ⟨fun hmm => p3 (hzz ▸ (hin _ _ hpt).1 hmm), p5, fun j b hj hjn hab => ?_⟩
    by_cases hjx : (j : Int) ∈ xs
    · have hsp : xs = xs.take q ++ z :: xs.drop (q + 1) := by
        conv => lhs; rw [← List.take_append_drop q xs]
        rw [List.drop_eq_getElem_cons (List.getElem?_eq_some_iff.1 e).1, (List.getElem?_eq_some_iff.1 e).2]
      rw [hsp] at hjx
      rcases List.mem_append.1 hjx with q1 | q1
      · exact hjn ((hin _ _ hpt).2 q1)
      · rcases List.mem_cons.1 q1 with q2 | q2
        · have e2 : j = z.toNat := by omega
          rw [e2, p2] at hj; cases hj
          have := hok.reg _ _ p2
          have := aheadB_iff.1 hab
          omega
        · exact p4 j b q2 hj hab
    · have := aheadB_iff.1 hab
      exact hjx (h1 j b hj this.1)
theorem ext_isord {h : List Op} {m : List Nat} (E : Ext h [] m) : IsOrd h (m.map Nat.cast) := by
  have G := E.gd (Gd.nil h)
  refine ⟨fun i a hi h0 => List.mem_map.2 ⟨i, fullB_iff.1 E.full i a hi h0, rfl⟩, fun q z hq hz => ?_⟩
  rw [List.getElem?_map] at hz
  cases e : m[q]? with
  | none => rw [e] at hz; cases hz
  | some i =>
    rw [e] at hz; cases hz
    have hm := E.at q i (Nat.zero_le _) e
    obtain ⟨a, ha⟩ := get_of_lt (mayB_lt hm).1
    obtain ⟨h1, h2, h3⟩ := (mayB_iff ha).1 hm
    refine ⟨a, by omega, by simpa using ha, ?_, fun j b hj hb => ?_, ?_⟩
    · rw [← List.map_take]
      intro hmm
      obtain ⟨j, hj, e2⟩ := List.mem_map.1 hmm
      exact h1 ((show j = i by omega) ▸ hj)
    · rw [← List.map_drop] at hj
      obtain ⟨j', hj', e2⟩ := List.mem_map.1 hj
      obtain rfl : j' = j := by omega
      refine h3 j' b hb fun hmt => ?_
      have hnd : (m.take (q + 1) ++ m.drop (q + 1)).Nodup := by rw [List.take_append_drop]; exact G.nd
      rw [List.nodup_append] at hnd
      exact hnd.2.2 j' (by rw [take_of e]; exact List.mem_append_left _ hmt) j' hj' rfl
    · unfold regsZ; rw [← List.map_take, toNat_cast]; exact h2
/-- none stands ahead of the first one -/
theorem lexFL {h : List Op} {l m' : List Nat} (E : Ext h l m') : ∀ m, Gd h l → FL h l = some m → (∃ q x y, m.take q = m'.take q ∧ m[q]? = some x ∧ m'[q]? = some y ∧ x < y) ∨ (m.length ≤ m'.length ∧ m = m'.take m.length) := by
  induction E with
  | @done l hf =>
    intro m G hm
    rw [FL_eq G, if_pos hf] at hm
    cases hm
    exact .inr ⟨Nat.le_refl _, by rw [List.take_length]⟩
  | @step l m' i hi E ih =>
    intro m G hm
    have hpre := (Ext.step hi E).pre
    have hm0 := hm
    rw [FL_eq G] at hm
    by_cases hf : fullB h l = true
    · rw [if_pos hf] at hm; cases hm
      exact .inr ⟨hpre.2, hpre.1.symm⟩
    · rw [if_neg hf] at hm
      obtain ⟨i', hi', hfi, hno⟩ := fs_find _ hm
      have hsome := FL_of E (G.may hi)
      have hle : i' ≤ i := Nat.le_of_not_lt fun hlt => by
        have := hno i hlt
        rw [if_pos hi] at this
        rw [this] at hsome; cases hsome
      split at hfi
      · rename_i hmi
        rcases Nat.lt_or_eq_of_le hle with hlt | rfl
        · have E' := FL_ext _ rfl (G.may hmi) hfi
          have p1 := E'.pre.1
          have p2 := E.pre.1
          have q1 := (Ext.step hmi E').pre.1
          rw [List.length_append, List.length_singleton] at p1 p2
          refine .inl ⟨l.length, i', i, by rw [q1, hpre.1], ?_, ?_, hlt⟩
          · have : (m.take (l.length + 1))[l.length]? = some i' := by rw [p1]; simp
            rwa [List.getElem?_take, if_pos (Nat.lt_succ_self _)] at this
          · have : (m'.take (l.length + 1))[l.length]? = some i := by rw [p2]; simp
            rwa [List.getElem?_take, if_pos (Nat.lt_succ_self _)] at this
        · exact ih m (G.may hi) hfi
      · cases hfi
def LinZ (h : List Op) (v : Value) (w : World) : Prop := ∃ a n c b e zs, v = .tuple #[.slice a n c, .bool b, .int .i64 e] ∧ (e = 0 ↔ OkH h) ∧ (OkH h → b = (FL h []).isSome ∧ zs = ((FL h []).getD []).map (Nat.cast : Nat → Int)) ∧ SlS FZ 1 w (.slice a n c) zs
theorem sls_cast {w : World} {v : Value} {ms : List Nat} (H : SlS FN 1 w v ms) : SlS FZ 1 w v (ms.map (Nat.cast : Nat → Int)) := by
  obtain ⟨a, c, e, hm, hn, hc⟩ := H
  refine ⟨a, c, by rw [List.length_map]; exact e, by rw [List.length_map]; exact hm, by rw [List.length_map]; exact hn, fun j x hx => ?_⟩
  rw [List.getElem?_map] at hx
  cases e2 : ms[j]? with
  | none => rw [e2] at hx; cases hx
  | some y => rw [e2] at hx; cases hx; exact hc j y e2
theorem linear_z {W : World} {hv : Value} {h : List Op} (hs : SlS FO 6 W hv h) : Calls Try.prog 9 #[hv] W fun e w' => ∃ v, e = .returned v ∧ LinZ h v w' ∧ Below W.heap.size W w' :=
  (linear_new hs).mono fun e w' ⟨v, he, ⟨a, n, c, b, e', ms, hv, h1, h2, h3⟩, hb⟩ => ⟨v, he, ⟨a, n, c, b, e', _, hv, h1, fun hok => ⟨(h2 hok).1, by rw [(h2 hok).2]⟩, sls_cast h3⟩, hb⟩
theorem has_any {W : World} {va : Value} {xs : List Int} (z : Int) (ha : SlS FZ 1 W va xs) : Calls Try.prog 17 #[va, .int .i64 z] W fun e w' => e = .returned (.bool (decide (z ∈ xs))) ∧ Below W.heap.size W w' := by
  have m1 := sls_bd ha
  refine calls_pure (Gx.enter (l := []) Try.func17 rfl Try.ntmps17 rfl (Sat.start W) ?_)
  refine Gx.know (m' := [(0, va), (1, .int .i64 z)]) (.cons rfl (.cons rfl .nil)) ?_
  refine Gx.seq ?_
  refine Gx.region ?_
  refine Gx.val rfl rfl rfl (val_assign rfl rfl) ?_
  refine Gx.done ?_
  refine Gx.thenN ?_
  refine Gx.seq ?_
  refine Gx.seq ?_
  refine Gx.region ?_
  refine Gx.val rfl rfl rfl (val_move rfl rfl) ?_
  refine Gx.val rfl rfl rfl (val_len rfl Try.underlying23 rfl (len_base ha)) ?_
  refine Gx.val rfl rfl rfl (val_move rfl rfl) ?_
  refine Gx.done ?_
  refine Gx.thenN ?_
  refine Gx.block ?_
  refine Gx.loop (ι := Nat) (fun ξ => (ξ ≤ xs.length) ∧ (¬ z ∈ xs.take ξ)) (fun ξ => [(1, .int .i64 z), (7, va), (8, .int .i64 ((xs.length : Nat) : Int)), (9, .int .i64 ((ξ : Nat) : Int))]) (fun ξ => []) (fun ξ => xs.length - ξ) 0 ⟨by first | omega | (dsimp only; omega), by simp⟩ ((.cons rfl (.cons rfl (.cons rfl (.cons rfl .nil))))) rfl ?_
  rintro k ⟨hk, he⟩
  refine Gx.know (m' := [(1, .int .i64 z), (7, va), (8, .int .i64 ((xs.length : Nat) : Int)), (9, .int .i64 ((k : Nat) : Int))]) (.cons rfl (.cons rfl (.cons rfl (.cons rfl .nil)))) (Gx.norm (l' := []) rfl ?_)
  refine Gx.seq ?_
  refine Gx.region ?_
  refine Gx.val rfl rfl rfl (val_lss rfl rfl rfl) ?_
  refine Gx.done ?_
  refine Gx.thenN ?_
  refine Gx.seq ?_
  refine Gx.dec rfl (fun h1 => ?_) (fun h1 => ?_)
  · refine Gx.skip ?_
    refine Gx.thenN ?_
    refine Gx.seq ?_
    refine Gx.block ?_
    refine Gx.seq ?_
    refine Gx.region ?_
    obtain ⟨x2, hx2⟩ := get_of_lt (xs := xs) (k := k) (by omega)
    refine Gx.val rfl rfl rfl (val_ixa rfl Try.underlying23 Try.ty3 rfl rfl (j := k) (rfl) (reach_base ha hx2)) ?_
    refine Gx.val rfl rfl rfl (val_load rfl Try.ty3 rfl rfl (cell_base (i := 0) ha hx2 rfl)) ?_
    refine Gx.val rfl rfl rfl (val_assign rfl rfl) ?_
    refine Gx.done ?_
    refine Gx.thenN ?_
    refine Gx.seq ?_
    refine Gx.region ?_
    refine Gx.val rfl rfl rfl (val_move rfl rfl) ?_
    refine Gx.val rfl rfl rfl (val_move rfl rfl) ?_
    refine Gx.val rfl rfl rfl (val_eql rfl rfl rfl) ?_
    refine Gx.done ?_
    refine Gx.thenN ?_
    refine Gx.dec rfl (fun h3 => ?_) (fun h3 => ?_)
    · refine Gx.seq ?_
      refine Gx.region ?_
      refine Gx.val rfl rfl rfl (val_assign rfl rfl) ?_
      refine Gx.done ?_
      refine Gx.thenN ?_
      refine Gx.ret ?_
      refine Gx.blkR ?_
      refine Gx.thenR ?_
      refine Gx.thenR ?_
      refine Gx.blkR ?_
      refine Gx.thenR ?_
      refine Gx.ret1 Try.results17 rfl ?_
      exact congrArg Value.bool (decide_eq_true (by have q := List.mem_of_getElem? hx2; rw [show z = x2 by omega]; exact q)).symm
    · refine Gx.skip ?_
      refine Gx.blkN ?_
      refine Gx.thenN ?_
      refine Gx.region ?_
      refine Gx.val rfl rfl rfl (val_add rfl rfl rfl (r := ((k + 1 : Nat) : Int)) (w64 (by omega) (by omega))) ?_
      refine Gx.val rfl rfl rfl (val_move rfl rfl) ?_
      refine Gx.done ?_
      refine Gx.thenN ?_
      exact Gx.round (k + 1) ⟨by first | omega | (dsimp only; omega), by rw [take_of hx2, List.mem_append]; rintro (q | q); (exact he q); (simp at q; omega)⟩ (by first | omega | (dsimp only; omega)) ((.cons rfl (.cons rfl (.cons rfl (.cons rfl .nil))))) rfl
  · refine Gx.exit ?_
    refine Gx.thenE ?_
    refine Gx.thenE ?_
    refine Gx.blkE ?_
    refine Gx.thenN ?_
    refine Gx.seq ?_
    refine Gx.region ?_
    refine Gx.val rfl rfl rfl (val_assign rfl rfl) ?_
    refine Gx.done ?_
    refine Gx.thenN ?_
    refine Gx.ret ?_
    refine Gx.ret1 Try.results17 rfl ?_
    exact congrArg Value.bool (decide_eq_false (by rw [List.take_of_length_le (by omega)] at he; exact he)).symm

theorem isorder_any {W : World} {hv va : Value} {h : List Op} {xs : List Int} (hok : OkH h) (hs : SlS FO 6 W hv h) (ha : SlS FZ 1 W va xs) :
    Calls Try.prog 11 #[hv, va] W fun e w' => ∃ v, e = .returned v ∧ (∃ b : Bool, v = .bool b ∧ (b = true ↔ IsOrd h xs)) ∧ Below W.heap.size W w' := by
  have m1 := sls_bd ha
  have m2 := hok.len
  refine calls_rel (R := fun v => ∃ b : Bool, v = .bool b ∧ (b = true ↔ IsOrd h xs)) (Gx.enter (l := []) Try.func11 rfl Try.ntmps11 rfl (Sat.start W) ?_)
  refine Gx.know (m' := [(0, hv), (1, va)]) (.cons rfl (.cons rfl .nil)) ?_
  refine Gx.seq ?_
  refine Gx.region ?_
  refine Gx.val rfl rfl rfl (val_assign rfl rfl) ?_
  refine Gx.done ?_
  refine Gx.thenN ?_
  refine Gx.seq ?_
  refine Gx.seq ?_
  refine Gx.region ?_
  refine Gx.val rfl rfl rfl (val_move rfl rfl) ?_
  refine Gx.val rfl rfl rfl (val_len rfl Try.underlying22 rfl (len_base hs)) ?_
  refine Gx.val rfl rfl rfl (val_move rfl rfl) ?_
  refine Gx.done ?_
  refine Gx.thenN ?_
  refine Gx.block ?_
  refine Gx.loop (ι := Nat) (fun ξ => (ξ ≤ h.length) ∧ (∀ (i : Nat) (a : Op), i < ξ → h[i]? = some a → 0 ≤ a.to → (i : Int) ∈ xs)) (fun ξ => [(0, hv), (1, va), (13, hv), (14, .int .i64 ((h.length : Nat) : Int)), (15, .int .i64 ((ξ : Nat) : Int))]) (fun ξ => []) (fun ξ => h.length - ξ) 0 ⟨by first | omega | (dsimp only; omega), fun i a hi => by omega⟩ ((.cons rfl (.cons rfl (.cons rfl (.cons rfl (.cons rfl .nil)))))) rfl ?_
  rintro k ⟨hk, hf⟩
  refine Gx.know (m' := [(0, hv), (1, va), (13, hv), (14, .int .i64 ((h.length : Nat) : Int)), (15, .int .i64 ((k : Nat) : Int))]) (.cons rfl (.cons rfl (.cons rfl (.cons rfl (.cons rfl .nil))))) (Gx.norm (l' := []) rfl ?_)
  refine Gx.seq ?_
  refine Gx.region ?_
  refine Gx.val rfl rfl rfl (val_lss rfl rfl rfl) ?_
  refine Gx.done ?_
  refine Gx.thenN ?_
  refine Gx.seq ?_
  refine Gx.dec rfl (fun h1 => ?_) (fun h1 => ?_)
  · refine Gx.skip ?_
    refine Gx.thenN ?_
    refine Gx.seq ?_
    refine Gx.block ?_
    refine Gx.seq ?_
    refine Gx.region ?_
    refine Gx.val rfl rfl rfl (val_move rfl rfl) ?_
    obtain ⟨x2, hx2⟩ := get_of_lt (xs := h) (k := k) (by first | omega | (rw [four_len]; omega))
    refine Gx.val rfl rfl rfl (val_ixa rfl Try.underlying22 Try.ty31 rfl rfl (j := k) (rfl) (reach_base hs hx2)) ?_
    refine Gx.val rfl rfl rfl (Val.cast (val_loadA rfl Try.ty31 rfl rfl rfl (cells_base hs hx2)) (v' := .agg #[.int .i64 x2.who, .int .i64 x2.reg, .bool x2.write, .int .i64 x2.val, .int .i64 x2.fr, .int .i64 x2.to]) rfl) ?_
    refine Gx.eff rfl rfl rfl (eff_alloc rfl Try.ty31 (vs := [.int .i64 0, .int .i64 0, .bool false, .int .i64 0, .int .i64 0, .int .i64 0]) rfl) ?_
    rintro _ _ ⟨b3, rfl, rfl⟩
    refine Gx.val rfl rfl rfl (val_assign rfl rfl) ?_
    refine Gx.eff0 rfl rfl (eff_store rfl Try.ty31 rfl rfl (us := [.int .i64 x2.who, .int .i64 x2.reg, .bool x2.write, .int .i64 x2.val, .int .i64 x2.fr, .int .i64 x2.to]) rfl rfl rfl (k := 0) rfl (rfl) (vs' := [.int .i64 x2.who, .int .i64 x2.reg, .bool x2.write, .int .i64 x2.val, .int .i64 x2.fr, .int .i64 x2.to]) (rfl) (l' := [Hp.rec_ b3 [.int .i64 x2.who, .int .i64 x2.reg, .bool x2.write, .int .i64 x2.val, .int .i64 x2.fr, .int .i64 x2.to]]) rfl) ?_
    rintro _ _ rfl
    refine Gx.done ?_
    refine Gx.thenN ?_
    refine Gx.seq ?_
    refine Gx.region ?_
    refine Gx.val rfl rfl rfl (Val.cast (val_fieldAddr rfl Try.underlying31 rfl Try.ty3 rfl rfl) (v' := ptr b3 5) rfl) ?_
    refine Gx.val rfl rfl rfl (val_load rfl Try.ty3 rfl rfl (cell_rec (k := 0) rfl rfl)) ?_
    refine Gx.val rfl rfl rfl (val_geq rfl rfl rfl) ?_
    refine Gx.val rfl rfl rfl (val_move rfl rfl) ?_
    refine Gx.cases (t := 23) rfl (fun h4 => ?_) (fun h4 => ?_)
    · refine Gx.valg rfl rfl rfl rfl rfl (val_move rfl rfl) ?_
      refine Gx.valg rfl rfl rfl rfl rfl (val_move rfl rfl) ?_
      refine Gx.valg rfl rfl rfl rfl rfl (val_call (vs := [va, .int .i64 ((k : Nat) : Int)]) rfl Try.fn17 rfl (fun w H => has_any ((k : Nat) : Int) (ha.below H.below))) ?_
      refine Gx.valg rfl rfl rfl rfl rfl (val_notD rfl rfl) ?_
      refine Gx.val rfl rfl rfl (val_pickT rfl rfl rfl) ?_
      refine Gx.done ?_
      refine Gx.thenN ?_
      refine Gx.dec rfl (fun h5 => ?_) (fun h5 => ?_)
      · refine Gx.seq ?_
        refine Gx.region ?_
        refine Gx.val rfl rfl rfl (val_assign rfl rfl) ?_
        refine Gx.done ?_
        refine Gx.thenN ?_
        refine Gx.ret ?_
        refine Gx.blkR ?_
        refine Gx.thenR ?_
        refine Gx.thenR ?_
        refine Gx.blkR ?_
        refine Gx.thenR ?_
        refine Gx.ret1 Try.results11 rfl ?_
        exact ⟨false, rfl, fun e => (by cases e), fun hi => absurd (hi.1 k _ hx2 (by assumption)) (by assumption)⟩
      · refine Gx.skip ?_
        refine Gx.blkN ?_
        refine Gx.thenN ?_
        refine Gx.region ?_
        refine Gx.val rfl rfl rfl (val_add rfl rfl rfl (r := ((k + 1 : Nat) : Int)) (w64 (by omega) (by omega))) ?_
        refine Gx.val rfl rfl rfl (val_move rfl rfl) ?_
        refine Gx.done ?_
        refine Gx.thenN ?_
        refine Gx.drop 0 rfl ?_
        exact Gx.round (k + 1) ⟨by first | omega | (dsimp only; omega), fun i a hi ha' h0 => by rcases Nat.lt_or_eq_of_le (Nat.le_of_lt_succ hi) with hi | rfl; (exact hf i a hi ha' h0); (cases hx2.symm.trans ha'; first | (exact Decidable.not_not.1 (by assumption)) | (exact Classical.byContradiction fun q => by simp_all; done) | (exfalso; omega))⟩ (by first | omega | (dsimp only; omega)) ((.cons rfl (.cons rfl (.cons rfl (.cons rfl (.cons rfl .nil)))))) rfl
    · refine Gx.skipg rfl rfl rfl rfl rfl rfl ?_
      refine Gx.skipg rfl rfl rfl rfl rfl rfl ?_
      refine Gx.skipg rfl rfl rfl rfl rfl rfl ?_
      refine Gx.skipg rfl rfl rfl rfl rfl rfl ?_
      refine Gx.val rfl rfl rfl (val_pickF rfl rfl rfl) ?_
      refine Gx.done ?_
      refine Gx.thenN ?_
      refine Gx.f rfl ?_
      refine Gx.skip ?_
      refine Gx.blkN ?_
      refine Gx.thenN ?_
      refine Gx.region ?_
      refine Gx.val rfl rfl rfl (val_add rfl rfl rfl (r := ((k + 1 : Nat) : Int)) (w64 (by omega) (by omega))) ?_
      refine Gx.val rfl rfl rfl (val_move rfl rfl) ?_
      refine Gx.done ?_
      refine Gx.thenN ?_
      refine Gx.drop 0 rfl ?_
      exact Gx.round (k + 1) ⟨by first | omega | (dsimp only; omega), fun i a hi ha' h0 => by rcases Nat.lt_or_eq_of_le (Nat.le_of_lt_succ hi) with hi | rfl; (exact hf i a hi ha' h0); (cases hx2.symm.trans ha'; first | (exact Decidable.not_not.1 (by assumption)) | (exact Classical.byContradiction fun q => by simp_all; done) | (exfalso; omega))⟩ (by first | omega | (dsimp only; omega)) ((.cons rfl (.cons rfl (.cons rfl (.cons rfl (.cons rfl .nil)))))) rfl
  · refine Gx.exit ?_
    refine Gx.thenE ?_
    refine Gx.thenE ?_
    refine Gx.blkE ?_
    refine Gx.thenN ?_
    refine Gx.seq ?_
    refine Gx.region ?_
    refine Gx.eff rfl rfl rfl (eff_makeSlice (n := 4) (f := FZ) rfl Try.underlying33 Try.ty2 rfl rfl (rfl) (rfl) FZ_len 0 rfl (by omega) (by omega)) ?_
    rintro v6 _ ⟨hiv6, rfl⟩
    refine Gx.val rfl rfl rfl (val_assign rfl rfl) ?_
    refine Gx.done ?_
    refine Gx.thenN ?_
    refine Gx.seq ?_
    refine Gx.seq ?_
    have hfull : ∀ (i : Nat) (a : Op), h[i]? = some a → 0 ≤ a.to → (i : Int) ∈ xs := fun i a ha' h0 => hf i a (by have := (List.getElem?_eq_some_iff.1 ha').1; omega) ha' h0
    refine Gx.norm (l' := [Hp.own FZ 1 v6 (four (regsZ h (xs.take 0)))]) rfl ?_
    refine Gx.region ?_
    refine Gx.val rfl rfl rfl (val_move rfl rfl) ?_
    refine Gx.val rfl rfl rfl (val_len rfl Try.underlying23 rfl (len_base ha)) ?_
    refine Gx.val rfl rfl rfl (val_move rfl rfl) ?_
    refine Gx.done ?_
    refine Gx.thenN ?_
    refine Gx.block ?_
    refine Gx.loop (ι := Nat) (fun ξ => (ξ ≤ xs.length) ∧ (PO h xs ξ)) (fun ξ => [(0, hv), (1, va), (7, v6), (31, va), (32, .int .i64 ((xs.length : Nat) : Int)), (33, .int .i64 ((ξ : Nat) : Int))]) (fun ξ => [Hp.own FZ 1 v6 (four (regsZ h (xs.take ξ)))]) (fun ξ => xs.length - ξ) 0 ⟨by first | omega | (dsimp only; omega), fun q z hq => by omega⟩ ((.cons rfl (.cons rfl (.cons rfl (.cons rfl (.cons rfl (.cons rfl .nil))))))) rfl ?_
    rintro q ⟨hq, hp⟩
    refine Gx.know (m' := [(0, hv), (1, va), (7, v6), (31, va), (32, .int .i64 ((xs.length : Nat) : Int)), (33, .int .i64 ((q : Nat) : Int))]) (.cons rfl (.cons rfl (.cons rfl (.cons rfl (.cons rfl (.cons rfl .nil)))))) (Gx.norm (l' := [Hp.own FZ 1 v6 (four (regsZ h (xs.take q)))]) rfl ?_)
    refine Gx.seq ?_
    refine Gx.region ?_
    refine Gx.val rfl rfl rfl (val_lss rfl rfl rfl) ?_
    refine Gx.done ?_
    refine Gx.thenN ?_
    refine Gx.seq ?_
    refine Gx.dec rfl (fun h7 => ?_) (fun h7 => ?_)
    · refine Gx.skip ?_
      refine Gx.thenN ?_
      refine Gx.seq ?_
      refine Gx.block ?_
      refine Gx.seq ?_
      refine Gx.region ?_
      refine Gx.val rfl rfl rfl (val_move rfl rfl) ?_
      obtain ⟨x8, hx8⟩ := get_of_lt (xs := xs) (k := q) (by first | omega | (rw [four_len]; omega))
      refine Gx.val rfl rfl rfl (val_ixa rfl Try.underlying23 Try.ty3 rfl rfl (j := q) (rfl) (reach_base ha hx8)) ?_
      refine Gx.val rfl rfl rfl (val_load rfl Try.ty3 rfl rfl (cell_base (i := 0) ha hx8 rfl)) ?_
      refine Gx.val rfl rfl rfl (val_assign rfl rfl) ?_
      refine Gx.val rfl rfl rfl (val_assign rfl rfl) ?_
      refine Gx.done ?_
      refine Gx.thenN ?_
      refine Gx.seq ?_
      refine Gx.seq ?_
      refine Gx.region ?_
      refine Gx.val rfl rfl rfl (val_move rfl rfl) ?_
      refine Gx.val rfl rfl rfl (val_lss rfl rfl rfl) ?_
      refine Gx.val rfl rfl rfl (val_move rfl rfl) ?_
      refine Gx.cases (t := 40) rfl (fun h9 => ?_) (fun h9 => ?_)
      · refine Gx.skipg rfl rfl rfl rfl rfl rfl ?_
        refine Gx.skipg rfl rfl rfl rfl rfl rfl ?_
        refine Gx.skipg rfl rfl rfl rfl rfl rfl ?_
        refine Gx.skipg rfl rfl rfl rfl rfl rfl ?_
        refine Gx.val rfl rfl rfl (val_pickT rfl rfl rfl) ?_
        refine Gx.val rfl rfl rfl (val_move rfl rfl) ?_
        refine Gx.skipg rfl rfl rfl rfl rfl rfl ?_
        refine Gx.skipg rfl rfl rfl rfl rfl rfl ?_
        refine Gx.skipg rfl rfl rfl rfl rfl rfl ?_
        refine Gx.skipg rfl rfl rfl rfl rfl rfl ?_
        refine Gx.skipg rfl rfl rfl rfl rfl rfl ?_
        refine Gx.val rfl rfl rfl (val_pickT rfl rfl rfl) ?_
        refine Gx.done ?_
        refine Gx.thenN ?_
        refine Gx.t rfl ?_
        refine Gx.seq ?_
        refine Gx.region ?_
        refine Gx.val rfl rfl rfl (val_assign rfl rfl) ?_
        refine Gx.done ?_
        refine Gx.thenN ?_
        refine Gx.ret ?_
        refine Gx.thenR ?_
        refine Gx.blkR ?_
        refine Gx.thenR ?_
        refine Gx.thenR ?_
        refine Gx.blkR ?_
        refine Gx.thenR ?_
        refine Gx.ret1 Try.results11 rfl ?_
        exact ⟨false, rfl, fun e => (by cases e), fun hi => by exfalso; obtain ⟨a, p1, p2, p3, p4, p5⟩ := hi.2 q x8 (by omega) hx8; first | (exfalso; omega) | (exact p3 (by assumption)) | (have q9 := (List.getElem?_eq_some_iff.1 p2).1; omega)⟩
      · refine Gx.valg rfl rfl rfl rfl rfl (val_move rfl rfl) ?_
        refine Gx.valg rfl rfl rfl rfl rfl (val_move rfl rfl) ?_
        refine Gx.valg rfl rfl rfl rfl rfl (val_len rfl Try.underlying22 rfl (len_base hs)) ?_
        refine Gx.valg rfl rfl rfl rfl rfl (val_geq rfl rfl rfl) ?_
        refine Gx.val rfl rfl rfl (val_pickF rfl rfl rfl) ?_
        refine Gx.val rfl rfl rfl (val_move rfl rfl) ?_
        refine Gx.cases (t := 46) rfl (fun h10 => ?_) (fun h10 => ?_)
        · refine Gx.skipg rfl rfl rfl rfl rfl rfl ?_
          refine Gx.skipg rfl rfl rfl rfl rfl rfl ?_
          refine Gx.skipg rfl rfl rfl rfl rfl rfl ?_
          refine Gx.skipg rfl rfl rfl rfl rfl rfl ?_
          refine Gx.skipg rfl rfl rfl rfl rfl rfl ?_
          refine Gx.val rfl rfl rfl (val_pickT rfl rfl rfl) ?_
          refine Gx.done ?_
          refine Gx.thenN ?_
          refine Gx.t rfl ?_
          refine Gx.seq ?_
          refine Gx.region ?_
          refine Gx.val rfl rfl rfl (val_assign rfl rfl) ?_
          refine Gx.done ?_
          refine Gx.thenN ?_
          refine Gx.ret ?_
          refine Gx.thenR ?_
          refine Gx.blkR ?_
          refine Gx.thenR ?_
          refine Gx.thenR ?_
          refine Gx.blkR ?_
          refine Gx.thenR ?_
          refine Gx.ret1 Try.results11 rfl ?_
          exact ⟨false, rfl, fun e => (by cases e), fun hi => by exfalso; obtain ⟨a, p1, p2, p3, p4, p5⟩ := hi.2 q x8 (by omega) hx8; first | (exfalso; omega) | (exact p3 (by assumption)) | (have q9 := (List.getElem?_eq_some_iff.1 p2).1; omega)⟩
        · refine Gx.valg rfl rfl rfl rfl rfl (val_move rfl rfl) ?_
          refine Gx.valg rfl rfl rfl rfl rfl (val_move rfl rfl) ?_
          have hcut11 : SlS FZ 1 W (sCut 1 0 q va) (xs.take q) := (ha).cut (lo := 0) (hi := q) (by omega) (by omega)
          refine Gx.valg rfl rfl rfl rfl rfl (val_cutTo (up := q) rfl Try.underlying23 Try.ty3 rfl ha rfl (rfl) (by omega)) ?_
          refine Gx.valg rfl rfl rfl rfl rfl (val_move rfl rfl) ?_
          refine Gx.valg rfl rfl rfl rfl rfl (val_call (vs := [sCut 1 0 q va, .int .i64 x8]) rfl Try.fn17 rfl (fun w H => has_any x8 (hcut11.below H.below))) ?_
          refine Gx.val rfl rfl rfl (val_pickF rfl rfl rfl) ?_
          refine Gx.done ?_
          refine Gx.thenN ?_
          refine Gx.dec rfl (fun h12 => ?_) (fun h12 => ?_)
          · refine Gx.seq ?_
            refine Gx.region ?_
            refine Gx.val rfl rfl rfl (val_assign rfl rfl) ?_
            refine Gx.done ?_
            refine Gx.thenN ?_
            refine Gx.ret ?_
            refine Gx.thenR ?_
            refine Gx.blkR ?_
            refine Gx.thenR ?_
            refine Gx.thenR ?_
            refine Gx.blkR ?_
            refine Gx.thenR ?_
            refine Gx.ret1 Try.results11 rfl ?_
            exact ⟨false, rfl, fun e => (by cases e), fun hi => by exfalso; obtain ⟨a, p1, p2, p3, p4, p5⟩ := hi.2 q x8 (by omega) hx8; first | (exfalso; omega) | (exact p3 (by assumption)) | (have q9 := (List.getElem?_eq_some_iff.1 p2).1; omega)⟩
          · refine Gx.skip ?_
            refine Gx.thenN ?_
            refine Gx.seq ?_
            refine Gx.region ?_
            refine Gx.val rfl rfl rfl (val_move rfl rfl) ?_
            refine Gx.val rfl rfl rfl (val_move rfl rfl) ?_
            obtain ⟨x13, hx13⟩ := get_of_lt (xs := h) (k := x8.toNat) (by first | omega | (rw [four_len]; omega))
            refine Gx.val rfl rfl rfl (val_ixa rfl Try.underlying22 Try.ty31 rfl rfl (j := x8.toNat) (by omega) (reach_base hs hx13)) ?_
            refine Gx.val rfl rfl rfl (Val.cast (val_loadA rfl Try.ty31 rfl rfl rfl (cells_base hs hx13)) (v' := .agg #[.int .i64 x13.who, .int .i64 x13.reg, .bool x13.write, .int .i64 x13.val, .int .i64 x13.fr, .int .i64 x13.to]) rfl) ?_
            refine Gx.eff rfl rfl rfl (eff_alloc rfl Try.ty31 (vs := [.int .i64 0, .int .i64 0, .bool false, .int .i64 0, .int .i64 0, .int .i64 0]) rfl) ?_
            rintro _ _ ⟨b14, rfl, rfl⟩
            refine Gx.eff0 rfl rfl (eff_store rfl Try.ty31 rfl rfl (us := [.int .i64 x13.who, .int .i64 x13.reg, .bool x13.write, .int .i64 x13.val, .int .i64 x13.fr, .int .i64 x13.to]) rfl rfl rfl (k := 0) rfl (rfl) (vs' := [.int .i64 x13.who, .int .i64 x13.reg, .bool x13.write, .int .i64 x13.val, .int .i64 x13.fr, .int .i64 x13.to]) (rfl) (l' := [Hp.rec_ b14 [.int .i64 x13.who, .int .i64 x13.reg, .bool x13.write, .int .i64 x13.val, .int .i64 x13.fr, .int .i64 x13.to], Hp.own FZ 1 v6 (four (regsZ h (xs.take q)))]) rfl) ?_
            rintro _ _ rfl
            refine Gx.done ?_
            refine Gx.thenN ?_
            refine Gx.seq ?_
            refine Gx.seq ?_
            have hreg := hok.reg _ _ hx13
            refine Gx.region ?_
            refine Gx.val rfl rfl rfl (val_move rfl rfl) ?_
            refine Gx.val rfl rfl rfl (val_move rfl rfl) ?_
            refine Gx.val rfl rfl rfl (val_add rfl rfl rfl (r := ((q + 1 : Nat) : Int)) (w64 (by omega) (by omega))) ?_
            have hcut15 : SlS FZ 1 W (sCut 1 (q + 1) xs.length va) (xs.drop (q + 1)) := by have q := (ha).cut (lo := q + 1) (hi := xs.length) (by omega) (by omega); rwa [List.take_length] at q
            refine Gx.val rfl rfl rfl (val_cutFrom (lo := q + 1) rfl Try.underlying23 Try.ty3 rfl ha rfl (rfl) (by omega)) ?_
            refine Gx.val rfl rfl rfl (val_len rfl Try.underlying23 rfl (len_base hcut15)) ?_
            refine Gx.val rfl rfl rfl (val_move rfl rfl) ?_
            refine Gx.done ?_
            refine Gx.thenN ?_
            refine Gx.block ?_
            refine Gx.loop (ι := Nat) (fun ξ => (ξ ≤ (xs.drop (q + 1)).length) ∧ (∀ (s : Nat) (z' : Int), s < ξ → (xs.drop (q + 1))[s]? = some z' → ∀ (j : Nat) (b : Op), z' = (j : Int) → h[j]? = some b → ¬ aheadB b x13 = true)) (fun ξ => [(0, hv), (1, va), (7, v6), (31, va), (32, .int .i64 ((xs.length : Nat) : Int)), (33, .int .i64 ((q : Nat) : Int)), (8, .int .i64 ((q : Nat) : Int)), (9, .int .i64 x8), (10, ptr b14 0), (60, sCut 1 (q + 1) xs.length va), (61, .int .i64 (((xs.drop (q + 1)).length : Nat) : Int)), (62, .int .i64 ((ξ : Nat) : Int))]) (fun ξ => [Hp.rec_ b14 [.int .i64 x13.who, .int .i64 x13.reg, .bool x13.write, .int .i64 x13.val, .int .i64 x13.fr, .int .i64 x13.to], Hp.own FZ 1 v6 (four (regsZ h (xs.take q)))]) (fun ξ => (xs.drop (q + 1)).length - ξ) 0 ⟨by first | omega | (dsimp only; omega), fun s z' hs' => by omega⟩ ((.cons rfl (.cons rfl (.cons rfl (.cons rfl (.cons rfl (.cons rfl (.cons rfl (.cons rfl (.cons rfl (.cons rfl (.cons rfl (.cons rfl .nil))))))))))))) rfl ?_
            rintro r ⟨hr, ha'⟩
            refine Gx.know (m' := [(0, hv), (1, va), (7, v6), (31, va), (32, .int .i64 ((xs.length : Nat) : Int)), (33, .int .i64 ((q : Nat) : Int)), (8, .int .i64 ((q : Nat) : Int)), (9, .int .i64 x8), (10, ptr b14 0), (60, sCut 1 (q + 1) xs.length va), (61, .int .i64 (((xs.drop (q + 1)).length : Nat) : Int)), (62, .int .i64 ((r : Nat) : Int))]) (.cons rfl (.cons rfl (.cons rfl (.cons rfl (.cons rfl (.cons rfl (.cons rfl (.cons rfl (.cons rfl (.cons rfl (.cons rfl (.cons rfl .nil)))))))))))) (Gx.norm (l' := [Hp.rec_ b14 [.int .i64 x13.who, .int .i64 x13.reg, .bool x13.write, .int .i64 x13.val, .int .i64 x13.fr, .int .i64 x13.to], Hp.own FZ 1 v6 (four (regsZ h (xs.take q)))]) rfl ?_)
            have hdl : (xs.drop (q + 1)).length ≤ xs.length := by rw [List.length_drop]; omega
            refine Gx.seq ?_
            refine Gx.region ?_
            refine Gx.val rfl rfl rfl (val_lss rfl rfl rfl) ?_
            refine Gx.done ?_
            refine Gx.thenN ?_
            refine Gx.seq ?_
            refine Gx.dec rfl (fun h16 => ?_) (fun h16 => ?_)
            · refine Gx.skip ?_
              refine Gx.thenN ?_
              refine Gx.seq ?_
              refine Gx.block ?_
              refine Gx.seq ?_
              refine Gx.region ?_
              obtain ⟨x17, hx17⟩ := get_of_lt (xs := (xs.drop (q + 1))) (k := r) (by first | omega | (rw [four_len]; omega))
              refine Gx.val rfl rfl rfl (val_ixa rfl Try.underlying23 Try.ty3 rfl rfl (j := r) (rfl) (reach_base hcut15 hx17)) ?_
              refine Gx.val rfl rfl rfl (val_load rfl Try.ty3 rfl rfl (cell_base (i := 0) hcut15 hx17 rfl)) ?_
              refine Gx.val rfl rfl rfl (val_assign rfl rfl) ?_
              refine Gx.done ?_
              refine Gx.thenN ?_
              refine Gx.seq ?_
              refine Gx.regionQ Try.mixed (by kernel_rfl) ?_
              refine Gq.val rfl rfl rfl (val_move rfl rfl) ?_
              refine Gq.val rfl rfl rfl (val_geq rfl rfl rfl) ?_
              refine Gq.val rfl rfl rfl (val_move rfl rfl) ?_
              refine Gq.cases (t := 68) rfl (fun h18 => ?_) (fun h18 => ?_)
              · refine Gq.valg rfl rfl rfl rfl rfl (val_move rfl rfl) ?_
                refine Gq.valg rfl rfl rfl rfl rfl (val_move rfl rfl) ?_
                refine Gq.valg rfl rfl rfl rfl rfl (val_len rfl Try.underlying22 rfl (len_base hs)) ?_
                refine Gq.valg rfl rfl rfl rfl rfl (val_lss rfl rfl rfl) ?_
                refine Gq.val rfl rfl rfl (val_pickT rfl rfl rfl) ?_
                refine Gq.val rfl rfl rfl (val_move rfl rfl) ?_
                refine Gq.cases (t := 74) rfl (fun h19 => ?_) (fun h19 => ?_)
                · refine Gq.valg rfl rfl rfl rfl rfl (val_move rfl rfl) ?_
                  refine Gq.valg rfl rfl rfl rfl rfl (val_move rfl rfl) ?_
                  obtain ⟨x20, hx20⟩ := get_of_lt (xs := h) (k := x17.toNat) (by first | omega | (rw [four_len]; omega))
                  refine Gq.valg rfl rfl rfl rfl rfl (val_ixa rfl Try.underlying22 Try.ty31 rfl rfl (j := x17.toNat) (by omega) (reach_base hs hx20)) ?_
                  refine Gq.valg rfl rfl rfl rfl rfl (Val.cast (val_loadA rfl Try.ty31 rfl rfl rfl (cells_base hs hx20)) (v' := .agg #[.int .i64 x20.who, .int .i64 x20.reg, .bool x20.write, .int .i64 x20.val, .int .i64 x20.fr, .int .i64 x20.to]) rfl) ?_
                  refine Gq.valg rfl rfl rfl rfl rfl (Val.cast (val_loadA rfl Try.ty31 rfl rfl rfl (cells_rec (k := 0) rfl)) (v' := .agg #[.int .i64 x13.who, .int .i64 x13.reg, .bool x13.write, .int .i64 x13.val, .int .i64 x13.fr, .int .i64 x13.to]) rfl) ?_
                  refine Gq.valg rfl rfl rfl rfl rfl (val_call (vs := [.agg #[.int .i64 x20.who, .int .i64 x20.reg, .bool x20.write, .int .i64 x20.val, .int .i64 x20.fr, .int .i64 x20.to], .agg #[.int .i64 x13.who, .int .i64 x13.reg, .bool x13.write, .int .i64 x13.val, .int .i64 x13.fr, .int .i64 x13.to]]) rfl Try.fn18 rfl (fun w H => ahead18 x20 x13 _)) ?_
                  refine Gq.val rfl rfl rfl (val_pickT rfl rfl rfl) ?_
                  refine Gq.done ?_
                  refine Gx.thenN ?_
                  refine Gx.bool rfl (fun h21 => ?_) (fun h21 => ?_)
                  · refine Gx.seq ?_
                    refine Gx.region ?_
                    refine Gx.val rfl rfl rfl (val_assign rfl rfl) ?_
                    refine Gx.done ?_
                    refine Gx.thenN ?_
                    refine Gx.ret ?_
                    refine Gx.blkR ?_
                    refine Gx.thenR ?_
                    refine Gx.thenR ?_
                    refine Gx.blkR ?_
                    refine Gx.thenR ?_
                    refine Gx.blkR ?_
                    refine Gx.thenR ?_
                    refine Gx.thenR ?_
                    refine Gx.blkR ?_
                    refine Gx.thenR ?_
                    refine Gx.ret1 Try.results11 rfl ?_
                    exact ⟨false, rfl, fun e => (by cases e), fun hi => by exfalso; obtain ⟨a, p1, p2, p3, p4, p5⟩ := hi.2 q x8 (by omega) hx8; cases hx13.symm.trans p2; exact p4 x17.toNat _ (by have q9 := List.mem_of_getElem? hx17; rwa [show ((x17.toNat : Nat) : Int) = x17 by omega]) hx20 (by assumption)⟩
                  · refine Gx.skip ?_
                    refine Gx.blkN ?_
                    refine Gx.thenN ?_
                    refine Gx.region ?_
                    refine Gx.val rfl rfl rfl (val_add rfl rfl rfl (r := ((r + 1 : Nat) : Int)) (w64 (by omega) (by omega))) ?_
                    refine Gx.val rfl rfl rfl (val_move rfl rfl) ?_
                    refine Gx.done ?_
                    refine Gx.thenN ?_
                    exact Gx.round (r + 1) ⟨by first | omega | (dsimp only; omega), fun s z' hs' hz' j b e hb => by rcases Nat.lt_or_eq_of_le (Nat.le_of_lt_succ hs') with hs' | rfl; (exact ha' s z' hs' hz' j b e hb); (cases hx17.symm.trans hz'; have hjl := (List.getElem?_eq_some_iff.1 hb).1; first | (exfalso; omega) | (have e3 := hb; rw [show j = x17.toNat by omega] at e3; cases hx20.symm.trans e3; simp_all))⟩ (by first | omega | (dsimp only; omega)) ((.cons rfl (.cons rfl (.cons rfl (.cons rfl (.cons rfl (.cons rfl (.cons rfl (.cons rfl (.cons rfl (.cons rfl (.cons rfl (.cons rfl .nil))))))))))))) rfl
                · refine Gq.skipg rfl rfl rfl rfl rfl rfl ?_
                  refine Gq.skipg rfl rfl rfl rfl rfl rfl ?_
                  refine Gq.skipg rfl rfl rfl rfl rfl rfl ?_
                  refine Gq.skipg rfl rfl rfl rfl rfl rfl ?_
                  refine Gq.skipg rfl rfl rfl rfl rfl rfl ?_
                  refine Gq.skipg rfl rfl rfl rfl rfl rfl ?_
                  refine Gq.val rfl rfl rfl (val_pickF rfl rfl rfl) ?_
                  refine Gq.done ?_
                  refine Gx.thenN ?_
                  refine Gx.f rfl ?_
                  refine Gx.skip ?_
                  refine Gx.blkN ?_
                  refine Gx.thenN ?_
                  refine Gx.region ?_
                  refine Gx.val rfl rfl rfl (val_add rfl rfl rfl (r := ((r + 1 : Nat) : Int)) (w64 (by omega) (by omega))) ?_
                  refine Gx.val rfl rfl rfl (val_move rfl rfl) ?_
                  refine Gx.done ?_
                  refine Gx.thenN ?_
                  exact Gx.round (r + 1) ⟨by first | omega | (dsimp only; omega), fun s z' hs' hz' j b e hb => by rcases Nat.lt_or_eq_of_le (Nat.le_of_lt_succ hs') with hs' | rfl; (exact ha' s z' hs' hz' j b e hb); (cases hx17.symm.trans hz'; have hjl := (List.getElem?_eq_some_iff.1 hb).1; first | (exfalso; omega) | (have e3 := hb; rw [show j = x17.toNat by omega] at e3; cases (rfl : (0:Nat) = 0).symm.trans e3; simp_all))⟩ (by first | omega | (dsimp only; omega)) ((.cons rfl (.cons rfl (.cons rfl (.cons rfl (.cons rfl (.cons rfl (.cons rfl (.cons rfl (.cons rfl (.cons rfl (.cons rfl (.cons rfl .nil))))))))))))) rfl
              · refine Gq.skipg rfl rfl rfl rfl rfl rfl ?_
                refine Gq.skipg rfl rfl rfl rfl rfl rfl ?_
                refine Gq.skipg rfl rfl rfl rfl rfl rfl ?_
                refine Gq.skipg rfl rfl rfl rfl rfl rfl ?_
                refine Gq.val rfl rfl rfl (val_pickF rfl rfl rfl) ?_
                refine Gq.val rfl rfl rfl (val_move rfl rfl) ?_
                refine Gq.skipg rfl rfl rfl rfl rfl rfl ?_
                refine Gq.skipg rfl rfl rfl rfl rfl rfl ?_
                refine Gq.skipg rfl rfl rfl rfl rfl rfl ?_
                refine Gq.skipg rfl rfl rfl rfl rfl rfl ?_
                refine Gq.skipg rfl rfl rfl rfl rfl rfl ?_
                refine Gq.skipg rfl rfl rfl rfl rfl rfl ?_
                refine Gq.val rfl rfl rfl (val_pickF rfl rfl rfl) ?_
                refine Gq.done ?_
                refine Gx.thenN ?_
                refine Gx.f rfl ?_
                refine Gx.skip ?_
                refine Gx.blkN ?_
                refine Gx.thenN ?_
                refine Gx.region ?_
                refine Gx.val rfl rfl rfl (val_add rfl rfl rfl (r := ((r + 1 : Nat) : Int)) (w64 (by omega) (by omega))) ?_
                refine Gx.val rfl rfl rfl (val_move rfl rfl) ?_
                refine Gx.done ?_
                refine Gx.thenN ?_
                exact Gx.round (r + 1) ⟨by first | omega | (dsimp only; omega), fun s z' hs' hz' j b e hb => by rcases Nat.lt_or_eq_of_le (Nat.le_of_lt_succ hs') with hs' | rfl; (exact ha' s z' hs' hz' j b e hb); (cases hx17.symm.trans hz'; have hjl := (List.getElem?_eq_some_iff.1 hb).1; first | (exfalso; omega) | (have e3 := hb; rw [show j = x17.toNat by omega] at e3; cases (rfl : (0:Nat) = 0).symm.trans e3; simp_all))⟩ (by first | omega | (dsimp only; omega)) ((.cons rfl (.cons rfl (.cons rfl (.cons rfl (.cons rfl (.cons rfl (.cons rfl (.cons rfl (.cons rfl (.cons rfl (.cons rfl (.cons rfl .nil))))))))))))) rfl
            · refine Gx.exit ?_
              refine Gx.thenE ?_
              refine Gx.thenE ?_
              refine Gx.blkE ?_
              refine Gx.thenN ?_
              refine Gx.seq ?_
              have hall : ∀ (j : Nat) (b : Op), (j : Int) ∈ xs.drop (q + 1) → h[j]? = some b → ¬ aheadB b x13 = true := fun j b hj hb => by
                obtain ⟨s, hs'⟩ := List.getElem?_of_mem hj
                exact ha' s _ (by have := (List.getElem?_eq_some_iff.1 hs').1; omega) hs' j b rfl hb
              refine Gx.region ?_
              refine Gx.val rfl rfl rfl (Val.cast (val_fieldAddr rfl Try.underlying31 rfl Try.ty4 rfl rfl) (v' := ptr b14 2) rfl) ?_
              refine Gx.val rfl rfl rfl (val_load rfl Try.ty4 rfl rfl (cell_rec (k := 0) rfl rfl)) ?_
              refine Gx.done ?_
              refine Gx.thenN ?_
              refine Gx.bool rfl (fun h22 => ?_) (fun h22 => ?_)
              · refine Gx.region ?_
                refine Gx.val rfl rfl rfl (val_move rfl rfl) ?_
                refine Gx.val rfl rfl rfl (Val.cast (val_fieldAddr rfl Try.underlying31 rfl Try.ty3 rfl rfl) (v' := ptr b14 1) rfl) ?_
                refine Gx.val rfl rfl rfl (val_load rfl Try.ty3 rfl rfl (cell_rec (k := 0) rfl rfl)) ?_
                refine Gx.val rfl rfl rfl (Val.cast (val_fieldAddr rfl Try.underlying31 rfl Try.ty2 rfl rfl) (v' := ptr b14 3) rfl) ?_
                refine Gx.val rfl rfl rfl (val_load rfl Try.ty2 rfl rfl (cell_rec (k := 0) rfl rfl)) ?_
                obtain ⟨x23, hx23⟩ := get_of_lt (xs := (four (regsZ h (xs.take q)))) (k := x13.reg.toNat) (by first | omega | (rw [four_len]; omega))
                refine Gx.val rfl rfl rfl (val_ixa rfl Try.underlying33 Try.ty2 rfl rfl (j := x13.reg.toNat) (by omega) (reach_own (k := 1) rfl hx23)) ?_
                refine Gx.eff0 rfl rfl (eff_storeElA x13.val rfl Try.ty2 rfl rfl rfl FZ_one (k := 1) rfl FZ_len hx23 (l' := [Hp.rec_ b14 [.int .i64 x13.who, .int .i64 x13.reg, .bool x13.write, .int .i64 x13.val, .int .i64 x13.fr, .int .i64 x13.to], Hp.own FZ 1 v6 (((four (regsZ h (xs.take q)))).set x13.reg.toNat x13.val)]) rfl) ?_
                rintro _ _ rfl
                refine Gx.done ?_
                refine Gx.blkN ?_
                refine Gx.thenN ?_
                refine Gx.region ?_
                refine Gx.val rfl rfl rfl (val_add rfl rfl rfl (r := ((q + 1 : Nat) : Int)) (w64 (by omega) (by omega))) ?_
                refine Gx.val rfl rfl rfl (val_move rfl rfl) ?_
                refine Gx.done ?_
                refine Gx.thenN ?_
                refine Gx.drop 0 rfl ?_
                have hR : regsZ h (xs.take (q + 1)) = updR (regsZ h (xs.take q)) x13.reg.toNat x13.val := by rw [regsZ_snoc hx8 hx13]; unfold stepR; rw [if_pos (by simp_all)]
                refine Gx.norm (l' := [Hp.own FZ 1 v6 (four (regsZ h (xs.take (q + 1))))]) (by rw [hR, four_set (by omega)] <;> rfl) ?_
                exact Gx.round (q + 1) ⟨by first | omega | (dsimp only; omega), fun q' z' hq' hz' => by rcases Nat.lt_or_eq_of_le (Nat.le_of_lt_succ hq') with hq' | rfl; (exact hp q' z' hq' hz'); (cases hx8.symm.trans hz'; exact ⟨x13, by omega, hx13, by assumption, hall, .inl (by assumption)⟩)⟩ (by first | omega | (dsimp only; omega)) ((.cons rfl (.cons rfl (.cons rfl (.cons rfl (.cons rfl (.cons rfl .nil))))))) rfl
              · refine Gx.seq ?_
                refine Gx.regionQ Try.mixed (by kernel_rfl) ?_
                refine Gq.val rfl rfl rfl (Val.cast (val_fieldAddr rfl Try.underlying31 rfl Try.ty3 rfl rfl) (v' := ptr b14 5) rfl) ?_
                refine Gq.val rfl rfl rfl (val_load rfl Try.ty3 rfl rfl (cell_rec (k := 0) rfl rfl)) ?_
                refine Gq.val rfl rfl rfl (val_lss rfl rfl rfl) ?_
                refine Gq.val rfl rfl rfl (val_move rfl rfl) ?_
                refine Gq.cases (t := 94) rfl (fun h24 => ?_) (fun h24 => ?_)
                · refine Gq.skipg rfl rfl rfl rfl rfl rfl ?_
                  refine Gq.skipg rfl rfl rfl rfl rfl rfl ?_
                  refine Gq.skipg rfl rfl rfl rfl rfl rfl ?_
                  refine Gq.skipg rfl rfl rfl rfl rfl rfl ?_
                  refine Gq.skipg rfl rfl rfl rfl rfl rfl ?_
                  refine Gq.skipg rfl rfl rfl rfl rfl rfl ?_
                  refine Gq.skipg rfl rfl rfl rfl rfl rfl ?_
                  refine Gq.skipg rfl rfl rfl rfl rfl rfl ?_
                  refine Gq.val rfl rfl rfl (val_pickT rfl rfl rfl) ?_
                  refine Gq.done ?_
                  refine Gx.thenN ?_
                  refine Gx.t rfl ?_
                  refine Gx.seq ?_
                  refine Gx.region ?_
                  refine Gx.val rfl rfl rfl (val_assign rfl rfl) ?_
                  refine Gx.done ?_
                  refine Gx.thenN ?_
                  refine Gx.ret ?_
                  refine Gx.blkR ?_
                  refine Gx.thenR ?_
                  refine Gx.thenR ?_
                  refine Gx.blkR ?_
                  refine Gx.thenR ?_
                  refine Gx.ret1 Try.results11 rfl ?_
                  exact ⟨false, rfl, fun e => (by cases e), fun hi => by exfalso; obtain ⟨a, p1, p2, p3, p4, p5⟩ := hi.2 q x8 (by omega) hx8; cases hx13.symm.trans p2; rcases p5 with p5 | ⟨p5, p6⟩ <;> first | omega | (simp_all; done)⟩
                · refine Gq.valg rfl rfl rfl rfl rfl (val_move rfl rfl) ?_
                  refine Gq.valg rfl rfl rfl rfl rfl (Val.cast (val_fieldAddr rfl Try.underlying31 rfl Try.ty3 rfl rfl) (v' := ptr b14 1) rfl) ?_
                  refine Gq.valg rfl rfl rfl rfl rfl (val_load rfl Try.ty3 rfl rfl (cell_rec (k := 0) rfl rfl)) ?_
                  obtain ⟨x25, hx25⟩ := get_of_lt (xs := (four (regsZ h (xs.take q)))) (k := x13.reg.toNat) (by first | omega | (rw [four_len]; omega))
                  refine Gq.valg rfl rfl rfl rfl rfl (val_ixa rfl Try.underlying33 Try.ty2 rfl rfl (j := x13.reg.toNat) (by omega) (reach_own (k := 1) rfl hx25)) ?_
                  refine Gq.valg rfl rfl rfl rfl rfl (val_load rfl Try.ty2 rfl rfl (cell_own (i := 0) (k := 1) rfl hx25 rfl)) ?_
                  refine Gq.valg rfl rfl rfl rfl rfl (Val.cast (val_fieldAddr rfl Try.underlying31 rfl Try.ty2 rfl rfl) (v' := ptr b14 3) rfl) ?_
                  refine Gq.valg rfl rfl rfl rfl rfl (val_load rfl Try.ty2 rfl rfl (cell_rec (k := 0) rfl rfl)) ?_
                  refine Gq.valg rfl rfl rfl rfl rfl (val_neq rfl rfl rfl) ?_
                  refine Gq.val rfl rfl rfl (val_pickF rfl rfl rfl) ?_
                  refine Gq.done ?_
                  refine Gx.thenN ?_
                  refine Gx.dec rfl (fun h26 => ?_) (fun h26 => ?_)
                  · refine Gx.seq ?_
                    refine Gx.region ?_
                    refine Gx.val rfl rfl rfl (val_assign rfl rfl) ?_
                    refine Gx.done ?_
                    refine Gx.thenN ?_
                    refine Gx.ret ?_
                    refine Gx.blkR ?_
                    refine Gx.thenR ?_
                    refine Gx.thenR ?_
                    refine Gx.blkR ?_
                    refine Gx.thenR ?_
                    refine Gx.ret1 Try.results11 rfl ?_
                    exact ⟨false, rfl, fun e => (by cases e), fun hi => by exfalso; obtain ⟨a, p1, p2, p3, p4, p5⟩ := hi.2 q x8 (by omega) hx8; cases hx13.symm.trans p2; rcases p5 with p5 | ⟨p5, p6⟩ <;> first | omega | (have q8 := four_get hx25; omega) | (simp_all; done)⟩
                  · refine Gx.skip ?_
                    refine Gx.blkN ?_
                    refine Gx.thenN ?_
                    refine Gx.region ?_
                    refine Gx.val rfl rfl rfl (val_add rfl rfl rfl (r := ((q + 1 : Nat) : Int)) (w64 (by omega) (by omega))) ?_
                    refine Gx.val rfl rfl rfl (val_move rfl rfl) ?_
                    refine Gx.done ?_
                    refine Gx.thenN ?_
                    refine Gx.drop 0 rfl ?_
                    have hR : regsZ h (xs.take (q + 1)) = regsZ h (xs.take q) := by rw [regsZ_snoc hx8 hx13]; unfold stepR; rw [if_neg (by simp_all)]
                    refine Gx.norm (l' := [Hp.own FZ 1 v6 (four (regsZ h (xs.take (q + 1))))]) (by rw [hR] <;> rfl) ?_
                    exact Gx.round (q + 1) ⟨by first | omega | (dsimp only; omega), fun q' z' hq' hz' => by rcases Nat.lt_or_eq_of_le (Nat.le_of_lt_succ hq') with hq' | rfl; (exact hp q' z' hq' hz'); (cases hx8.symm.trans hz'; exact ⟨x13, by omega, hx13, by assumption, hall, .inr ⟨by omega, (four_get hx25).symm.trans (by omega)⟩⟩)⟩ (by first | omega | (dsimp only; omega)) ((.cons rfl (.cons rfl (.cons rfl (.cons rfl (.cons rfl (.cons rfl .nil))))))) rfl
    · refine Gx.exit ?_
      refine Gx.thenE ?_
      refine Gx.thenE ?_
      refine Gx.blkE ?_
      refine Gx.thenN ?_
      refine Gx.seq ?_
      refine Gx.region ?_
      refine Gx.val rfl rfl rfl (val_assign rfl rfl) ?_
      refine Gx.done ?_
      refine Gx.thenN ?_
      refine Gx.ret ?_
      refine Gx.ret1 Try.results11 rfl ?_
      exact ⟨true, rfl, fun _ => ⟨hfull, by rw [show xs.length = q by omega]; exact hp⟩, fun _ => rfl⟩

end Go.Proofs.Ytocgifddjpbmlaa
