/- Of writes alone there is an order; the numbering plays no part. No condition. -/
import Derived.Test.YtocgifddjpbmlaaA4
namespace Go.Proofs.Ytocgifddjpbmlaa
open Go.RowKit
set_option linter.unusedVariables false
set_option linter.unusedSimpArgs false
set_option maxRecDepth 100000

def LinR (h : List Op) (v : Value) : Prop := ∃ a n c b e, v = .tuple #[.slice a n c, .bool b, .int .i64 e] ∧ (e = 0 ↔ OkH h) ∧ (OkH h → b = (FL h []).isSome ∧ n = ((FL h []).getD []).length)
theorem linear_any {W : World} {hv : Value} {h : List Op} (hs : SlS FO 6 W hv h) : Calls Try.prog 9 #[hv] W fun e w' => ∃ v, e = .returned v ∧ LinR h v ∧ Below W.heap.size W w' := by
  by_cases hok : OkH h
  · exact (linear_isb hok hs).mono fun e w' ⟨v, he, ⟨a, n, c, hv, hn⟩, hb⟩ => ⟨v, he, ⟨a, n, c, _, _, hv, iff_of_true rfl hok, fun _ => ⟨rfl, hn⟩⟩, hb⟩
  · exact (linear_no hs hok).mono fun e w' ⟨v, he, ⟨c, hv, hc⟩, hb⟩ => ⟨v, he, ⟨_, _, _, _, _, hv, iff_of_false hc hok, fun h => absurd h hok⟩, hb⟩
theorem sls_nil {α : Type} {f : α → List Value} {sz : Nat} {w : World} : SlS f sz w (.slice none 0 0) ([] : List α) := ⟨none, 0, rfl, Nat.zero_le _, ⟨fun _ => rfl, Nat.le_refl _⟩, fun j x hx => by simp at hx⟩
theorem empty_ok : OkH [] := ⟨by decide, fun i a h => by simp at h, fun i j a b h => by simp at h⟩
theorem empty_len : ((FL [] []).getD []).length = 0 := by
  cases e : FL [] [] with
  | none => rfl
  | some m => have := ((FL_ext _ rfl (Gd.nil []) e).gd (Gd.nil [])).len; simpa using this
theorem empty_is : (FL [] []).isSome = true := FL_iff.2 ⟨[], .done (fullB_iff.2 fun i a h => by simp at h)⟩
/-- of writes alone -/
theorem ext_writes {h : List Op} (hok : OkH h) (hw : ∀ a ∈ h, a.write = true) : ∀ (n : Nat) (l : List Nat), h.length - l.length = n → Gd h l → ∃ m, Ext h l m := by
  intro n
  induction n using Nat.strongRecOn with
  | _ n ih =>
  intro l hn G
  by_cases hf : fullB h l = true
  · exact ⟨l, .done hf⟩
  · have hex : ∃ (t i : Nat) (a : Op), h[i]? = some a ∧ ¬ i ∈ l ∧ a.fr.toNat = t := by
      refine Classical.byContradiction fun hc => hf (fullB_iff.2 fun i a hi _ => Classical.byContradiction fun hm => hc ⟨_, i, a, hi, hm, rfl⟩)
    obtain ⟨t, ht⟩ := hex
    obtain ⟨t, ⟨i, a, hi, hm, ht⟩, hmin⟩ := least_nat (p := fun t => ∃ (i : Nat) (a : Op), h[i]? = some a ∧ ¬ i ∈ l ∧ a.fr.toNat = t) t ht
    have hmay : mayB h l i = true := (mayB_iff hi).2 ⟨hm, .inl (hw a (List.mem_of_getElem? hi)), fun j b hj hjm hab => by
      have h1 := aheadB_iff.1 hab
      have h2 := hmin _ ⟨j, b, hj, hjm, rfl⟩
      have h3 := hok.reg _ _ hi
      have h4 := hok.reg _ _ hj
      omega⟩
    have G2 := (G.may hmay).len
    obtain ⟨m, E⟩ := ih _ (by simp at G2; simp; omega) (l ++ [i]) rfl (G.may hmay)
    exact ⟨m, .step hmay E⟩
theorem writes_ok {h : List Op} (hok : OkH h) (hw : ∀ a ∈ h, a.write = true) : (FL h []).isSome = true := FL_iff.2 (ext_writes hok hw _ [] rfl (Gd.nil h))
theorem writes_any {W : World} {hv : Value} {h : List Op}  (hs : SlS FO 6 W hv h) (hbig : h.length * 48 ≤ 140737488351232) :
    Calls Try.prog 7 #[hv] W fun e w' => e = .returned (.bool true) ∧ Below W.heap.size W w' := by
  have hlen := sls_bd hs
  refine calls_pure (Gx.enter (l := []) Try.func7 rfl Try.ntmps7 rfl (Sat.start W) ?_)
  refine Gx.know (m' := [(0, hv)]) (.cons rfl .nil) ?_
  refine Gx.seq ?_
  refine Gx.region ?_
  refine Gx.val rfl rfl rfl (val_assign rfl rfl) ?_
  refine Gx.done ?_
  refine Gx.thenN ?_
  refine Gx.seq ?_
  refine Gx.region ?_
  refine Gx.val rfl rfl rfl (val_assign rfl rfl) ?_
  refine Gx.done ?_
  refine Gx.thenN ?_
  refine Gx.seq ?_
  refine Gx.seq ?_
  refine Gx.ownNil FO 6 ?_
  refine Gx.region ?_
  refine Gx.val rfl rfl rfl (val_move rfl rfl) ?_
  refine Gx.val rfl rfl rfl (val_len rfl Try.underlying22 rfl (len_base hs)) ?_
  refine Gx.val rfl rfl rfl (val_move rfl rfl) ?_
  refine Gx.done ?_
  refine Gx.thenN ?_
  refine Gx.block ?_
  refine Gx.loop (ι := Nat × Value) (fun ξ => (ξ.1 ≤ h.length)) (fun ξ => [(9, hv), (10, .int .i64 ((h.length : Nat) : Int)), (3, ξ.2), (11, .int .i64 ((ξ.1 : Nat) : Int))]) (fun ξ => [Hp.own FO 6 ξ.2 ((h.take ξ.1).filter (fun a => a.write))]) (fun ξ => h.length - ξ.1) (0, (.slice none 0 0)) (by first | omega | (dsimp only; omega)) ((.cons rfl (.cons rfl (.cons rfl (.cons rfl .nil))))) rfl ?_
  rintro ⟨k, lv⟩ hk
  dsimp only at hk
  refine Gx.know (m' := [(9, hv), (10, .int .i64 ((h.length : Nat) : Int)), (3, lv), (11, .int .i64 ((k : Nat) : Int))]) (.cons rfl (.cons rfl (.cons rfl (.cons rfl .nil)))) (Gx.norm (l' := [Hp.own FO 6 lv ((h.take k).filter (fun a => a.write))]) rfl ?_)
  have hfl : ((h.take k).filter (fun a => a.write)).length ≤ h.length := Nat.le_trans (List.length_filter_le ..) (by rw [List.length_take]; omega)
  refine Gx.seq ?_
  refine Gx.region ?_
  refine Gx.val rfl rfl rfl (val_lss rfl rfl rfl) ?_
  refine Gx.done ?_
  refine Gx.thenN ?_
  refine Gx.seq ?_
  refine Gx.dec rfl (fun h1 => ?_) (fun h1 => ?_)
  · refine Gx.skip ?_
    refine Gx.thenN ?_
    refine Gx.seq ?_
    refine Gx.block ?_
    refine Gx.seq ?_
    refine Gx.region ?_
    obtain ⟨x2, hx2⟩ := get_of_lt (xs := h) (k := k) (by omega)
    refine Gx.val rfl rfl rfl (val_ixa rfl Try.underlying22 Try.ty31 rfl rfl (j := k) (rfl) (reach_base hs hx2)) ?_
    refine Gx.val rfl rfl rfl (Val.cast (val_loadA rfl Try.ty31 rfl rfl rfl (cells_base hs hx2)) (v' := .agg #[.int .i64 x2.who, .int .i64 x2.reg, .bool x2.write, .int .i64 x2.val, .int .i64 x2.fr, .int .i64 x2.to]) rfl) ?_
    refine Gx.eff rfl rfl rfl (eff_alloc rfl Try.ty31 (vs := [.int .i64 0, .int .i64 0, .bool false, .int .i64 0, .int .i64 0, .int .i64 0]) rfl) ?_
    rintro _ _ ⟨b3, rfl, rfl⟩
    refine Gx.eff0 rfl rfl (eff_store rfl Try.ty31 rfl rfl (us := [.int .i64 x2.who, .int .i64 x2.reg, .bool x2.write, .int .i64 x2.val, .int .i64 x2.fr, .int .i64 x2.to]) rfl rfl rfl (k := 0) rfl (rfl) (vs' := [.int .i64 x2.who, .int .i64 x2.reg, .bool x2.write, .int .i64 x2.val, .int .i64 x2.fr, .int .i64 x2.to]) (rfl) (l' := [Hp.rec_ b3 [.int .i64 x2.who, .int .i64 x2.reg, .bool x2.write, .int .i64 x2.val, .int .i64 x2.fr, .int .i64 x2.to], Hp.own FO 6 lv ((h.take k).filter (fun a => a.write))]) rfl) ?_
    rintro _ _ rfl
    refine Gx.done ?_
    refine Gx.thenN ?_
    refine Gx.seq ?_
    refine Gx.region ?_
    refine Gx.val rfl rfl rfl (Val.cast (val_fieldAddr rfl Try.underlying31 rfl Try.ty4 rfl rfl) (v' := ptr b3 2) rfl) ?_
    refine Gx.val rfl rfl rfl (val_load rfl Try.ty4 rfl rfl (cell_rec (k := 0) rfl rfl)) ?_
    refine Gx.done ?_
    refine Gx.thenN ?_
    refine Gx.bool rfl (fun h4 => ?_) (fun h4 => ?_)
    · refine Gx.region ?_
      refine Gx.val rfl rfl rfl (val_move rfl rfl) ?_
      refine Gx.val rfl rfl rfl (Val.cast (val_loadA rfl Try.ty31 rfl rfl rfl (cells_rec (k := 0) rfl)) (v' := .agg #[.int .i64 x2.who, .int .i64 x2.reg, .bool x2.write, .int .i64 x2.val, .int .i64 x2.fr, .int .i64 x2.to]) rfl) ?_
      refine Gx.eff rfl rfl rfl (eff_buildSlice rfl (qs := [(0, .agg #[.int .i64 x2.who, .int .i64 x2.reg, .bool x2.write, .int .i64 x2.val, .int .i64 x2.fr, .int .i64 x2.to])]) rfl rfl (cs := #[.int .i64 x2.who, .int .i64 x2.reg, .bool x2.write, .int .i64 x2.val, .int .i64 x2.fr, .int .i64 x2.to]) (vs := [.int .i64 x2.who, .int .i64 x2.reg, .bool x2.write, .int .i64 x2.val, .int .i64 x2.fr, .int .i64 x2.to]) (E := 31) rfl (fun w => by first | (go_simp; done) | (go_simp; rfl))) ?_
      rintro _ _ ⟨b5, rfl, rfl⟩
      refine Gx.eff rfl rfl rfl (eff_push (r := x2) rfl Try.eO FO_len FO_one rfl rfl (k := 0) rfl rfl (k' := 1) rfl (by omega) (by omega)) ?_
      rintro v6 _ ⟨hiv6, rfl⟩
      refine Gx.norm (l' := [Hp.rec_ b3 [.int .i64 x2.who, .int .i64 x2.reg, .bool x2.write, .int .i64 x2.val, .int .i64 x2.fr, .int .i64 x2.to], Hp.own FO 6 v6 (((h.take k).filter (fun a => a.write)) ++ [x2])]) rfl ?_
      refine Gx.val rfl rfl rfl (val_assign rfl rfl) ?_
      refine Gx.done ?_
      refine Gx.blkN ?_
      refine Gx.thenN ?_
      refine Gx.region ?_
      refine Gx.val rfl rfl rfl (val_add rfl rfl rfl (r := ((k + 1 : Nat) : Int)) (w64 (by omega) (by omega))) ?_
      refine Gx.val rfl rfl rfl (val_move rfl rfl) ?_
      refine Gx.done ?_
      refine Gx.thenN ?_
      refine Gx.drop 0 rfl ?_
      refine Gx.norm (l' := [Hp.own FO 6 v6 ((h.take (k + 1)).filter (fun a => a.write))]) (by rw [take_of hx2, List.filter_append]; simp only [List.filter_cons, List.filter_nil]; rw [if_pos (by simp_all)] <;> rfl) ?_
      exact Gx.round (k + 1, v6) (by first | omega | (dsimp only; omega)) (by first | omega | (dsimp only; omega)) ((.cons rfl (.cons rfl (.cons rfl (.cons rfl .nil))))) rfl
    · refine Gx.skip ?_
      refine Gx.blkN ?_
      refine Gx.thenN ?_
      refine Gx.region ?_
      refine Gx.val rfl rfl rfl (val_add rfl rfl rfl (r := ((k + 1 : Nat) : Int)) (w64 (by omega) (by omega))) ?_
      refine Gx.val rfl rfl rfl (val_move rfl rfl) ?_
      refine Gx.done ?_
      refine Gx.thenN ?_
      refine Gx.drop 0 rfl ?_
      refine Gx.norm (l' := [Hp.own FO 6 lv ((h.take (k + 1)).filter (fun a => a.write))]) (by rw [take_of hx2, List.filter_append]; simp only [List.filter_cons, List.filter_nil]; rw [if_neg (by simp_all)]; rw [List.append_nil] <;> rfl) ?_
      exact Gx.round (k + 1, lv) (by first | omega | (dsimp only; omega)) (by first | omega | (dsimp only; omega)) ((.cons rfl (.cons rfl (.cons rfl (.cons rfl .nil))))) rfl
  · refine Gx.exit ?_
    refine Gx.thenE ?_
    refine Gx.thenE ?_
    refine Gx.blkE ?_
    refine Gx.thenN ?_
    refine Gx.seq ?_
    obtain rfl : k = h.length := by omega
    obtain ⟨l, hl⟩ : ∃ l, l = h.filter (fun a => a.write) := ⟨_, rfl⟩
    have hwr : ∀ a ∈ l, a.write = true := fun a ha => by rw [hl] at ha; exact (List.mem_filter.1 ha).2
    refine Gx.norm (l' := [Hp.own FO 6 lv l]) (by rw [List.take_length, ← hl] <;> rfl) ?_
    have hll : l.length ≤ 140737488355328 := by rw [hl]; exact Nat.le_trans (List.length_filter_le ..) hlen
    refine Gx.region ?_
    refine Gx.val rfl rfl rfl (val_move rfl rfl) ?_
    refine Gx.eff rfl rfl rfl (eff_callE (vs := [lv]) rfl Try.fn9 rfl (R := LinR l) (fun w H => linear_any ((H.at_ (k := 0) rfl).sls (by omega)))) ?_
    rintro _ _ ⟨⟨a7, n7, c7, b7, e7, rfl, hA7, hB7⟩, rfl⟩
    refine Gx.val rfl rfl rfl (val_move rfl rfl) ?_
    refine Gx.val rfl rfl rfl (val_extract rfl rfl rfl) ?_
    refine Gx.val rfl rfl rfl (val_extract rfl rfl rfl) ?_
    refine Gx.val rfl rfl rfl (val_extract rfl rfl rfl) ?_
    refine Gx.val rfl rfl rfl (val_assign rfl rfl) ?_
    refine Gx.val rfl rfl rfl (val_assign rfl rfl) ?_
    refine Gx.val rfl rfl rfl (val_assign rfl rfl) ?_
    refine Gx.done ?_
    refine Gx.thenN ?_
    refine Gx.seq ?_
    refine Gx.seq ?_
    refine Gx.region ?_
    refine Gx.val rfl rfl rfl (val_move rfl rfl) ?_
    refine Gx.eff rfl rfl rfl (eff_callE (vs := [lv]) rfl Try.fn10 rfl (R := fun v => ∃ b : Bool, v = .bool b ∧ (b = true ↔ OkH l)) (fun w H => history_any ((H.at_ (k := 0) rfl).sls (by omega)))) ?_
    rintro _ _ ⟨⟨b8, rfl, hb8⟩, rfl⟩
    refine Gx.val rfl rfl rfl (val_not rfl rfl) ?_
    refine Gx.done ?_
    refine Gx.thenN ?_
    refine Gx.bool rfl (fun h9 => ?_) (fun h9 => ?_)
    · refine Gx.seq ?_
      refine Gx.region ?_
      refine Gx.val rfl rfl rfl (val_move rfl rfl) ?_
      refine Gx.val rfl rfl rfl (val_neq rfl rfl rfl) ?_
      refine Gx.val rfl rfl rfl (val_assign rfl rfl) ?_
      refine Gx.done ?_
      refine Gx.thenN ?_
      refine Gx.ret ?_
      refine Gx.thenR ?_
      refine Gx.ret1 Try.results7 rfl ?_
      exact congrArg Value.bool (decide_eq_true (by intro q; have := hb8.2 (hA7.1 q); simp_all))
    · refine Gx.skip ?_
      refine Gx.thenN ?_
      refine Gx.seq ?_
      refine Gx.region ?_
      refine Gx.val rfl rfl rfl (val_move rfl rfl) ?_
      refine Gx.val rfl rfl rfl (val_eql rfl rfl rfl) ?_
      refine Gx.val rfl rfl rfl (val_move rfl rfl) ?_
      refine Gx.cases (t := 35) rfl (fun h10 => ?_) (fun h10 => ?_)
      · refine Gx.valg rfl rfl rfl rfl rfl (val_move rfl rfl) ?_
        refine Gx.val rfl rfl rfl (val_pickT rfl rfl rfl) ?_
        refine Gx.val rfl rfl rfl (val_assign rfl rfl) ?_
        refine Gx.done ?_
        refine Gx.thenN ?_
        refine Gx.ret ?_
        refine Gx.ret1 Try.results7 rfl ?_
        have hk := hb8.1 (by simp_all)
        exact congrArg Value.bool (by rw [(hB7 hk).1]; exact writes_ok hk hwr)
      · refine Gx.skipg rfl rfl rfl rfl rfl rfl ?_
        refine Gx.val rfl rfl rfl (val_pickF rfl rfl rfl) ?_
        refine Gx.val rfl rfl rfl (val_assign rfl rfl) ?_
        refine Gx.done ?_
        refine Gx.thenN ?_
        refine Gx.ret ?_
        refine Gx.ret1 Try.results7 rfl ?_
        exfalso; have := hA7.2 (hb8.1 (by simp_all)); omega


def fl (n i : Nat) : Nat := n - 1 - i
section
variable {h : List Op}
theorem rev_get {i : Nat} (hi : i < h.length) : h.reverse[fl h.length i]? = h[i]? := by
  unfold fl
  rw [List.getElem?_reverse (by omega)]
  congr 1; omega
theorem fl_lt {n i : Nat} (hi : i < n) : fl n i < n := by unfold fl; omega
theorem fl_fl {n i : Nat} (hi : i < n) : fl n (fl n i) = i := by unfold fl; omega
theorem mem_fl {l : List Nat} (G : Gd h l) {i : Nat} (hi : i < h.length) : fl h.length i ∈ l.map (fl h.length) ↔ i ∈ l := by
  rw [List.mem_map]
  constructor
  · rintro ⟨j, hj, e⟩
    have := G.lt j hj
    have e2 := congrArg (fl h.length) e
    rw [fl_fl this, fl_fl hi] at e2
    exact e2 ▸ hj
  · exact fun hm => ⟨i, hm, rfl⟩
theorem regs_fl : ∀ (l : List Nat) (R : Nat → Int), (∀ i ∈ l, i < h.length) → (l.map (fl h.length)).foldl (goR h.reverse) R = l.foldl (goR h) R
  | [], R, _ => rfl
  | i :: l, R, hl => by
    rw [List.map_cons, List.foldl_cons, List.foldl_cons, show goR h.reverse R (fl h.length i) = goR h R i by unfold goR; rw [rev_get (hl i (by simp))]]
    exact regs_fl l _ fun j hj => hl j (by simp [hj])
theorem full_fl {l : List Nat} (G : Gd h l) (H : fullB h l = true) : fullB h.reverse (l.map (fl h.length)) = true := fullB_iff.2 fun i a hi h0 => by
  have hlt := (List.getElem?_eq_some_iff.1 hi).1
  rw [List.length_reverse] at hlt
  rw [← fl_fl hlt] at hi ⊢
  rw [rev_get (fl_lt hlt)] at hi
  exact (mem_fl G (fl_lt hlt)).2 (fullB_iff.1 H _ _ hi h0)
theorem may_fl {l : List Nat} {i : Nat} (G : Gd h l) (H : mayB h l i = true) : mayB h.reverse (l.map (fl h.length)) (fl h.length i) = true := by
  have hi := (mayB_lt H).1
  obtain ⟨a, ha⟩ := get_of_lt hi
  obtain ⟨h1, h2, h3⟩ := (mayB_iff ha).1 H
  refine (mayB_iff ((rev_get hi).trans ha)).2 ⟨fun hm => h1 ((mem_fl G hi).1 hm), ?_, fun j b hj hm => ?_⟩
  · unfold regsL; rw [regs_fl l _ G.lt]; exact h2
  · have hlt := (List.getElem?_eq_some_iff.1 hj).1
    rw [List.length_reverse] at hlt
    rw [← fl_fl hlt] at hj hm
    rw [rev_get (fl_lt hlt)] at hj
    exact h3 _ _ hj fun hm' => hm ((mem_fl G (fl_lt hlt)).2 hm')
theorem ext_fl {l m : List Nat} (E : Ext h l m) : Gd h l → Ext h.reverse (l.map (fl h.length)) (m.map (fl h.length)) := by
  induction E with
  | done hf => exact fun G => .done (full_fl G hf)
  | step hm E ih => exact fun G => .step (may_fl G hm) (by simpa using ih (G.may hm))
theorem ok_fl (hok : OkH h) : OkH h.reverse := by
  have hr : ∀ (i : Nat) (a : Op), h.reverse[i]? = some a → i < h.length ∧ h[fl h.length i]? = some a := fun i a hi => by
    have hlt := (List.getElem?_eq_some_iff.1 hi).1
    rw [List.length_reverse] at hlt
    refine ⟨hlt, ?_⟩
    rw [← fl_fl hlt, rev_get (fl_lt hlt)] at hi; exact hi
  refine ⟨by rw [List.length_reverse]; exact hok.len, fun i a hi => hok.reg _ _ (hr i a hi).2, fun i j a b hi hj hne hw => hok.two _ _ _ _ (hr i a hi).2 (hr j b hj).2 (fun e => hne ?_) hw⟩
  have := congrArg (fl h.length) e
  rwa [fl_fl (hr i a hi).1, fl_fl (hr j b hj).1] at this
theorem ok_rev : OkH h.reverse ↔ OkH h := ⟨fun H => by have := ok_fl H; rwa [List.reverse_reverse] at this, ok_fl⟩
theorem is_rev1 (H : (FL h []).isSome = true) : (FL h.reverse []).isSome = true := by
  obtain ⟨m, E⟩ := FL_iff.1 H
  exact FL_iff.2 ⟨_, ext_fl E (Gd.nil h)⟩
theorem is_rev : (FL h.reverse []).isSome = (FL h []).isSome := by
  rw [Bool.eq_iff_iff]
  exact ⟨fun H => by have := is_rev1 H; rwa [List.reverse_reverse] at this, is_rev1⟩
end
theorem drop_get {α : Type} {l : List α} {q : Nat} {x : α} (hq : 0 < q) (h : l[q - 1]? = some x) : (l.drop (q - 1)).reverse = (l.drop q).reverse ++ [x] := by
  obtain ⟨hlt, rfl⟩ := List.getElem?_eq_some_iff.1 h
  rw [List.drop_eq_getElem_cons hlt, List.reverse_cons, show q - 1 + 1 = q by omega]
theorem back_any {W : World} {hv : Value} {h : List Op}  (hs : SlS FO 6 W hv h) (hbig : h.length * 48 ≤ 140737488351232) :
    Calls Try.prog 8 #[hv] W fun e w' => e = .returned (.bool true) ∧ Below W.heap.size W w' := by
  have hlen := sls_bd hs
  refine calls_pure (Gx.enter (l := []) Try.func8 rfl Try.ntmps8 rfl (Sat.start W) ?_)
  refine Gx.know (m' := [(0, hv)]) (.cons rfl .nil) ?_
  refine Gx.seq ?_
  refine Gx.region ?_
  refine Gx.val rfl rfl rfl (val_assign rfl rfl) ?_
  refine Gx.done ?_
  refine Gx.thenN ?_
  refine Gx.seq ?_
  refine Gx.region ?_
  refine Gx.val rfl rfl rfl (val_assign rfl rfl) ?_
  refine Gx.done ?_
  refine Gx.thenN ?_
  refine Gx.seq ?_
  refine Gx.seq ?_
  refine Gx.ownNil FO 6 ?_
  refine Gx.norm (l' := [Hp.own FO 6 (.slice none 0 0) ((h.drop h.length).reverse)]) (by rw [List.drop_length] <;> rfl) ?_
  refine Gx.region ?_
  refine Gx.val rfl rfl rfl (val_move rfl rfl) ?_
  refine Gx.val rfl rfl rfl (val_len rfl Try.underlying22 rfl (len_base hs)) ?_
  refine Gx.val rfl rfl rfl (val_sub rfl rfl rfl (r := (((h.length : Nat) : Int) - 1)) (w64 (by omega) (by omega))) ?_
  refine Gx.val rfl rfl rfl (val_assign rfl rfl) ?_
  refine Gx.done ?_
  refine Gx.thenN ?_
  refine Gx.block ?_
  refine Gx.loop (ι := Nat × Value) (fun ξ => (ξ.1 ≤ h.length)) (fun ξ => [(0, hv), (3, ξ.2), (4, .int .i64 (((ξ.1 : Nat) : Int) - 1))]) (fun ξ => [Hp.own FO 6 ξ.2 ((h.drop ξ.1).reverse)]) (fun ξ => ξ.1) (h.length, (.slice none 0 0)) (by first | omega | (dsimp only; omega)) ((.cons rfl (.cons rfl (.cons rfl .nil)))) rfl ?_
  rintro ⟨q, lv⟩ hq
  dsimp only at hq
  refine Gx.know (m' := [(0, hv), (3, lv), (4, .int .i64 (((q : Nat) : Int) - 1))]) (.cons rfl (.cons rfl (.cons rfl .nil))) (Gx.norm (l' := [Hp.own FO 6 lv ((h.drop q).reverse)]) rfl ?_)
  refine Gx.seq ?_
  refine Gx.seq ?_
  refine Gx.region ?_
  refine Gx.val rfl rfl rfl (val_move rfl rfl) ?_
  refine Gx.val rfl rfl rfl (val_geq rfl rfl rfl) ?_
  refine Gx.done ?_
  refine Gx.thenN ?_
  refine Gx.dec rfl (fun h1 => ?_) (fun h1 => ?_)
  · refine Gx.skip ?_
    refine Gx.thenN ?_
    refine Gx.seq ?_
    refine Gx.block ?_
    refine Gx.region ?_
    refine Gx.val rfl rfl rfl (val_move rfl rfl) ?_
    refine Gx.val rfl rfl rfl (val_move rfl rfl) ?_
    refine Gx.val rfl rfl rfl (val_move rfl rfl) ?_
    obtain ⟨x2, hx2⟩ := get_of_lt (xs := h) (k := (q - 1)) (by omega)
    refine Gx.val rfl rfl rfl (val_ixa rfl Try.underlying22 Try.ty31 rfl rfl (j := (q - 1)) (by omega) (reach_base hs hx2)) ?_
    refine Gx.val rfl rfl rfl (Val.cast (val_loadA rfl Try.ty31 rfl rfl rfl (cells_base hs hx2)) (v' := .agg #[.int .i64 x2.who, .int .i64 x2.reg, .bool x2.write, .int .i64 x2.val, .int .i64 x2.fr, .int .i64 x2.to]) rfl) ?_
    refine Gx.eff rfl rfl rfl (eff_buildSlice rfl (qs := [(0, .agg #[.int .i64 x2.who, .int .i64 x2.reg, .bool x2.write, .int .i64 x2.val, .int .i64 x2.fr, .int .i64 x2.to])]) rfl rfl (cs := #[.int .i64 x2.who, .int .i64 x2.reg, .bool x2.write, .int .i64 x2.val, .int .i64 x2.fr, .int .i64 x2.to]) (vs := [.int .i64 x2.who, .int .i64 x2.reg, .bool x2.write, .int .i64 x2.val, .int .i64 x2.fr, .int .i64 x2.to]) (E := 31) rfl (fun w => by first | (go_simp; done) | (go_simp; rfl))) ?_
    rintro _ _ ⟨b3, rfl, rfl⟩
    refine Gx.eff rfl rfl rfl (eff_push (r := x2) rfl Try.eO FO_len FO_one rfl rfl (k := 0) rfl rfl (k' := 0) rfl (by rw [List.length_reverse, List.length_drop]; omega) (by rw [List.length_reverse, List.length_drop]; omega)) ?_
    rintro v4 _ ⟨hiv4, rfl⟩
    refine Gx.norm (l' := [Hp.own FO 6 v4 ((h.drop q).reverse ++ [x2])]) rfl ?_
    refine Gx.val rfl rfl rfl (val_assign rfl rfl) ?_
    refine Gx.done ?_
    refine Gx.blkN ?_
    refine Gx.thenN ?_
    refine Gx.region ?_
    refine Gx.val rfl rfl rfl (val_move rfl rfl) ?_
    refine Gx.val rfl rfl rfl (val_sub rfl rfl rfl (r := (((q - 1 : Nat) : Int) - 1)) (w64 (by omega) (by omega))) ?_
    refine Gx.val rfl rfl rfl (val_assign rfl rfl) ?_
    refine Gx.done ?_
    refine Gx.thenN ?_
    refine Gx.norm (l' := [Hp.own FO 6 v4 ((h.drop (q - 1)).reverse)]) (by rw [drop_get (by omega) hx2] <;> rfl) ?_
    exact Gx.round ((q - 1), v4) (by first | omega | (dsimp only; omega)) (by first | omega | (dsimp only; omega)) ((.cons rfl (.cons rfl (.cons rfl .nil)))) rfl
  · refine Gx.exit ?_
    refine Gx.thenE ?_
    refine Gx.thenE ?_
    refine Gx.blkE ?_
    refine Gx.thenN ?_
    refine Gx.seq ?_
    obtain rfl : q = 0 := by omega
    refine Gx.norm (l' := [Hp.own FO 6 lv h.reverse]) (by rw [List.drop_zero] <;> rfl) ?_
    refine Gx.region ?_
    refine Gx.val rfl rfl rfl (val_move rfl rfl) ?_
    refine Gx.eff rfl rfl rfl (eff_callE (vs := [hv]) rfl Try.fn9 rfl (R := LinR h) (fun w H => linear_any (hs.below H.below))) ?_
    rintro _ _ ⟨⟨a5, n5, c5, b5, e5, rfl, hA5, hB5⟩, rfl⟩
    refine Gx.val rfl rfl rfl (val_move rfl rfl) ?_
    refine Gx.val rfl rfl rfl (val_extract rfl rfl rfl) ?_
    refine Gx.val rfl rfl rfl (val_extract rfl rfl rfl) ?_
    refine Gx.val rfl rfl rfl (val_extract rfl rfl rfl) ?_
    refine Gx.val rfl rfl rfl (val_assign rfl rfl) ?_
    refine Gx.val rfl rfl rfl (val_assign rfl rfl) ?_
    refine Gx.val rfl rfl rfl (val_assign rfl rfl) ?_
    refine Gx.done ?_
    refine Gx.thenN ?_
    refine Gx.seq ?_
    refine Gx.region ?_
    refine Gx.val rfl rfl rfl (val_move rfl rfl) ?_
    refine Gx.eff rfl rfl rfl (eff_callE (vs := [lv]) rfl Try.fn9 rfl (R := LinR h.reverse) (fun w H => linear_any ((H.at_ (k := 0) rfl).sls (by rw [List.length_reverse]; exact hlen)))) ?_
    rintro _ _ ⟨⟨a6, n6, c6, b6, e6, rfl, hA6, hB6⟩, rfl⟩
    refine Gx.val rfl rfl rfl (val_move rfl rfl) ?_
    refine Gx.val rfl rfl rfl (val_extract rfl rfl rfl) ?_
    refine Gx.val rfl rfl rfl (val_extract rfl rfl rfl) ?_
    refine Gx.val rfl rfl rfl (val_extract rfl rfl rfl) ?_
    refine Gx.val rfl rfl rfl (val_assign rfl rfl) ?_
    refine Gx.val rfl rfl rfl (val_assign rfl rfl) ?_
    refine Gx.val rfl rfl rfl (val_assign rfl rfl) ?_
    refine Gx.done ?_
    refine Gx.thenN ?_
    refine Gx.seq ?_
    refine Gx.seq ?_
    refine Gx.region ?_
    refine Gx.val rfl rfl rfl (val_move rfl rfl) ?_
    refine Gx.eff rfl rfl rfl (eff_callE (vs := [hv]) rfl Try.fn10 rfl (R := fun v => ∃ b : Bool, v = .bool b ∧ (b = true ↔ OkH h)) (fun w H => history_any (hs.below H.below))) ?_
    rintro _ _ ⟨⟨b7, rfl, hb7⟩, rfl⟩
    refine Gx.val rfl rfl rfl (val_not rfl rfl) ?_
    refine Gx.done ?_
    refine Gx.thenN ?_
    refine Gx.bool rfl (fun h8 => ?_) (fun h8 => ?_)
    · refine Gx.seq ?_
      refine Gx.region ?_
      refine Gx.val rfl rfl rfl (val_move rfl rfl) ?_
      refine Gx.val rfl rfl rfl (val_neq rfl rfl rfl) ?_
      refine Gx.val rfl rfl rfl (val_move rfl rfl) ?_
      refine Gx.cases (t := 45) rfl (fun h9 => ?_) (fun h9 => ?_)
      · refine Gx.valg rfl rfl rfl rfl rfl (val_move rfl rfl) ?_
        refine Gx.valg rfl rfl rfl rfl rfl (val_neq rfl rfl rfl) ?_
        refine Gx.val rfl rfl rfl (val_pickT rfl rfl rfl) ?_
        refine Gx.val rfl rfl rfl (val_assign rfl rfl) ?_
        refine Gx.done ?_
        refine Gx.thenN ?_
        refine Gx.ret ?_
        refine Gx.thenR ?_
        refine Gx.ret1 Try.results8 rfl ?_
        exact congrArg Value.bool (decide_eq_true (by intro q; have := hb7.2 (ok_rev.1 (hA6.1 q)); simp_all))
      · refine Gx.skipg rfl rfl rfl rfl rfl rfl ?_
        refine Gx.skipg rfl rfl rfl rfl rfl rfl ?_
        refine Gx.val rfl rfl rfl (val_pickF rfl rfl rfl) ?_
        refine Gx.val rfl rfl rfl (val_assign rfl rfl) ?_
        refine Gx.done ?_
        refine Gx.thenN ?_
        refine Gx.ret ?_
        refine Gx.thenR ?_
        refine Gx.ret1 Try.results8 rfl ?_
        exfalso; have := hb7.2 (hA5.1 (by omega)); simp_all
    · refine Gx.skip ?_
      refine Gx.thenN ?_
      refine Gx.seq ?_
      refine Gx.region ?_
      refine Gx.eff rfl rfl rfl (eff_callE (vs := [.slice none 0 0]) rfl Try.fn9 rfl (R := LinR ([])) (fun w H => linear_any sls_nil)) ?_
      rintro _ _ ⟨⟨a10, n10, c10, b10, e10, rfl, hA10, hB10⟩, rfl⟩
      refine Gx.val rfl rfl rfl (val_move rfl rfl) ?_
      refine Gx.val rfl rfl rfl (val_extract rfl rfl rfl) ?_
      refine Gx.val rfl rfl rfl (val_extract rfl rfl rfl) ?_
      refine Gx.val rfl rfl rfl (val_extract rfl rfl rfl) ?_
      refine Gx.val rfl rfl rfl (val_assign rfl rfl) ?_
      refine Gx.val rfl rfl rfl (val_assign rfl rfl) ?_
      refine Gx.val rfl rfl rfl (val_assign rfl rfl) ?_
      refine Gx.done ?_
      refine Gx.thenN ?_
      refine Gx.seq ?_
      refine Gx.region ?_
      refine Gx.val rfl rfl rfl (val_move rfl rfl) ?_
      refine Gx.val rfl rfl rfl (val_eql rfl rfl rfl) ?_
      refine Gx.val rfl rfl rfl (val_move rfl rfl) ?_
      refine Gx.cases (t := 56) rfl (fun h11 => ?_) (fun h11 => ?_)
      · refine Gx.valg rfl rfl rfl rfl rfl (val_move rfl rfl) ?_
        refine Gx.valg rfl rfl rfl rfl rfl (val_eql rfl rfl rfl) ?_
        refine Gx.val rfl rfl rfl (val_pickT rfl rfl rfl) ?_
        refine Gx.val rfl rfl rfl (val_move rfl rfl) ?_
        refine Gx.cases (t := 60) rfl (fun h12 => ?_) (fun h12 => ?_)
        · refine Gx.valg rfl rfl rfl rfl rfl (val_move rfl rfl) ?_
          refine Gx.valg rfl rfl rfl rfl rfl (val_eql rfl rfl rfl) ?_
          refine Gx.val rfl rfl rfl (val_pickT rfl rfl rfl) ?_
          refine Gx.val rfl rfl rfl (val_move rfl rfl) ?_
          refine Gx.cases (t := 64) rfl (fun h13 => ?_) (fun h13 => ?_)
          · refine Gx.valg rfl rfl rfl rfl rfl (val_move rfl rfl) ?_
            refine Gx.val rfl rfl rfl (val_pickT rfl rfl rfl) ?_
            refine Gx.val rfl rfl rfl (val_move rfl rfl) ?_
            refine Gx.casesB (t := 67) rfl (fun h14 => ?_) (fun h14 => ?_)
            · refine Gx.valg rfl rfl rfl rfl rfl (val_move rfl rfl) ?_
              refine Gx.valg rfl rfl rfl rfl rfl (val_len rfl Try.underlying23 rfl len_lit) ?_
              refine Gx.valg rfl rfl rfl rfl rfl (val_eql rfl rfl rfl) ?_
              refine Gx.val rfl rfl rfl (val_pickT rfl rfl rfl) ?_
              refine Gx.val rfl rfl rfl (val_move rfl rfl) ?_
              refine Gx.cases (t := 72) rfl (fun h15 => ?_) (fun h15 => ?_)
              · refine Gx.valg rfl rfl rfl rfl rfl (val_move rfl rfl) ?_
                refine Gx.valg rfl rfl rfl rfl rfl (val_move rfl rfl) ?_
                refine Gx.valg rfl rfl rfl rfl rfl (val_eqlB Try.underlying4 rfl rfl rfl) ?_
                refine Gx.val rfl rfl rfl (val_pickT rfl rfl rfl) ?_
                refine Gx.val rfl rfl rfl (val_assign rfl rfl) ?_
                refine Gx.done ?_
                refine Gx.thenN ?_
                refine Gx.ret ?_
                have hk := hb7.1 (by simp_all)
                have e1 := hA5.2 hk
                have e2 := hA6.2 (ok_rev.2 hk)
                have e3 := hA10.2 empty_ok
                have i1 := (hB5 hk).1
                have i2 := (hB6 (ok_rev.2 hk)).1
                have i3 := hB10 empty_ok
                refine Gx.ret1 Try.results8 rfl ?_
                first | (exfalso; omega) | (exfalso; have i4 := i3.2.trans empty_len; omega) | (exfalso; simp_all [empty_is]; done) | (exact congrArg Value.bool (by rw [i1, i2, is_rev]; simp))
              · refine Gx.skipg rfl rfl rfl rfl rfl rfl ?_
                refine Gx.skipg rfl rfl rfl rfl rfl rfl ?_
                refine Gx.skipg rfl rfl rfl rfl rfl rfl ?_
                refine Gx.val rfl rfl rfl (val_pickF rfl rfl rfl) ?_
                refine Gx.val rfl rfl rfl (val_assign rfl rfl) ?_
                refine Gx.done ?_
                refine Gx.thenN ?_
                refine Gx.ret ?_
                have hk := hb7.1 (by simp_all)
                have e1 := hA5.2 hk
                have e2 := hA6.2 (ok_rev.2 hk)
                have e3 := hA10.2 empty_ok
                have i1 := (hB5 hk).1
                have i2 := (hB6 (ok_rev.2 hk)).1
                have i3 := hB10 empty_ok
                refine Gx.ret1 Try.results8 rfl ?_
                first | (exfalso; omega) | (exfalso; have i4 := i3.2.trans empty_len; omega) | (exfalso; simp_all [empty_is]; done) | (exact congrArg Value.bool (by rw [i1, i2, is_rev]; simp))
            · refine Gx.skipg rfl rfl rfl rfl rfl rfl ?_
              refine Gx.skipg rfl rfl rfl rfl rfl rfl ?_
              refine Gx.skipg rfl rfl rfl rfl rfl rfl ?_
              refine Gx.val rfl rfl rfl (val_pickF rfl rfl rfl) ?_
              refine Gx.val rfl rfl rfl (val_move rfl rfl) ?_
              refine Gx.skipg rfl rfl rfl rfl rfl rfl ?_
              refine Gx.skipg rfl rfl rfl rfl rfl rfl ?_
              refine Gx.skipg rfl rfl rfl rfl rfl rfl ?_
              refine Gx.val rfl rfl rfl (val_pickF rfl rfl rfl) ?_
              refine Gx.val rfl rfl rfl (val_assign rfl rfl) ?_
              refine Gx.done ?_
              refine Gx.thenN ?_
              refine Gx.ret ?_
              have hk := hb7.1 (by simp_all)
              have e1 := hA5.2 hk
              have e2 := hA6.2 (ok_rev.2 hk)
              have e3 := hA10.2 empty_ok
              have i1 := (hB5 hk).1
              have i2 := (hB6 (ok_rev.2 hk)).1
              have i3 := hB10 empty_ok
              refine Gx.ret1 Try.results8 rfl ?_
              first | (exfalso; omega) | (exfalso; have i4 := i3.2.trans empty_len; omega) | (exfalso; simp_all [empty_is]; done) | (exact congrArg Value.bool (by rw [i1, i2, is_rev]; simp))
          · refine Gx.skipg rfl rfl rfl rfl rfl rfl ?_
            refine Gx.val rfl rfl rfl (val_pickF rfl rfl rfl) ?_
            refine Gx.val rfl rfl rfl (val_move rfl rfl) ?_
            refine Gx.skipg rfl rfl rfl rfl rfl rfl ?_
            refine Gx.skipg rfl rfl rfl rfl rfl rfl ?_
            refine Gx.skipg rfl rfl rfl rfl rfl rfl ?_
            refine Gx.val rfl rfl rfl (val_pickF rfl rfl rfl) ?_
            refine Gx.val rfl rfl rfl (val_move rfl rfl) ?_
            refine Gx.skipg rfl rfl rfl rfl rfl rfl ?_
            refine Gx.skipg rfl rfl rfl rfl rfl rfl ?_
            refine Gx.skipg rfl rfl rfl rfl rfl rfl ?_
            refine Gx.val rfl rfl rfl (val_pickF rfl rfl rfl) ?_
            refine Gx.val rfl rfl rfl (val_assign rfl rfl) ?_
            refine Gx.done ?_
            refine Gx.thenN ?_
            refine Gx.ret ?_
            have hk := hb7.1 (by simp_all)
            have e1 := hA5.2 hk
            have e2 := hA6.2 (ok_rev.2 hk)
            have e3 := hA10.2 empty_ok
            have i1 := (hB5 hk).1
            have i2 := (hB6 (ok_rev.2 hk)).1
            have i3 := hB10 empty_ok
            refine Gx.ret1 Try.results8 rfl ?_
            first | (exfalso; omega) | (exfalso; have i4 := i3.2.trans empty_len; omega) | (exfalso; simp_all [empty_is]; done) | (exact congrArg Value.bool (by rw [i1, i2, is_rev]; simp))
        · refine Gx.skipg rfl rfl rfl rfl rfl rfl ?_
          refine Gx.skipg rfl rfl rfl rfl rfl rfl ?_
          refine Gx.val rfl rfl rfl (val_pickF rfl rfl rfl) ?_
          refine Gx.val rfl rfl rfl (val_move rfl rfl) ?_
          refine Gx.skipg rfl rfl rfl rfl rfl rfl ?_
          refine Gx.val rfl rfl rfl (val_pickF rfl rfl rfl) ?_
          refine Gx.val rfl rfl rfl (val_move rfl rfl) ?_
          refine Gx.skipg rfl rfl rfl rfl rfl rfl ?_
          refine Gx.skipg rfl rfl rfl rfl rfl rfl ?_
          refine Gx.skipg rfl rfl rfl rfl rfl rfl ?_
          refine Gx.val rfl rfl rfl (val_pickF rfl rfl rfl) ?_
          refine Gx.val rfl rfl rfl (val_move rfl rfl) ?_
          refine Gx.skipg rfl rfl rfl rfl rfl rfl ?_
          refine Gx.skipg rfl rfl rfl rfl rfl rfl ?_
          refine Gx.skipg rfl rfl rfl rfl rfl rfl ?_
          refine Gx.val rfl rfl rfl (val_pickF rfl rfl rfl) ?_
          refine Gx.val rfl rfl rfl (val_assign rfl rfl) ?_
          refine Gx.done ?_
          refine Gx.thenN ?_
          refine Gx.ret ?_
          have hk := hb7.1 (by simp_all)
          have e1 := hA5.2 hk
          have e2 := hA6.2 (ok_rev.2 hk)
          have e3 := hA10.2 empty_ok
          have i1 := (hB5 hk).1
          have i2 := (hB6 (ok_rev.2 hk)).1
          have i3 := hB10 empty_ok
          refine Gx.ret1 Try.results8 rfl ?_
          first | (exfalso; omega) | (exfalso; have i4 := i3.2.trans empty_len; omega) | (exfalso; simp_all [empty_is]; done) | (exact congrArg Value.bool (by rw [i1, i2, is_rev]; simp))
      · refine Gx.skipg rfl rfl rfl rfl rfl rfl ?_
        refine Gx.skipg rfl rfl rfl rfl rfl rfl ?_
        refine Gx.val rfl rfl rfl (val_pickF rfl rfl rfl) ?_
        refine Gx.val rfl rfl rfl (val_move rfl rfl) ?_
        refine Gx.skipg rfl rfl rfl rfl rfl rfl ?_
        refine Gx.skipg rfl rfl rfl rfl rfl rfl ?_
        refine Gx.val rfl rfl rfl (val_pickF rfl rfl rfl) ?_
        refine Gx.val rfl rfl rfl (val_move rfl rfl) ?_
        refine Gx.skipg rfl rfl rfl rfl rfl rfl ?_
        refine Gx.val rfl rfl rfl (val_pickF rfl rfl rfl) ?_
        refine Gx.val rfl rfl rfl (val_move rfl rfl) ?_
        refine Gx.skipg rfl rfl rfl rfl rfl rfl ?_
        refine Gx.skipg rfl rfl rfl rfl rfl rfl ?_
        refine Gx.skipg rfl rfl rfl rfl rfl rfl ?_
        refine Gx.val rfl rfl rfl (val_pickF rfl rfl rfl) ?_
        refine Gx.val rfl rfl rfl (val_move rfl rfl) ?_
        refine Gx.skipg rfl rfl rfl rfl rfl rfl ?_
        refine Gx.skipg rfl rfl rfl rfl rfl rfl ?_
        refine Gx.skipg rfl rfl rfl rfl rfl rfl ?_
        refine Gx.val rfl rfl rfl (val_pickF rfl rfl rfl) ?_
        refine Gx.val rfl rfl rfl (val_assign rfl rfl) ?_
        refine Gx.done ?_
        refine Gx.thenN ?_
        refine Gx.ret ?_
        have hk := hb7.1 (by simp_all)
        have e1 := hA5.2 hk
        have e2 := hA6.2 (ok_rev.2 hk)
        have e3 := hA10.2 empty_ok
        have i1 := (hB5 hk).1
        have i2 := (hB6 (ok_rev.2 hk)).1
        have i3 := hB10 empty_ok
        refine Gx.ret1 Try.results8 rfl ?_
        first | (exfalso; omega) | (exfalso; have i4 := i3.2.trans empty_len; omega) | (exfalso; simp_all [empty_is]; done) | (exact congrArg Value.bool (by rw [i1, i2, is_rev]; simp))

end Go.Proofs.Ytocgifddjpbmlaa
