/- Ops one behind the other. No condition. -/
import Derived.Test.YtocgifddjpbmlaaB2
namespace Go.Proofs.Ytocgifddjpbmlaa
open Go.RowKit
set_option linter.unusedVariables false
set_option linter.unusedSimpArgs false
set_option maxRecDepth 100000

def LinN (h : List Op) (v : Value) (w : World) : Prop := ∃ a n c b e ms, v = .tuple #[.slice a n c, .bool b, .int .i64 e] ∧ (e = 0 ↔ OkH h) ∧ (OkH h → b = (FL h []).isSome ∧ ms = (FL h []).getD []) ∧ SlS FN 1 w (.slice a n c) ms
theorem linear_new {W : World} {hv : Value} {h : List Op} (hs : SlS FO 6 W hv h) : Calls Try.prog 9 #[hv] W fun e w' => ∃ v, e = .returned v ∧ LinN h v w' ∧ Below W.heap.size W w' := by
  by_cases hok : OkH h
  · cases e : FL h [] with
    | none => exact (linear_none hok e hs).mono fun e' w' ⟨he, hb⟩ => ⟨_, he, ⟨_, _, _, _, _, [], rfl, iff_of_true rfl hok, fun _ => by rw [e]; exact ⟨rfl, rfl⟩, sls_nil⟩, hb⟩
    | some m =>
      have hl := ((FL_ext _ rfl (Gd.nil h) e).gd (Gd.nil h)).len
      exact (linear_some hok e (Nat.le_trans hl hok.len) hs).mono fun e' w' ⟨v, he, ⟨a, c, hv, hS⟩, hb⟩ => ⟨v, he, ⟨_, _, _, _, _, m, hv, iff_of_true rfl hok, fun _ => by rw [e]; exact ⟨rfl, rfl⟩, hS⟩, hb⟩
  · exact (linear_no hs hok).mono fun e w' ⟨v, he, ⟨c, hv, hc⟩, hb⟩ => ⟨v, he, ⟨_, _, _, _, _, [], hv, iff_of_false hc hok, fun h => absurd h hok, sls_nil⟩, hb⟩
def sReg (r : Int) : Int := if 0 ≤ r ∧ r < 4 then r else 0
theorem sReg_bd (r : Int) : 0 ≤ sReg r ∧ sReg r < 4 := by unfold sReg; split <;> omega
def sOp (i : Nat) (a : Op) : Op := ⟨a.who, sReg a.reg, a.write, a.val, 2 * i, 2 * i + 1⟩
def soloL : Nat → List Op → List Op
  | _, [] => []
  | i, a :: l => sOp i a :: soloL (i + 1) l
theorem soloL_len : ∀ (l : List Op) (i : Nat), (soloL i l).length = l.length
  | [], _ => rfl
  | a :: l, i => by simp [soloL, soloL_len l]
theorem soloL_get : ∀ (l : List Op) (i k : Nat), (soloL i l)[k]? = (l[k]?).map (sOp (i + k))
  | [], _, _ => by simp [soloL]
  | a :: l, i, 0 => by simp [soloL]
  | a :: l, i, k + 1 => by
    simp only [soloL, List.getElem?_cons_succ]
    rw [soloL_get l, show i + 1 + k = i + (k + 1) by omega]
def soloH (h : List Op) : List Op := soloL 0 (h.take 8)
section
variable {h : List Op}
theorem solo_len : (soloH h).length = min 8 h.length := by unfold soloH; rw [soloL_len, List.length_take]
theorem solo_get {k : Nat} {x : Op} (hx : h[k]? = some x) (hk : k < 8) : (soloH h)[k]? = some (sOp k x) := by
  unfold soloH
  rw [soloL_get, List.getElem?_take, if_pos hk, hx, Nat.zero_add]; rfl
theorem solo_inv {k : Nat} {a : Op} (ha : (soloH h)[k]? = some a) : k < 8 ∧ ∃ x, h[k]? = some x ∧ a = sOp k x := by
  have h1 := (List.getElem?_eq_some_iff.1 ha).1
  rw [solo_len] at h1
  obtain ⟨x, hx⟩ := get_of_lt (xs := h) (k := k) (by omega)
  refine ⟨by omega, x, hx, ?_⟩
  rw [solo_get hx (by omega)] at ha
  cases ha; rfl
theorem solo_ok : OkH (soloH h) := by
  refine ⟨by rw [solo_len]; omega, fun k a ha => ?_, fun i j a b ha hb hne hw => ?_⟩
  · obtain ⟨hk, x, hx, rfl⟩ := solo_inv ha
    have := sReg_bd x.reg
    simp only [sOp]; omega
  · obtain ⟨_, x, _, rfl⟩ := solo_inv ha
    obtain ⟨_, y, _, rfl⟩ := solo_inv hb
    rw [aheadB_iff, aheadB_iff]
    simp only [sOp]; omega
def okS (h : List Op) (k : Nat) : Prop := ∀ (i : Nat) (a : Op), i < k → (soloH h)[i]? = some a → a.write = true ∨ regsL (soloH h) (List.range i) a.reg.toNat = a.val
theorem solo_may {k i : Nat} (hk : k ≤ (soloH h).length) (H : mayB (soloH h) (List.range k) i = true) : i = k := by
  obtain ⟨hi, hn⟩ := mayB_lt H
  rw [List.mem_range] at hn
  rcases Nat.lt_or_ge k i with hlt | hge
  · obtain ⟨a, ha⟩ := get_of_lt hi
    obtain ⟨b, hb⟩ := get_of_lt (xs := soloH h) (k := k) (by omega)
    have h3 := ((mayB_iff ha).1 H).2.2 k b hb (by simp)
    exfalso; apply h3
    obtain ⟨_, x, _, rfl⟩ := solo_inv ha
    obtain ⟨_, y, _, rfl⟩ := solo_inv hb
    rw [aheadB_iff]; simp only [sOp]; omega
  · omega
theorem solo_may_iff {k : Nat} {a : Op} (ha : (soloH h)[k]? = some a) : mayB (soloH h) (List.range k) k = true ↔ (a.write = true ∨ regsL (soloH h) (List.range k) a.reg.toNat = a.val) := by
  have h0 : 0 ≤ a.to := by obtain ⟨_, x, _, rfl⟩ := solo_inv ha; simp only [sOp]; omega
  rw [mayB_iff ha]
  constructor
  · rintro ⟨_, h2, _⟩; exact h2.imp id fun q => q.2
  · intro h2
    refine ⟨by simp, h2.imp id fun q => ⟨h0, q⟩, fun j b hb hj hab => ?_⟩
    rw [List.mem_range] at hj
    obtain ⟨_, x, _, rfl⟩ := solo_inv ha
    obtain ⟨_, y, _, rfl⟩ := solo_inv hb
    rw [aheadB_iff] at hab; simp only [sOp] at hab; omega
theorem solo_full {k : Nat} (hk : k ≤ (soloH h).length) : fullB (soloH h) (List.range k) = true ↔ k = (soloH h).length := by
  rw [fullB_iff]
  constructor
  · intro H
    refine Nat.le_antisymm hk (Nat.le_of_not_lt fun hlt => ?_)
    obtain ⟨a, ha⟩ := get_of_lt hlt
    have := H k a ha (by obtain ⟨_, x, _, rfl⟩ := solo_inv ha; simp only [sOp]; omega)
    simp at this
  · rintro rfl i a ha _
    exact List.mem_range.2 (List.getElem?_eq_some_iff.1 ha).1
theorem range_gd {k : Nat} (hk : k ≤ h.length) : Gd h (List.range k) := ⟨List.nodup_range, fun i hi => by have := List.mem_range.1 hi; omega⟩
open Classical in
theorem solo_FL : ∀ (d k : Nat), (soloH h).length - k = d → k ≤ (soloH h).length → okS h k → FL (soloH h) (List.range k) = if okS h (soloH h).length then some (List.range (soloH h).length) else none := by
  intro d
  induction d with
  | zero =>
    intro k hd hk hok
    obtain rfl : k = (soloH h).length := by omega
    rw [FL_eq (range_gd hk), if_pos ((solo_full hk).2 rfl), if_pos hok]
  | succ d ih =>
    intro k hd hk hok
    rw [FL_eq (range_gd hk), if_neg (fun e => by have := (solo_full hk).1 e; omega)]
    obtain ⟨a, ha⟩ := get_of_lt (xs := soloH h) (k := k) (by omega)
    by_cases hm : mayB (soloH h) (List.range k) k = true
    · have hok2 : okS h (k + 1) := fun i b hi hb => by
        rcases Nat.lt_or_eq_of_le (Nat.le_of_lt_succ hi) with hi | rfl
        · exact hok i b hi hb
        · cases ha.symm.trans hb; exact (solo_may_iff ha).1 hm
      have hrec := ih (k + 1) (by omega) (by omega) hok2
      rw [List.range_succ] at hrec
      by_cases hall : okS h (soloH h).length
      · rw [if_pos hall] at hrec ⊢
        refine fs_some (k := k) ?_ (by rw [if_pos hm]; exact hrec) _ (by omega)
        rw [List.findSome?_eq_none_iff]
        intro i hi
        exact if_neg fun e => by have := solo_may hk e; have := List.mem_range.1 hi; omega
      · rw [if_neg hall] at hrec ⊢
        rw [List.findSome?_eq_none_iff]
        intro i hi
        by_cases e : mayB (soloH h) (List.range k) i = true
        · obtain rfl := solo_may hk e
          rw [if_pos e]; exact hrec
        · exact if_neg e
    · rw [if_neg (fun hall => hm ((solo_may_iff ha).2 (hall k a (by omega) ha)))]
      rw [List.findSome?_eq_none_iff]
      intro i hi
      exact if_neg fun e => hm (by have q := solo_may hk e; rw [q] at e; exact e)
open Classical in
theorem solo_find : FL (soloH h) [] = if okS h (soloH h).length then some (List.range (soloH h).length) else none := solo_FL _ 0 rfl (Nat.zero_le _) fun i a hi => by omega
end
def four (R : Nat → Int) : List Int := [R 0, R 1, R 2, R 3]
theorem four_get {R : Nat → Int} {j : Nat} {x : Int} (h : (four R)[j]? = some x) : x = R j := by
  have hj := (List.getElem?_eq_some_iff.1 h).1
  simp [four] at hj
  rcases (show j = 0 ∨ j = 1 ∨ j = 2 ∨ j = 3 by omega) with rfl | rfl | rfl | rfl <;> simp [four] at h <;> exact h.symm
theorem four_set {R : Nat → Int} {j : Nat} {v : Int} (hj : j < 4) : (four R).set j v = four (updR R j v) := by
  rcases (show j = 0 ∨ j = 1 ∨ j = 2 ∨ j = 3 by omega) with rfl | rfl | rfl | rfl <;> rfl
theorem four_len (R : Nat → Int) : (four R).length = 4 := rfl
theorem regs_range {h : List Op} {k : Nat} {a : Op} (ha : (soloH h)[k]? = some a) : regsL (soloH h) (List.range (k + 1)) = stepR (regsL (soloH h) (List.range k)) a := by
  rw [List.range_succ, regsL_snoc ha]
theorem okS_succ {h : List Op} {k : Nat} {a : Op} (ha : (soloH h)[k]? = some a) : okS h (k + 1) ↔ okS h k ∧ (a.write = true ∨ regsL (soloH h) (List.range k) a.reg.toNat = a.val) := by
  constructor
  · exact fun H => ⟨fun i b hi hb => H i b (by omega) hb, H k a (by omega) ha⟩
  · rintro ⟨H1, H2⟩ i b hi hb
    rcases Nat.lt_or_eq_of_le (Nat.le_of_lt_succ hi) with hi | rfl
    · exact H1 i b hi hb
    · cases ha.symm.trans hb; exact H2
theorem ints_any {W : World} {va vb : Value} {xs ys : List Nat} (ha : SlS FN 1 W va xs) (hb : SlS FN 1 W vb ys) : Calls Try.prog 13 #[va, vb] W fun e w' => e = .returned (.bool (decide (xs = ys))) ∧ Below W.heap.size W w' := by
  have m1 := sls_bd ha
  have m2 := sls_bd hb
  refine calls_pure (Gx.enter (l := []) Try.func13 rfl Try.ntmps13 rfl (Sat.start W) ?_)
  refine Gx.know (m' := [(0, va), (1, vb)]) (.cons rfl (.cons rfl .nil)) ?_
  refine Gx.seq ?_
  refine Gx.region ?_
  refine Gx.val rfl rfl rfl (val_assign rfl rfl) ?_
  refine Gx.done ?_
  refine Gx.thenN ?_
  refine Gx.seq ?_
  refine Gx.seq ?_
  refine Gx.region ?_
  refine Gx.val rfl rfl rfl (val_move rfl rfl) ?_
  refine Gx.val rfl rfl rfl (val_len rfl Try.underlying23 rfl (len_base ha)) ?_
  refine Gx.val rfl rfl rfl (val_move rfl rfl) ?_
  refine Gx.val rfl rfl rfl (val_len rfl Try.underlying23 rfl (len_base hb)) ?_
  refine Gx.val rfl rfl rfl (val_neq rfl rfl rfl) ?_
  refine Gx.done ?_
  refine Gx.thenN ?_
  refine Gx.dec rfl (fun h1 => ?_) (fun h1 => ?_)
  · refine Gx.seq ?_
    refine Gx.region ?_
    refine Gx.val rfl rfl rfl (val_assign rfl rfl) ?_
    refine Gx.done ?_
    refine Gx.thenN ?_
    refine Gx.ret ?_
    refine Gx.thenR ?_
    refine Gx.ret1 Try.results13 rfl ?_
    exact (congrArg Value.bool (decide_eq_false fun h => by subst h; omega)).symm
  · refine Gx.skip ?_
    refine Gx.thenN ?_
    refine Gx.seq ?_
    refine Gx.seq ?_
    refine Gx.region ?_
    refine Gx.val rfl rfl rfl (val_assign rfl rfl) ?_
    refine Gx.done ?_
    refine Gx.thenN ?_
    refine Gx.block ?_
    refine Gx.loop (ι := Nat) (fun ξ => (ξ ≤ xs.length) ∧ (∀ q, q < ξ → xs[q]? = ys[q]?)) (fun ξ => [(0, va), (1, vb), (5, .int .i64 ((ξ : Nat) : Int))]) (fun ξ => []) (fun ξ => xs.length - ξ) 0 ⟨by first | omega | (dsimp only; omega), by omega⟩ ((.cons rfl (.cons rfl (.cons rfl .nil)))) rfl ?_
    rintro k ⟨hk, he⟩
    refine Gx.know (m' := [(0, va), (1, vb), (5, .int .i64 ((k : Nat) : Int))]) (.cons rfl (.cons rfl (.cons rfl .nil))) (Gx.norm (l' := []) rfl ?_)
    refine Gx.seq ?_
    refine Gx.seq ?_
    refine Gx.region ?_
    refine Gx.val rfl rfl rfl (val_move rfl rfl) ?_
    refine Gx.val rfl rfl rfl (val_move rfl rfl) ?_
    refine Gx.val rfl rfl rfl (val_len rfl Try.underlying23 rfl (len_base ha)) ?_
    refine Gx.val rfl rfl rfl (val_lss rfl rfl rfl) ?_
    refine Gx.done ?_
    refine Gx.thenN ?_
    refine Gx.dec rfl (fun h2 => ?_) (fun h2 => ?_)
    · refine Gx.skip ?_
      refine Gx.thenN ?_
      refine Gx.seq ?_
      refine Gx.block ?_
      refine Gx.seq ?_
      refine Gx.regionQ Try.mixed (by kernel_rfl) ?_
      refine Gq.val rfl rfl rfl (val_move rfl rfl) ?_
      refine Gq.val rfl rfl rfl (val_move rfl rfl) ?_
      obtain ⟨x3, hx3⟩ := get_of_lt (xs := xs) (k := k) (by omega)
      refine Gq.val rfl rfl rfl (val_ixa rfl Try.underlying23 Try.ty3 rfl rfl (j := k) (rfl) (reach_base ha hx3)) ?_
      refine Gq.val rfl rfl rfl (val_load rfl Try.ty3 rfl rfl (cell_base (i := 0) ha hx3 rfl)) ?_
      refine Gq.val rfl rfl rfl (val_move rfl rfl) ?_
      refine Gq.val rfl rfl rfl (val_move rfl rfl) ?_
      obtain ⟨x4, hx4⟩ := get_of_lt (xs := ys) (k := k) (by omega)
      refine Gq.val rfl rfl rfl (val_ixa rfl Try.underlying23 Try.ty3 rfl rfl (j := k) (rfl) (reach_base hb hx4)) ?_
      refine Gq.val rfl rfl rfl (val_load rfl Try.ty3 rfl rfl (cell_base (i := 0) hb hx4 rfl)) ?_
      refine Gq.val rfl rfl rfl (val_neq rfl rfl rfl) ?_
      refine Gq.done ?_
      refine Gx.thenN ?_
      refine Gx.dec rfl (fun h5 => ?_) (fun h5 => ?_)
      · refine Gx.seq ?_
        refine Gx.region ?_
        refine Gx.val rfl rfl rfl (val_assign rfl rfl) ?_
        refine Gx.done ?_
        refine Gx.thenN ?_
        refine Gx.ret ?_
        refine Gx.blkR ?_
        refine Gx.thenR ?_
        refine Gx.thenR ?_
        refine Gx.blkR ?_
        refine Gx.thenR ?_
        refine Gx.ret1 Try.results13 rfl ?_
        exact (congrArg Value.bool (decide_eq_false fun h => by subst h; have q := hx3.symm.trans hx4; cases q; omega)).symm
      · refine Gx.skip ?_
        refine Gx.blkN ?_
        refine Gx.thenN ?_
        refine Gx.region ?_
        refine Gx.val rfl rfl rfl (val_move rfl rfl) ?_
        refine Gx.val rfl rfl rfl (val_add rfl rfl rfl (r := ((k + 1 : Nat) : Int)) (w64 (by omega) (by omega))) ?_
        refine Gx.val rfl rfl rfl (val_assign rfl rfl) ?_
        refine Gx.done ?_
        refine Gx.thenN ?_
        exact Gx.round (k + 1) ⟨by first | omega | (dsimp only; omega), fun q hq => by rcases Nat.lt_or_eq_of_le (Nat.le_of_lt_succ hq) with h | rfl; (exact he q h); (rw [hx3, hx4]; exact congrArg some (by omega))⟩ (by first | omega | (dsimp only; omega)) ((.cons rfl (.cons rfl (.cons rfl .nil)))) rfl
    · refine Gx.exit ?_
      refine Gx.thenE ?_
      refine Gx.thenE ?_
      refine Gx.blkE ?_
      refine Gx.thenN ?_
      refine Gx.seq ?_
      refine Gx.region ?_
      refine Gx.val rfl rfl rfl (val_assign rfl rfl) ?_
      refine Gx.done ?_
      refine Gx.thenN ?_
      refine Gx.ret ?_
      refine Gx.ret1 Try.results13 rfl ?_
      exact (congrArg Value.bool (decide_eq_true (List.ext_getElem? fun q => by rcases Nat.lt_or_ge q k with h | h; (exact he q h); (rw [List.getElem?_eq_none (by omega), List.getElem?_eq_none (by omega)])))).symm

open Classical in
theorem solo_any {W : World} {hv : Value} {h : List Op}  (hs : SlS FO 6 W hv h) (hbig : h.length * 48 ≤ 140737488351232) :
    Calls Try.prog 6 #[hv] W fun e w' => e = .returned (.bool true) ∧ Below W.heap.size W w' := by
  have hlen := sls_bd hs
  refine calls_pure (Gx.enter (l := []) Try.func6 rfl Try.ntmps6 rfl (Sat.start W) ?_)
  refine Gx.know (m' := [(0, hv)]) (.cons rfl .nil) ?_
  refine Gx.seq ?_
  refine Gx.region ?_
  refine Gx.val rfl rfl rfl (val_assign rfl rfl) ?_
  refine Gx.done ?_
  refine Gx.thenN ?_
  refine Gx.seq ?_
  refine Gx.region ?_
  refine Gx.val rfl rfl rfl (val_assign rfl rfl) ?_
  refine Gx.done ?_
  refine Gx.thenN ?_
  refine Gx.seq ?_
  refine Gx.region ?_
  refine Gx.val rfl rfl rfl (val_assign rfl rfl) ?_
  refine Gx.done ?_
  refine Gx.thenN ?_
  refine Gx.seq ?_
  refine Gx.region ?_
  refine Gx.eff rfl rfl rfl (eff_makeSlice (n := 4) (f := FZ) rfl Try.underlying33 Try.ty2 rfl rfl (rfl) (rfl) FZ_len 0 rfl (by omega) (by omega)) ?_
  rintro v1 _ ⟨hiv1, rfl⟩
  refine Gx.val rfl rfl rfl (val_assign rfl rfl) ?_
  refine Gx.done ?_
  refine Gx.thenN ?_
  refine Gx.seq ?_
  refine Gx.region ?_
  refine Gx.val rfl rfl rfl (val_assign rfl rfl) ?_
  refine Gx.done ?_
  refine Gx.thenN ?_
  refine Gx.seq ?_
  refine Gx.seq ?_
  refine Gx.ownNil FO 6 ?_
  refine Gx.ownNil FN 1 ?_
  refine Gx.norm (l' := [Hp.own FN 1 (.slice none 0 0) (List.range 0), Hp.own FO 6 (.slice none 0 0) ((soloH h).take 0), Hp.own FZ 1 v1 (four (regsL (soloH h) (List.range 0)))]) rfl ?_
  refine Gx.region ?_
  refine Gx.val rfl rfl rfl (val_assign rfl rfl) ?_
  refine Gx.done ?_
  refine Gx.thenN ?_
  refine Gx.block ?_
  refine Gx.front 2 rfl ?_
  refine Gx.front 1 rfl ?_
  refine Gx.front 2 rfl ?_
  refine Gx.loop (ι := Nat × Value × Value × Bool) (fun ξ => (ξ.1 ≤ h.length) ∧ (ξ.1 ≤ 8) ∧ (ξ.2.2.2 = true ↔ okS h ξ.1)) (fun ξ => [(0, hv), (3, ξ.2.1), (4, ξ.2.2.1), (5, v1), (6, .bool ξ.2.2.2), (7, .int .i64 ((ξ.1 : Nat) : Int))]) (fun ξ => [Hp.own FO 6 ξ.2.1 ((soloH h).take ξ.1), Hp.own FN 1 ξ.2.2.1 (List.range ξ.1), Hp.own FZ 1 v1 (four (regsL (soloH h) (List.range ξ.1)))]) (fun ξ => h.length - ξ.1) (0, (.slice none 0 0), (.slice none 0 0), true) ⟨by first | omega | (dsimp only; omega), by first | omega | (dsimp only; omega), ⟨fun _ i a hi => by omega, fun _ => rfl⟩⟩ ((.cons rfl (.cons rfl (.cons rfl (.cons rfl (.cons rfl (.cons rfl .nil))))))) rfl ?_
  rintro ⟨k, ov, lv, b⟩ ⟨hk, hk8, hb⟩
  dsimp only at hk hk8 hb
  refine Gx.know (m' := [(0, hv), (3, ov), (4, lv), (5, v1), (6, .bool b), (7, .int .i64 ((k : Nat) : Int))]) (.cons rfl (.cons rfl (.cons rfl (.cons rfl (.cons rfl (.cons rfl .nil)))))) (Gx.norm (l' := [Hp.own FO 6 ov ((soloH h).take k), Hp.own FN 1 lv (List.range k), Hp.own FZ 1 v1 (four (regsL (soloH h) (List.range k)))]) rfl ?_)
  have hsl := solo_len (h := h)
  have htl : ((soloH h).take k).length = k := by rw [List.length_take]; omega
  have hrl := List.length_range (n := k)
  refine Gx.seq ?_
  refine Gx.seq ?_
  refine Gx.region ?_
  refine Gx.val rfl rfl rfl (val_move rfl rfl) ?_
  refine Gx.val rfl rfl rfl (val_move rfl rfl) ?_
  refine Gx.val rfl rfl rfl (val_len rfl Try.underlying22 rfl (len_base hs)) ?_
  refine Gx.val rfl rfl rfl (val_lss rfl rfl rfl) ?_
  refine Gx.val rfl rfl rfl (val_move rfl rfl) ?_
  refine Gx.cases (t := 17) rfl (fun h2 => ?_) (fun h2 => ?_)
  · refine Gx.valg rfl rfl rfl rfl rfl (val_move rfl rfl) ?_
    refine Gx.valg rfl rfl rfl rfl rfl (val_lss rfl rfl rfl) ?_
    refine Gx.val rfl rfl rfl (val_pickT rfl rfl rfl) ?_
    refine Gx.done ?_
    refine Gx.thenN ?_
    refine Gx.dec rfl (fun h3 => ?_) (fun h3 => ?_)
    · refine Gx.skip ?_
      refine Gx.thenN ?_
      refine Gx.seq ?_
      refine Gx.block ?_
      refine Gx.seq ?_
      refine Gx.region ?_
      refine Gx.val rfl rfl rfl (val_move rfl rfl) ?_
      refine Gx.val rfl rfl rfl (val_move rfl rfl) ?_
      obtain ⟨x4, hx4⟩ := get_of_lt (xs := h) (k := k) (by first | omega | (rw [four_len]; omega))
      refine Gx.val rfl rfl rfl (val_ixa rfl Try.underlying22 Try.ty31 rfl rfl (j := k) (rfl) (reach_base hs hx4)) ?_
      refine Gx.val rfl rfl rfl (Val.cast (val_loadA rfl Try.ty31 rfl rfl rfl (cells_base hs hx4)) (v' := .agg #[.int .i64 x4.who, .int .i64 x4.reg, .bool x4.write, .int .i64 x4.val, .int .i64 x4.fr, .int .i64 x4.to]) rfl) ?_
      refine Gx.eff rfl rfl rfl (eff_alloc rfl Try.ty31 (vs := [.int .i64 0, .int .i64 0, .bool false, .int .i64 0, .int .i64 0, .int .i64 0]) rfl) ?_
      rintro _ _ ⟨b5, rfl, rfl⟩
      refine Gx.eff0 rfl rfl (eff_store rfl Try.ty31 rfl rfl (us := [.int .i64 x4.who, .int .i64 x4.reg, .bool x4.write, .int .i64 x4.val, .int .i64 x4.fr, .int .i64 x4.to]) rfl rfl rfl (k := 0) rfl (rfl) (vs' := [.int .i64 x4.who, .int .i64 x4.reg, .bool x4.write, .int .i64 x4.val, .int .i64 x4.fr, .int .i64 x4.to]) (rfl) (l' := [Hp.rec_ b5 [.int .i64 x4.who, .int .i64 x4.reg, .bool x4.write, .int .i64 x4.val, .int .i64 x4.fr, .int .i64 x4.to], Hp.own FO 6 ov ((soloH h).take k), Hp.own FN 1 lv (List.range k), Hp.own FZ 1 v1 (four (regsL (soloH h) (List.range k)))]) rfl) ?_
      rintro _ _ rfl
      refine Gx.done ?_
      refine Gx.thenN ?_
      refine Gx.seq ?_
      refine Gx.seq ?_
      have hsk := solo_get hx4 (by omega)
      have hsb := sReg_bd x4.reg
      refine Gx.region ?_
      refine Gx.val rfl rfl rfl (Val.cast (val_fieldAddr rfl Try.underlying31 rfl Try.ty3 rfl rfl) (v' := ptr b5 1) rfl) ?_
      refine Gx.val rfl rfl rfl (val_load rfl Try.ty3 rfl rfl (cell_rec (k := 0) rfl rfl)) ?_
      refine Gx.val rfl rfl rfl (val_lss rfl rfl rfl) ?_
      refine Gx.val rfl rfl rfl (val_move rfl rfl) ?_
      refine Gx.cases (t := 30) rfl (fun h6 => ?_) (fun h6 => ?_)
      · refine Gx.skipg rfl rfl rfl rfl rfl rfl ?_
        refine Gx.skipg rfl rfl rfl rfl rfl rfl ?_
        refine Gx.skipg rfl rfl rfl rfl rfl rfl ?_
        refine Gx.val rfl rfl rfl (val_pickT rfl rfl rfl) ?_
        refine Gx.done ?_
        refine Gx.thenN ?_
        refine Gx.t rfl ?_
        refine Gx.region ?_
        refine Gx.val rfl rfl rfl (Val.cast (val_fieldAddr rfl Try.underlying31 rfl Try.ty3 rfl rfl) (v' := ptr b5 1) rfl) ?_
        refine Gx.eff0 rfl rfl (eff_store rfl Try.ty3 rfl rfl (us := [.int .i64 0]) rfl rfl rfl (k := 0) rfl (rfl) (vs' := [.int .i64 x4.who, .int .i64 0, .bool x4.write, .int .i64 x4.val, .int .i64 x4.fr, .int .i64 x4.to]) (rfl) (l' := [Hp.rec_ b5 [.int .i64 x4.who, .int .i64 0, .bool x4.write, .int .i64 x4.val, .int .i64 x4.fr, .int .i64 x4.to], Hp.own FO 6 ov ((soloH h).take k), Hp.own FN 1 lv (List.range k), Hp.own FZ 1 v1 (four (regsL (soloH h) (List.range k)))]) rfl) ?_
        rintro _ _ rfl
        refine Gx.done ?_
        refine Gx.thenN ?_
        refine Gx.seq ?_
        have hsr : sReg x4.reg = 0 := by unfold sReg; exact if_neg (by omega)
        refine Gx.norm (l' := [Hp.rec_ b5 [.int .i64 x4.who, .int .i64 (sReg x4.reg), .bool x4.write, .int .i64 x4.val, .int .i64 x4.fr, .int .i64 x4.to], Hp.own FO 6 ov ((soloH h).take k), Hp.own FN 1 lv (List.range k), Hp.own FZ 1 v1 (four (regsL (soloH h) (List.range k)))]) (by rw [hsr] <;> rfl) ?_
        refine Gx.region ?_
        refine Gx.val rfl rfl rfl (val_move rfl rfl) ?_
        refine Gx.val rfl rfl rfl (val_mul rfl rfl rfl (r := (2 * ((k : Nat) : Int))) (w64 (by omega) (by omega))) ?_
        refine Gx.val rfl rfl rfl (Val.cast (val_fieldAddr rfl Try.underlying31 rfl Try.ty3 rfl rfl) (v' := ptr b5 4) rfl) ?_
        refine Gx.eff0 rfl rfl (eff_store rfl Try.ty3 rfl rfl (us := [.int .i64 (2 * ((k : Nat) : Int))]) rfl rfl rfl (k := 0) rfl (rfl) (vs' := [.int .i64 x4.who, .int .i64 (sReg x4.reg), .bool x4.write, .int .i64 x4.val, .int .i64 (2 * ((k : Nat) : Int)), .int .i64 x4.to]) (rfl) (l' := [Hp.rec_ b5 [.int .i64 x4.who, .int .i64 (sReg x4.reg), .bool x4.write, .int .i64 x4.val, .int .i64 (2 * ((k : Nat) : Int)), .int .i64 x4.to], Hp.own FO 6 ov ((soloH h).take k), Hp.own FN 1 lv (List.range k), Hp.own FZ 1 v1 (four (regsL (soloH h) (List.range k)))]) rfl) ?_
        rintro _ _ rfl
        refine Gx.done ?_
        refine Gx.thenN ?_
        refine Gx.seq ?_
        refine Gx.region ?_
        refine Gx.val rfl rfl rfl (val_move rfl rfl) ?_
        refine Gx.val rfl rfl rfl (val_mul rfl rfl rfl (r := (2 * ((k : Nat) : Int))) (w64 (by omega) (by omega))) ?_
        refine Gx.val rfl rfl rfl (val_add rfl rfl rfl (r := (2 * ((k : Nat) : Int) + 1)) (w64 (by omega) (by omega))) ?_
        refine Gx.val rfl rfl rfl (Val.cast (val_fieldAddr rfl Try.underlying31 rfl Try.ty3 rfl rfl) (v' := ptr b5 5) rfl) ?_
        refine Gx.eff0 rfl rfl (eff_store rfl Try.ty3 rfl rfl (us := [.int .i64 (2 * ((k : Nat) : Int) + 1)]) rfl rfl rfl (k := 0) rfl (rfl) (vs' := [.int .i64 x4.who, .int .i64 (sReg x4.reg), .bool x4.write, .int .i64 x4.val, .int .i64 (2 * ((k : Nat) : Int)), .int .i64 (2 * ((k : Nat) : Int) + 1)]) (rfl) (l' := [Hp.rec_ b5 [.int .i64 x4.who, .int .i64 (sReg x4.reg), .bool x4.write, .int .i64 x4.val, .int .i64 (2 * ((k : Nat) : Int)), .int .i64 (2 * ((k : Nat) : Int) + 1)], Hp.own FO 6 ov ((soloH h).take k), Hp.own FN 1 lv (List.range k), Hp.own FZ 1 v1 (four (regsL (soloH h) (List.range k)))]) rfl) ?_
        rintro _ _ rfl
        refine Gx.done ?_
        refine Gx.thenN ?_
        refine Gx.seq ?_
        refine Gx.seq ?_
        refine Gx.region ?_
        refine Gx.val rfl rfl rfl (Val.cast (val_fieldAddr rfl Try.underlying31 rfl Try.ty4 rfl rfl) (v' := ptr b5 2) rfl) ?_
        refine Gx.val rfl rfl rfl (val_load rfl Try.ty4 rfl rfl (cell_rec (k := 0) rfl rfl)) ?_
        refine Gx.done ?_
        refine Gx.thenN ?_
        refine Gx.bool rfl (fun h7 => ?_) (fun h7 => ?_)
        · refine Gx.region ?_
          refine Gx.val rfl rfl rfl (val_move rfl rfl) ?_
          refine Gx.val rfl rfl rfl (Val.cast (val_fieldAddr rfl Try.underlying31 rfl Try.ty3 rfl rfl) (v' := ptr b5 1) rfl) ?_
          refine Gx.val rfl rfl rfl (val_load rfl Try.ty3 rfl rfl (cell_rec (k := 0) rfl rfl)) ?_
          refine Gx.val rfl rfl rfl (Val.cast (val_fieldAddr rfl Try.underlying31 rfl Try.ty2 rfl rfl) (v' := ptr b5 3) rfl) ?_
          refine Gx.val rfl rfl rfl (val_load rfl Try.ty2 rfl rfl (cell_rec (k := 0) rfl rfl)) ?_
          obtain ⟨x8, hx8⟩ := get_of_lt (xs := (four (regsL (soloH h) (List.range k)))) (k := (sReg x4.reg).toNat) (by first | omega | (rw [four_len]; omega))
          refine Gx.val rfl rfl rfl (val_ixa rfl Try.underlying33 Try.ty2 rfl rfl (j := (sReg x4.reg).toNat) (by omega) (reach_own (k := 3) rfl hx8)) ?_
          refine Gx.eff0 rfl rfl (eff_storeElA x4.val rfl Try.ty2 rfl rfl rfl FZ_one (k := 3) rfl FZ_len hx8 (l' := [Hp.rec_ b5 [.int .i64 x4.who, .int .i64 (sReg x4.reg), .bool x4.write, .int .i64 x4.val, .int .i64 (2 * ((k : Nat) : Int)), .int .i64 (2 * ((k : Nat) : Int) + 1)], Hp.own FO 6 ov ((soloH h).take k), Hp.own FN 1 lv (List.range k), Hp.own FZ 1 v1 (((four (regsL (soloH h) (List.range k)))).set ((sReg x4.reg).toNat) x4.val)]) rfl) ?_
          rintro _ _ rfl
          refine Gx.done ?_
          refine Gx.thenN ?_
          refine Gx.seq ?_
          refine Gx.region ?_
          refine Gx.val rfl rfl rfl (val_move rfl rfl) ?_
          refine Gx.val rfl rfl rfl (Val.cast (val_loadA rfl Try.ty31 rfl rfl rfl (cells_rec (k := 0) rfl)) (v' := .agg #[.int .i64 x4.who, .int .i64 (sReg x4.reg), .bool x4.write, .int .i64 x4.val, .int .i64 (2 * ((k : Nat) : Int)), .int .i64 (2 * ((k : Nat) : Int) + 1)]) rfl) ?_
          refine Gx.eff rfl rfl rfl (eff_buildSlice rfl (qs := [(0, .agg #[.int .i64 x4.who, .int .i64 (sReg x4.reg), .bool x4.write, .int .i64 x4.val, .int .i64 (2 * ((k : Nat) : Int)), .int .i64 (2 * ((k : Nat) : Int) + 1)])]) rfl rfl (cs := #[.int .i64 x4.who, .int .i64 (sReg x4.reg), .bool x4.write, .int .i64 x4.val, .int .i64 (2 * ((k : Nat) : Int)), .int .i64 (2 * ((k : Nat) : Int) + 1)]) (vs := [.int .i64 x4.who, .int .i64 (sReg x4.reg), .bool x4.write, .int .i64 x4.val, .int .i64 (2 * ((k : Nat) : Int)), .int .i64 (2 * ((k : Nat) : Int) + 1)]) (E := 31) rfl (fun w => by first | (go_simp; done) | (go_simp; rfl))) ?_
          rintro _ _ ⟨b9, rfl, rfl⟩
          refine Gx.eff rfl rfl rfl (eff_push (r := (sOp k x4)) rfl Try.eO FO_len FO_one rfl rfl (k := 0) rfl rfl (k' := 1) rfl (by omega) (by omega)) ?_
          rintro v10 _ ⟨hiv10, rfl⟩
          refine Gx.norm (l' := [Hp.rec_ b5 [.int .i64 x4.who, .int .i64 (sReg x4.reg), .bool x4.write, .int .i64 x4.val, .int .i64 (2 * ((k : Nat) : Int)), .int .i64 (2 * ((k : Nat) : Int) + 1)], Hp.own FO 6 v10 (((soloH h).take k) ++ [(sOp k x4)]), Hp.own FN 1 lv (List.range k), Hp.own FZ 1 v1 (((four (regsL (soloH h) (List.range k)))).set ((sReg x4.reg).toNat) x4.val)]) rfl ?_
          refine Gx.val rfl rfl rfl (val_assign rfl rfl) ?_
          refine Gx.done ?_
          refine Gx.thenN ?_
          refine Gx.region ?_
          refine Gx.val rfl rfl rfl (val_move rfl rfl) ?_
          refine Gx.val rfl rfl rfl (val_move rfl rfl) ?_
          refine Gx.eff rfl rfl rfl (eff_buildSlice rfl (qs := [(0, .int .i64 ((k : Nat) : Int))]) rfl rfl (cs := #[.int .i64 ((k : Nat) : Int)]) (vs := [.int .i64 ((k : Nat) : Int)]) (E := 3) rfl (fun w => by first | (go_simp; done) | (go_simp; rfl))) ?_
          rintro _ _ ⟨b11, rfl, rfl⟩
          refine Gx.eff rfl rfl rfl (eff_push (r := k) rfl Try.eN FN_len FN_one rfl rfl (k := 0) rfl rfl (k' := 2) rfl (by omega) (by omega)) ?_
          rintro v12 _ ⟨hiv12, rfl⟩
          refine Gx.norm (l' := [Hp.rec_ b5 [.int .i64 x4.who, .int .i64 (sReg x4.reg), .bool x4.write, .int .i64 x4.val, .int .i64 (2 * ((k : Nat) : Int)), .int .i64 (2 * ((k : Nat) : Int) + 1)], Hp.own FO 6 v10 (((soloH h).take k) ++ [(sOp k x4)]), Hp.own FN 1 v12 ((List.range k) ++ [k]), Hp.own FZ 1 v1 (((four (regsL (soloH h) (List.range k)))).set ((sReg x4.reg).toNat) x4.val)]) rfl ?_
          refine Gx.val rfl rfl rfl (val_assign rfl rfl) ?_
          refine Gx.done ?_
          refine Gx.blkN ?_
          refine Gx.thenN ?_
          refine Gx.region ?_
          refine Gx.val rfl rfl rfl (val_move rfl rfl) ?_
          refine Gx.val rfl rfl rfl (val_add rfl rfl rfl (r := ((k + 1 : Nat) : Int)) (w64 (by omega) (by omega))) ?_
          refine Gx.val rfl rfl rfl (val_assign rfl rfl) ?_
          refine Gx.done ?_
          refine Gx.thenN ?_
          refine Gx.drop 0 rfl ?_
          have hR : regsL (soloH h) (List.range (k + 1)) = updR (regsL (soloH h) (List.range k)) (sReg x4.reg).toNat x4.val := by rw [regs_range hsk]; unfold stepR; rw [if_pos (show (sOp k x4).write = true by simpa [sOp] using h7)]; rfl
          refine Gx.norm (l' := [Hp.own FO 6 v10 ((soloH h).take (k + 1)), Hp.own FN 1 v12 (List.range (k + 1)), Hp.own FZ 1 v1 (four (regsL (soloH h) (List.range (k + 1))))]) (by rw [hR, take_of hsk, List.range_succ, four_set (by omega)] <;> rfl) ?_
          exact Gx.round (k + 1, v10, v12, b) ⟨by first | omega | (dsimp only; omega), by first | omega | (dsimp only; omega), by rw [hb, okS_succ hsk]; exact ⟨fun q => ⟨q, .inl (by simpa [sOp] using h7)⟩, fun q => q.1⟩⟩ (by first | omega | (dsimp only; omega)) ((.cons rfl (.cons rfl (.cons rfl (.cons rfl (.cons rfl (.cons rfl .nil))))))) rfl
        · refine Gx.seq ?_
          refine Gx.regionQ Try.mixed (by kernel_rfl) ?_
          refine Gq.val rfl rfl rfl (val_move rfl rfl) ?_
          refine Gq.val rfl rfl rfl (Val.cast (val_fieldAddr rfl Try.underlying31 rfl Try.ty3 rfl rfl) (v' := ptr b5 1) rfl) ?_
          refine Gq.val rfl rfl rfl (val_load rfl Try.ty3 rfl rfl (cell_rec (k := 0) rfl rfl)) ?_
          obtain ⟨x13, hx13⟩ := get_of_lt (xs := (four (regsL (soloH h) (List.range k)))) (k := (sReg x4.reg).toNat) (by first | omega | (rw [four_len]; omega))
          refine Gq.val rfl rfl rfl (val_ixa rfl Try.underlying33 Try.ty2 rfl rfl (j := (sReg x4.reg).toNat) (by omega) (reach_own (k := 3) rfl hx13)) ?_
          refine Gq.val rfl rfl rfl (val_load rfl Try.ty2 rfl rfl (cell_own (i := 0) (k := 3) rfl hx13 rfl)) ?_
          refine Gq.val rfl rfl rfl (Val.cast (val_fieldAddr rfl Try.underlying31 rfl Try.ty2 rfl rfl) (v' := ptr b5 3) rfl) ?_
          refine Gq.val rfl rfl rfl (val_load rfl Try.ty2 rfl rfl (cell_rec (k := 0) rfl rfl)) ?_
          refine Gq.val rfl rfl rfl (val_neq rfl rfl rfl) ?_
          refine Gq.done ?_
          refine Gx.thenN ?_
          refine Gx.dec rfl (fun h14 => ?_) (fun h14 => ?_)
          · refine Gx.region ?_
            refine Gx.val rfl rfl rfl (val_assign rfl rfl) ?_
            refine Gx.done ?_
            refine Gx.thenN ?_
            refine Gx.seq ?_
            refine Gx.region ?_
            refine Gx.val rfl rfl rfl (val_move rfl rfl) ?_
            refine Gx.val rfl rfl rfl (Val.cast (val_loadA rfl Try.ty31 rfl rfl rfl (cells_rec (k := 0) rfl)) (v' := .agg #[.int .i64 x4.who, .int .i64 (sReg x4.reg), .bool x4.write, .int .i64 x4.val, .int .i64 (2 * ((k : Nat) : Int)), .int .i64 (2 * ((k : Nat) : Int) + 1)]) rfl) ?_
            refine Gx.eff rfl rfl rfl (eff_buildSlice rfl (qs := [(0, .agg #[.int .i64 x4.who, .int .i64 (sReg x4.reg), .bool x4.write, .int .i64 x4.val, .int .i64 (2 * ((k : Nat) : Int)), .int .i64 (2 * ((k : Nat) : Int) + 1)])]) rfl rfl (cs := #[.int .i64 x4.who, .int .i64 (sReg x4.reg), .bool x4.write, .int .i64 x4.val, .int .i64 (2 * ((k : Nat) : Int)), .int .i64 (2 * ((k : Nat) : Int) + 1)]) (vs := [.int .i64 x4.who, .int .i64 (sReg x4.reg), .bool x4.write, .int .i64 x4.val, .int .i64 (2 * ((k : Nat) : Int)), .int .i64 (2 * ((k : Nat) : Int) + 1)]) (E := 31) rfl (fun w => by first | (go_simp; done) | (go_simp; rfl))) ?_
            rintro _ _ ⟨b15, rfl, rfl⟩
            refine Gx.eff rfl rfl rfl (eff_push (r := (sOp k x4)) rfl Try.eO FO_len FO_one rfl rfl (k := 0) rfl rfl (k' := 1) rfl (by omega) (by omega)) ?_
            rintro v16 _ ⟨hiv16, rfl⟩
            refine Gx.norm (l' := [Hp.rec_ b5 [.int .i64 x4.who, .int .i64 (sReg x4.reg), .bool x4.write, .int .i64 x4.val, .int .i64 (2 * ((k : Nat) : Int)), .int .i64 (2 * ((k : Nat) : Int) + 1)], Hp.own FO 6 v16 (((soloH h).take k) ++ [(sOp k x4)]), Hp.own FN 1 lv (List.range k), Hp.own FZ 1 v1 (four (regsL (soloH h) (List.range k)))]) rfl ?_
            refine Gx.val rfl rfl rfl (val_assign rfl rfl) ?_
            refine Gx.done ?_
            refine Gx.thenN ?_
            refine Gx.region ?_
            refine Gx.val rfl rfl rfl (val_move rfl rfl) ?_
            refine Gx.val rfl rfl rfl (val_move rfl rfl) ?_
            refine Gx.eff rfl rfl rfl (eff_buildSlice rfl (qs := [(0, .int .i64 ((k : Nat) : Int))]) rfl rfl (cs := #[.int .i64 ((k : Nat) : Int)]) (vs := [.int .i64 ((k : Nat) : Int)]) (E := 3) rfl (fun w => by first | (go_simp; done) | (go_simp; rfl))) ?_
            rintro _ _ ⟨b17, rfl, rfl⟩
            refine Gx.eff rfl rfl rfl (eff_push (r := k) rfl Try.eN FN_len FN_one rfl rfl (k := 0) rfl rfl (k' := 2) rfl (by omega) (by omega)) ?_
            rintro v18 _ ⟨hiv18, rfl⟩
            refine Gx.norm (l' := [Hp.rec_ b5 [.int .i64 x4.who, .int .i64 (sReg x4.reg), .bool x4.write, .int .i64 x4.val, .int .i64 (2 * ((k : Nat) : Int)), .int .i64 (2 * ((k : Nat) : Int) + 1)], Hp.own FO 6 v16 (((soloH h).take k) ++ [(sOp k x4)]), Hp.own FN 1 v18 ((List.range k) ++ [k]), Hp.own FZ 1 v1 (four (regsL (soloH h) (List.range k)))]) rfl ?_
            refine Gx.val rfl rfl rfl (val_assign rfl rfl) ?_
            refine Gx.done ?_
            refine Gx.blkN ?_
            refine Gx.thenN ?_
            refine Gx.region ?_
            refine Gx.val rfl rfl rfl (val_move rfl rfl) ?_
            refine Gx.val rfl rfl rfl (val_add rfl rfl rfl (r := ((k + 1 : Nat) : Int)) (w64 (by omega) (by omega))) ?_
            refine Gx.val rfl rfl rfl (val_assign rfl rfl) ?_
            refine Gx.done ?_
            refine Gx.thenN ?_
            refine Gx.drop 0 rfl ?_
            have hR : regsL (soloH h) (List.range (k + 1)) = regsL (soloH h) (List.range k) := by rw [regs_range hsk]; unfold stepR; rw [if_neg (show ¬ (sOp k x4).write = true by simpa [sOp] using h7)]
            refine Gx.norm (l' := [Hp.own FO 6 v16 ((soloH h).take (k + 1)), Hp.own FN 1 v18 (List.range (k + 1)), Hp.own FZ 1 v1 (four (regsL (soloH h) (List.range (k + 1))))]) (by rw [hR, take_of hsk, List.range_succ] <;> rfl) ?_
            exact Gx.round (k + 1, v16, v18, false) ⟨by first | omega | (dsimp only; omega), by first | omega | (dsimp only; omega), by rw [okS_succ hsk]; exact ⟨fun q => (by cases q), fun q => by exfalso; rcases q.2 with q | q; (simp [sOp, h7] at q); (exact h14 ((four_get hx13).trans q))⟩⟩ (by first | omega | (dsimp only; omega)) ((.cons rfl (.cons rfl (.cons rfl (.cons rfl (.cons rfl (.cons rfl .nil))))))) rfl
          · refine Gx.skip ?_
            refine Gx.thenN ?_
            refine Gx.seq ?_
            refine Gx.region ?_
            refine Gx.val rfl rfl rfl (val_move rfl rfl) ?_
            refine Gx.val rfl rfl rfl (Val.cast (val_loadA rfl Try.ty31 rfl rfl rfl (cells_rec (k := 0) rfl)) (v' := .agg #[.int .i64 x4.who, .int .i64 (sReg x4.reg), .bool x4.write, .int .i64 x4.val, .int .i64 (2 * ((k : Nat) : Int)), .int .i64 (2 * ((k : Nat) : Int) + 1)]) rfl) ?_
            refine Gx.eff rfl rfl rfl (eff_buildSlice rfl (qs := [(0, .agg #[.int .i64 x4.who, .int .i64 (sReg x4.reg), .bool x4.write, .int .i64 x4.val, .int .i64 (2 * ((k : Nat) : Int)), .int .i64 (2 * ((k : Nat) : Int) + 1)])]) rfl rfl (cs := #[.int .i64 x4.who, .int .i64 (sReg x4.reg), .bool x4.write, .int .i64 x4.val, .int .i64 (2 * ((k : Nat) : Int)), .int .i64 (2 * ((k : Nat) : Int) + 1)]) (vs := [.int .i64 x4.who, .int .i64 (sReg x4.reg), .bool x4.write, .int .i64 x4.val, .int .i64 (2 * ((k : Nat) : Int)), .int .i64 (2 * ((k : Nat) : Int) + 1)]) (E := 31) rfl (fun w => by first | (go_simp; done) | (go_simp; rfl))) ?_
            rintro _ _ ⟨b19, rfl, rfl⟩
            refine Gx.eff rfl rfl rfl (eff_push (r := (sOp k x4)) rfl Try.eO FO_len FO_one rfl rfl (k := 0) rfl rfl (k' := 1) rfl (by omega) (by omega)) ?_
            rintro v20 _ ⟨hiv20, rfl⟩
            refine Gx.norm (l' := [Hp.rec_ b5 [.int .i64 x4.who, .int .i64 (sReg x4.reg), .bool x4.write, .int .i64 x4.val, .int .i64 (2 * ((k : Nat) : Int)), .int .i64 (2 * ((k : Nat) : Int) + 1)], Hp.own FO 6 v20 (((soloH h).take k) ++ [(sOp k x4)]), Hp.own FN 1 lv (List.range k), Hp.own FZ 1 v1 (four (regsL (soloH h) (List.range k)))]) rfl ?_
            refine Gx.val rfl rfl rfl (val_assign rfl rfl) ?_
            refine Gx.done ?_
            refine Gx.thenN ?_
            refine Gx.region ?_
            refine Gx.val rfl rfl rfl (val_move rfl rfl) ?_
            refine Gx.val rfl rfl rfl (val_move rfl rfl) ?_
            refine Gx.eff rfl rfl rfl (eff_buildSlice rfl (qs := [(0, .int .i64 ((k : Nat) : Int))]) rfl rfl (cs := #[.int .i64 ((k : Nat) : Int)]) (vs := [.int .i64 ((k : Nat) : Int)]) (E := 3) rfl (fun w => by first | (go_simp; done) | (go_simp; rfl))) ?_
            rintro _ _ ⟨b21, rfl, rfl⟩
            refine Gx.eff rfl rfl rfl (eff_push (r := k) rfl Try.eN FN_len FN_one rfl rfl (k := 0) rfl rfl (k' := 2) rfl (by omega) (by omega)) ?_
            rintro v22 _ ⟨hiv22, rfl⟩
            refine Gx.norm (l' := [Hp.rec_ b5 [.int .i64 x4.who, .int .i64 (sReg x4.reg), .bool x4.write, .int .i64 x4.val, .int .i64 (2 * ((k : Nat) : Int)), .int .i64 (2 * ((k : Nat) : Int) + 1)], Hp.own FO 6 v20 (((soloH h).take k) ++ [(sOp k x4)]), Hp.own FN 1 v22 ((List.range k) ++ [k]), Hp.own FZ 1 v1 (four (regsL (soloH h) (List.range k)))]) rfl ?_
            refine Gx.val rfl rfl rfl (val_assign rfl rfl) ?_
            refine Gx.done ?_
            refine Gx.blkN ?_
            refine Gx.thenN ?_
            refine Gx.region ?_
            refine Gx.val rfl rfl rfl (val_move rfl rfl) ?_
            refine Gx.val rfl rfl rfl (val_add rfl rfl rfl (r := ((k + 1 : Nat) : Int)) (w64 (by omega) (by omega))) ?_
            refine Gx.val rfl rfl rfl (val_assign rfl rfl) ?_
            refine Gx.done ?_
            refine Gx.thenN ?_
            refine Gx.drop 0 rfl ?_
            have hR : regsL (soloH h) (List.range (k + 1)) = regsL (soloH h) (List.range k) := by rw [regs_range hsk]; unfold stepR; rw [if_neg (show ¬ (sOp k x4).write = true by simpa [sOp] using h7)]
            refine Gx.norm (l' := [Hp.own FO 6 v20 ((soloH h).take (k + 1)), Hp.own FN 1 v22 (List.range (k + 1)), Hp.own FZ 1 v1 (four (regsL (soloH h) (List.range (k + 1))))]) (by rw [hR, take_of hsk, List.range_succ] <;> rfl) ?_
            exact Gx.round (k + 1, v20, v22, b) ⟨by first | omega | (dsimp only; omega), by first | omega | (dsimp only; omega), by rw [hb, okS_succ hsk]; exact ⟨fun q => ⟨q, .inr ((four_get hx13).symm.trans (by simp only [sOp]; omega))⟩, fun q => q.1⟩⟩ (by first | omega | (dsimp only; omega)) ((.cons rfl (.cons rfl (.cons rfl (.cons rfl (.cons rfl (.cons rfl .nil))))))) rfl
      · refine Gx.valg rfl rfl rfl rfl rfl (Val.cast (val_fieldAddr rfl Try.underlying31 rfl Try.ty3 rfl rfl) (v' := ptr b5 1) rfl) ?_
        refine Gx.valg rfl rfl rfl rfl rfl (val_load rfl Try.ty3 rfl rfl (cell_rec (k := 0) rfl rfl)) ?_
        refine Gx.valg rfl rfl rfl rfl rfl (val_geq rfl rfl rfl) ?_
        refine Gx.val rfl rfl rfl (val_pickF rfl rfl rfl) ?_
        refine Gx.done ?_
        refine Gx.thenN ?_
        refine Gx.dec rfl (fun h23 => ?_) (fun h23 => ?_)
        · refine Gx.region ?_
          refine Gx.val rfl rfl rfl (Val.cast (val_fieldAddr rfl Try.underlying31 rfl Try.ty3 rfl rfl) (v' := ptr b5 1) rfl) ?_
          refine Gx.eff0 rfl rfl (eff_store rfl Try.ty3 rfl rfl (us := [.int .i64 0]) rfl rfl rfl (k := 0) rfl (rfl) (vs' := [.int .i64 x4.who, .int .i64 0, .bool x4.write, .int .i64 x4.val, .int .i64 x4.fr, .int .i64 x4.to]) (rfl) (l' := [Hp.rec_ b5 [.int .i64 x4.who, .int .i64 0, .bool x4.write, .int .i64 x4.val, .int .i64 x4.fr, .int .i64 x4.to], Hp.own FO 6 ov ((soloH h).take k), Hp.own FN 1 lv (List.range k), Hp.own FZ 1 v1 (four (regsL (soloH h) (List.range k)))]) rfl) ?_
          rintro _ _ rfl
          refine Gx.done ?_
          refine Gx.thenN ?_
          refine Gx.seq ?_
          have hsr : sReg x4.reg = 0 := by unfold sReg; exact if_neg (by omega)
          refine Gx.norm (l' := [Hp.rec_ b5 [.int .i64 x4.who, .int .i64 (sReg x4.reg), .bool x4.write, .int .i64 x4.val, .int .i64 x4.fr, .int .i64 x4.to], Hp.own FO 6 ov ((soloH h).take k), Hp.own FN 1 lv (List.range k), Hp.own FZ 1 v1 (four (regsL (soloH h) (List.range k)))]) (by rw [hsr] <;> rfl) ?_
          refine Gx.region ?_
          refine Gx.val rfl rfl rfl (val_move rfl rfl) ?_
          refine Gx.val rfl rfl rfl (val_mul rfl rfl rfl (r := (2 * ((k : Nat) : Int))) (w64 (by omega) (by omega))) ?_
          refine Gx.val rfl rfl rfl (Val.cast (val_fieldAddr rfl Try.underlying31 rfl Try.ty3 rfl rfl) (v' := ptr b5 4) rfl) ?_
          refine Gx.eff0 rfl rfl (eff_store rfl Try.ty3 rfl rfl (us := [.int .i64 (2 * ((k : Nat) : Int))]) rfl rfl rfl (k := 0) rfl (rfl) (vs' := [.int .i64 x4.who, .int .i64 (sReg x4.reg), .bool x4.write, .int .i64 x4.val, .int .i64 (2 * ((k : Nat) : Int)), .int .i64 x4.to]) (rfl) (l' := [Hp.rec_ b5 [.int .i64 x4.who, .int .i64 (sReg x4.reg), .bool x4.write, .int .i64 x4.val, .int .i64 (2 * ((k : Nat) : Int)), .int .i64 x4.to], Hp.own FO 6 ov ((soloH h).take k), Hp.own FN 1 lv (List.range k), Hp.own FZ 1 v1 (four (regsL (soloH h) (List.range k)))]) rfl) ?_
          rintro _ _ rfl
          refine Gx.done ?_
          refine Gx.thenN ?_
          refine Gx.seq ?_
          refine Gx.region ?_
          refine Gx.val rfl rfl rfl (val_move rfl rfl) ?_
          refine Gx.val rfl rfl rfl (val_mul rfl rfl rfl (r := (2 * ((k : Nat) : Int))) (w64 (by omega) (by omega))) ?_
          refine Gx.val rfl rfl rfl (val_add rfl rfl rfl (r := (2 * ((k : Nat) : Int) + 1)) (w64 (by omega) (by omega))) ?_
          refine Gx.val rfl rfl rfl (Val.cast (val_fieldAddr rfl Try.underlying31 rfl Try.ty3 rfl rfl) (v' := ptr b5 5) rfl) ?_
          refine Gx.eff0 rfl rfl (eff_store rfl Try.ty3 rfl rfl (us := [.int .i64 (2 * ((k : Nat) : Int) + 1)]) rfl rfl rfl (k := 0) rfl (rfl) (vs' := [.int .i64 x4.who, .int .i64 (sReg x4.reg), .bool x4.write, .int .i64 x4.val, .int .i64 (2 * ((k : Nat) : Int)), .int .i64 (2 * ((k : Nat) : Int) + 1)]) (rfl) (l' := [Hp.rec_ b5 [.int .i64 x4.who, .int .i64 (sReg x4.reg), .bool x4.write, .int .i64 x4.val, .int .i64 (2 * ((k : Nat) : Int)), .int .i64 (2 * ((k : Nat) : Int) + 1)], Hp.own FO 6 ov ((soloH h).take k), Hp.own FN 1 lv (List.range k), Hp.own FZ 1 v1 (four (regsL (soloH h) (List.range k)))]) rfl) ?_
          rintro _ _ rfl
          refine Gx.done ?_
          refine Gx.thenN ?_
          refine Gx.seq ?_
          refine Gx.seq ?_
          refine Gx.region ?_
          refine Gx.val rfl rfl rfl (Val.cast (val_fieldAddr rfl Try.underlying31 rfl Try.ty4 rfl rfl) (v' := ptr b5 2) rfl) ?_
          refine Gx.val rfl rfl rfl (val_load rfl Try.ty4 rfl rfl (cell_rec (k := 0) rfl rfl)) ?_
          refine Gx.done ?_
          refine Gx.thenN ?_
          refine Gx.bool rfl (fun h24 => ?_) (fun h24 => ?_)
          · refine Gx.region ?_
            refine Gx.val rfl rfl rfl (val_move rfl rfl) ?_
            refine Gx.val rfl rfl rfl (Val.cast (val_fieldAddr rfl Try.underlying31 rfl Try.ty3 rfl rfl) (v' := ptr b5 1) rfl) ?_
            refine Gx.val rfl rfl rfl (val_load rfl Try.ty3 rfl rfl (cell_rec (k := 0) rfl rfl)) ?_
            refine Gx.val rfl rfl rfl (Val.cast (val_fieldAddr rfl Try.underlying31 rfl Try.ty2 rfl rfl) (v' := ptr b5 3) rfl) ?_
            refine Gx.val rfl rfl rfl (val_load rfl Try.ty2 rfl rfl (cell_rec (k := 0) rfl rfl)) ?_
            obtain ⟨x25, hx25⟩ := get_of_lt (xs := (four (regsL (soloH h) (List.range k)))) (k := (sReg x4.reg).toNat) (by first | omega | (rw [four_len]; omega))
            refine Gx.val rfl rfl rfl (val_ixa rfl Try.underlying33 Try.ty2 rfl rfl (j := (sReg x4.reg).toNat) (by omega) (reach_own (k := 3) rfl hx25)) ?_
            refine Gx.eff0 rfl rfl (eff_storeElA x4.val rfl Try.ty2 rfl rfl rfl FZ_one (k := 3) rfl FZ_len hx25 (l' := [Hp.rec_ b5 [.int .i64 x4.who, .int .i64 (sReg x4.reg), .bool x4.write, .int .i64 x4.val, .int .i64 (2 * ((k : Nat) : Int)), .int .i64 (2 * ((k : Nat) : Int) + 1)], Hp.own FO 6 ov ((soloH h).take k), Hp.own FN 1 lv (List.range k), Hp.own FZ 1 v1 (((four (regsL (soloH h) (List.range k)))).set ((sReg x4.reg).toNat) x4.val)]) rfl) ?_
            rintro _ _ rfl
            refine Gx.done ?_
            refine Gx.thenN ?_
            refine Gx.seq ?_
            refine Gx.region ?_
            refine Gx.val rfl rfl rfl (val_move rfl rfl) ?_
            refine Gx.val rfl rfl rfl (Val.cast (val_loadA rfl Try.ty31 rfl rfl rfl (cells_rec (k := 0) rfl)) (v' := .agg #[.int .i64 x4.who, .int .i64 (sReg x4.reg), .bool x4.write, .int .i64 x4.val, .int .i64 (2 * ((k : Nat) : Int)), .int .i64 (2 * ((k : Nat) : Int) + 1)]) rfl) ?_
            refine Gx.eff rfl rfl rfl (eff_buildSlice rfl (qs := [(0, .agg #[.int .i64 x4.who, .int .i64 (sReg x4.reg), .bool x4.write, .int .i64 x4.val, .int .i64 (2 * ((k : Nat) : Int)), .int .i64 (2 * ((k : Nat) : Int) + 1)])]) rfl rfl (cs := #[.int .i64 x4.who, .int .i64 (sReg x4.reg), .bool x4.write, .int .i64 x4.val, .int .i64 (2 * ((k : Nat) : Int)), .int .i64 (2 * ((k : Nat) : Int) + 1)]) (vs := [.int .i64 x4.who, .int .i64 (sReg x4.reg), .bool x4.write, .int .i64 x4.val, .int .i64 (2 * ((k : Nat) : Int)), .int .i64 (2 * ((k : Nat) : Int) + 1)]) (E := 31) rfl (fun w => by first | (go_simp; done) | (go_simp; rfl))) ?_
            rintro _ _ ⟨b26, rfl, rfl⟩
            refine Gx.eff rfl rfl rfl (eff_push (r := (sOp k x4)) rfl Try.eO FO_len FO_one rfl rfl (k := 0) rfl rfl (k' := 1) rfl (by omega) (by omega)) ?_
            rintro v27 _ ⟨hiv27, rfl⟩
            refine Gx.norm (l' := [Hp.rec_ b5 [.int .i64 x4.who, .int .i64 (sReg x4.reg), .bool x4.write, .int .i64 x4.val, .int .i64 (2 * ((k : Nat) : Int)), .int .i64 (2 * ((k : Nat) : Int) + 1)], Hp.own FO 6 v27 (((soloH h).take k) ++ [(sOp k x4)]), Hp.own FN 1 lv (List.range k), Hp.own FZ 1 v1 (((four (regsL (soloH h) (List.range k)))).set ((sReg x4.reg).toNat) x4.val)]) rfl ?_
            refine Gx.val rfl rfl rfl (val_assign rfl rfl) ?_
            refine Gx.done ?_
            refine Gx.thenN ?_
            refine Gx.region ?_
            refine Gx.val rfl rfl rfl (val_move rfl rfl) ?_
            refine Gx.val rfl rfl rfl (val_move rfl rfl) ?_
            refine Gx.eff rfl rfl rfl (eff_buildSlice rfl (qs := [(0, .int .i64 ((k : Nat) : Int))]) rfl rfl (cs := #[.int .i64 ((k : Nat) : Int)]) (vs := [.int .i64 ((k : Nat) : Int)]) (E := 3) rfl (fun w => by first | (go_simp; done) | (go_simp; rfl))) ?_
            rintro _ _ ⟨b28, rfl, rfl⟩
            refine Gx.eff rfl rfl rfl (eff_push (r := k) rfl Try.eN FN_len FN_one rfl rfl (k := 0) rfl rfl (k' := 2) rfl (by omega) (by omega)) ?_
            rintro v29 _ ⟨hiv29, rfl⟩
            refine Gx.norm (l' := [Hp.rec_ b5 [.int .i64 x4.who, .int .i64 (sReg x4.reg), .bool x4.write, .int .i64 x4.val, .int .i64 (2 * ((k : Nat) : Int)), .int .i64 (2 * ((k : Nat) : Int) + 1)], Hp.own FO 6 v27 (((soloH h).take k) ++ [(sOp k x4)]), Hp.own FN 1 v29 ((List.range k) ++ [k]), Hp.own FZ 1 v1 (((four (regsL (soloH h) (List.range k)))).set ((sReg x4.reg).toNat) x4.val)]) rfl ?_
            refine Gx.val rfl rfl rfl (val_assign rfl rfl) ?_
            refine Gx.done ?_
            refine Gx.blkN ?_
            refine Gx.thenN ?_
            refine Gx.region ?_
            refine Gx.val rfl rfl rfl (val_move rfl rfl) ?_
            refine Gx.val rfl rfl rfl (val_add rfl rfl rfl (r := ((k + 1 : Nat) : Int)) (w64 (by omega) (by omega))) ?_
            refine Gx.val rfl rfl rfl (val_assign rfl rfl) ?_
            refine Gx.done ?_
            refine Gx.thenN ?_
            refine Gx.drop 0 rfl ?_
            have hR : regsL (soloH h) (List.range (k + 1)) = updR (regsL (soloH h) (List.range k)) (sReg x4.reg).toNat x4.val := by rw [regs_range hsk]; unfold stepR; rw [if_pos (show (sOp k x4).write = true by simpa [sOp] using h24)]; rfl
            refine Gx.norm (l' := [Hp.own FO 6 v27 ((soloH h).take (k + 1)), Hp.own FN 1 v29 (List.range (k + 1)), Hp.own FZ 1 v1 (four (regsL (soloH h) (List.range (k + 1))))]) (by rw [hR, take_of hsk, List.range_succ, four_set (by omega)] <;> rfl) ?_
            exact Gx.round (k + 1, v27, v29, b) ⟨by first | omega | (dsimp only; omega), by first | omega | (dsimp only; omega), by rw [hb, okS_succ hsk]; exact ⟨fun q => ⟨q, .inl (by simpa [sOp] using h24)⟩, fun q => q.1⟩⟩ (by first | omega | (dsimp only; omega)) ((.cons rfl (.cons rfl (.cons rfl (.cons rfl (.cons rfl (.cons rfl .nil))))))) rfl
          · refine Gx.seq ?_
            refine Gx.regionQ Try.mixed (by kernel_rfl) ?_
            refine Gq.val rfl rfl rfl (val_move rfl rfl) ?_
            refine Gq.val rfl rfl rfl (Val.cast (val_fieldAddr rfl Try.underlying31 rfl Try.ty3 rfl rfl) (v' := ptr b5 1) rfl) ?_
            refine Gq.val rfl rfl rfl (val_load rfl Try.ty3 rfl rfl (cell_rec (k := 0) rfl rfl)) ?_
            obtain ⟨x30, hx30⟩ := get_of_lt (xs := (four (regsL (soloH h) (List.range k)))) (k := (sReg x4.reg).toNat) (by first | omega | (rw [four_len]; omega))
            refine Gq.val rfl rfl rfl (val_ixa rfl Try.underlying33 Try.ty2 rfl rfl (j := (sReg x4.reg).toNat) (by omega) (reach_own (k := 3) rfl hx30)) ?_
            refine Gq.val rfl rfl rfl (val_load rfl Try.ty2 rfl rfl (cell_own (i := 0) (k := 3) rfl hx30 rfl)) ?_
            refine Gq.val rfl rfl rfl (Val.cast (val_fieldAddr rfl Try.underlying31 rfl Try.ty2 rfl rfl) (v' := ptr b5 3) rfl) ?_
            refine Gq.val rfl rfl rfl (val_load rfl Try.ty2 rfl rfl (cell_rec (k := 0) rfl rfl)) ?_
            refine Gq.val rfl rfl rfl (val_neq rfl rfl rfl) ?_
            refine Gq.done ?_
            refine Gx.thenN ?_
            refine Gx.dec rfl (fun h31 => ?_) (fun h31 => ?_)
            · refine Gx.region ?_
              refine Gx.val rfl rfl rfl (val_assign rfl rfl) ?_
              refine Gx.done ?_
              refine Gx.thenN ?_
              refine Gx.seq ?_
              refine Gx.region ?_
              refine Gx.val rfl rfl rfl (val_move rfl rfl) ?_
              refine Gx.val rfl rfl rfl (Val.cast (val_loadA rfl Try.ty31 rfl rfl rfl (cells_rec (k := 0) rfl)) (v' := .agg #[.int .i64 x4.who, .int .i64 (sReg x4.reg), .bool x4.write, .int .i64 x4.val, .int .i64 (2 * ((k : Nat) : Int)), .int .i64 (2 * ((k : Nat) : Int) + 1)]) rfl) ?_
              refine Gx.eff rfl rfl rfl (eff_buildSlice rfl (qs := [(0, .agg #[.int .i64 x4.who, .int .i64 (sReg x4.reg), .bool x4.write, .int .i64 x4.val, .int .i64 (2 * ((k : Nat) : Int)), .int .i64 (2 * ((k : Nat) : Int) + 1)])]) rfl rfl (cs := #[.int .i64 x4.who, .int .i64 (sReg x4.reg), .bool x4.write, .int .i64 x4.val, .int .i64 (2 * ((k : Nat) : Int)), .int .i64 (2 * ((k : Nat) : Int) + 1)]) (vs := [.int .i64 x4.who, .int .i64 (sReg x4.reg), .bool x4.write, .int .i64 x4.val, .int .i64 (2 * ((k : Nat) : Int)), .int .i64 (2 * ((k : Nat) : Int) + 1)]) (E := 31) rfl (fun w => by first | (go_simp; done) | (go_simp; rfl))) ?_
              rintro _ _ ⟨b32, rfl, rfl⟩
              refine Gx.eff rfl rfl rfl (eff_push (r := (sOp k x4)) rfl Try.eO FO_len FO_one rfl rfl (k := 0) rfl rfl (k' := 1) rfl (by omega) (by omega)) ?_
              rintro v33 _ ⟨hiv33, rfl⟩
              refine Gx.norm (l' := [Hp.rec_ b5 [.int .i64 x4.who, .int .i64 (sReg x4.reg), .bool x4.write, .int .i64 x4.val, .int .i64 (2 * ((k : Nat) : Int)), .int .i64 (2 * ((k : Nat) : Int) + 1)], Hp.own FO 6 v33 (((soloH h).take k) ++ [(sOp k x4)]), Hp.own FN 1 lv (List.range k), Hp.own FZ 1 v1 (four (regsL (soloH h) (List.range k)))]) rfl ?_
              refine Gx.val rfl rfl rfl (val_assign rfl rfl) ?_
              refine Gx.done ?_
              refine Gx.thenN ?_
              refine Gx.region ?_
              refine Gx.val rfl rfl rfl (val_move rfl rfl) ?_
              refine Gx.val rfl rfl rfl (val_move rfl rfl) ?_
              refine Gx.eff rfl rfl rfl (eff_buildSlice rfl (qs := [(0, .int .i64 ((k : Nat) : Int))]) rfl rfl (cs := #[.int .i64 ((k : Nat) : Int)]) (vs := [.int .i64 ((k : Nat) : Int)]) (E := 3) rfl (fun w => by first | (go_simp; done) | (go_simp; rfl))) ?_
              rintro _ _ ⟨b34, rfl, rfl⟩
              refine Gx.eff rfl rfl rfl (eff_push (r := k) rfl Try.eN FN_len FN_one rfl rfl (k := 0) rfl rfl (k' := 2) rfl (by omega) (by omega)) ?_
              rintro v35 _ ⟨hiv35, rfl⟩
              refine Gx.norm (l' := [Hp.rec_ b5 [.int .i64 x4.who, .int .i64 (sReg x4.reg), .bool x4.write, .int .i64 x4.val, .int .i64 (2 * ((k : Nat) : Int)), .int .i64 (2 * ((k : Nat) : Int) + 1)], Hp.own FO 6 v33 (((soloH h).take k) ++ [(sOp k x4)]), Hp.own FN 1 v35 ((List.range k) ++ [k]), Hp.own FZ 1 v1 (four (regsL (soloH h) (List.range k)))]) rfl ?_
              refine Gx.val rfl rfl rfl (val_assign rfl rfl) ?_
              refine Gx.done ?_
              refine Gx.blkN ?_
              refine Gx.thenN ?_
              refine Gx.region ?_
              refine Gx.val rfl rfl rfl (val_move rfl rfl) ?_
              refine Gx.val rfl rfl rfl (val_add rfl rfl rfl (r := ((k + 1 : Nat) : Int)) (w64 (by omega) (by omega))) ?_
              refine Gx.val rfl rfl rfl (val_assign rfl rfl) ?_
              refine Gx.done ?_
              refine Gx.thenN ?_
              refine Gx.drop 0 rfl ?_
              have hR : regsL (soloH h) (List.range (k + 1)) = regsL (soloH h) (List.range k) := by rw [regs_range hsk]; unfold stepR; rw [if_neg (show ¬ (sOp k x4).write = true by simpa [sOp] using h24)]
              refine Gx.norm (l' := [Hp.own FO 6 v33 ((soloH h).take (k + 1)), Hp.own FN 1 v35 (List.range (k + 1)), Hp.own FZ 1 v1 (four (regsL (soloH h) (List.range (k + 1))))]) (by rw [hR, take_of hsk, List.range_succ] <;> rfl) ?_
              exact Gx.round (k + 1, v33, v35, false) ⟨by first | omega | (dsimp only; omega), by first | omega | (dsimp only; omega), by rw [okS_succ hsk]; exact ⟨fun q => (by cases q), fun q => by exfalso; rcases q.2 with q | q; (simp [sOp, h24] at q); (exact h31 ((four_get hx30).trans q))⟩⟩ (by first | omega | (dsimp only; omega)) ((.cons rfl (.cons rfl (.cons rfl (.cons rfl (.cons rfl (.cons rfl .nil))))))) rfl
            · refine Gx.skip ?_
              refine Gx.thenN ?_
              refine Gx.seq ?_
              refine Gx.region ?_
              refine Gx.val rfl rfl rfl (val_move rfl rfl) ?_
              refine Gx.val rfl rfl rfl (Val.cast (val_loadA rfl Try.ty31 rfl rfl rfl (cells_rec (k := 0) rfl)) (v' := .agg #[.int .i64 x4.who, .int .i64 (sReg x4.reg), .bool x4.write, .int .i64 x4.val, .int .i64 (2 * ((k : Nat) : Int)), .int .i64 (2 * ((k : Nat) : Int) + 1)]) rfl) ?_
              refine Gx.eff rfl rfl rfl (eff_buildSlice rfl (qs := [(0, .agg #[.int .i64 x4.who, .int .i64 (sReg x4.reg), .bool x4.write, .int .i64 x4.val, .int .i64 (2 * ((k : Nat) : Int)), .int .i64 (2 * ((k : Nat) : Int) + 1)])]) rfl rfl (cs := #[.int .i64 x4.who, .int .i64 (sReg x4.reg), .bool x4.write, .int .i64 x4.val, .int .i64 (2 * ((k : Nat) : Int)), .int .i64 (2 * ((k : Nat) : Int) + 1)]) (vs := [.int .i64 x4.who, .int .i64 (sReg x4.reg), .bool x4.write, .int .i64 x4.val, .int .i64 (2 * ((k : Nat) : Int)), .int .i64 (2 * ((k : Nat) : Int) + 1)]) (E := 31) rfl (fun w => by first | (go_simp; done) | (go_simp; rfl))) ?_
              rintro _ _ ⟨b36, rfl, rfl⟩
              refine Gx.eff rfl rfl rfl (eff_push (r := (sOp k x4)) rfl Try.eO FO_len FO_one rfl rfl (k := 0) rfl rfl (k' := 1) rfl (by omega) (by omega)) ?_
              rintro v37 _ ⟨hiv37, rfl⟩
              refine Gx.norm (l' := [Hp.rec_ b5 [.int .i64 x4.who, .int .i64 (sReg x4.reg), .bool x4.write, .int .i64 x4.val, .int .i64 (2 * ((k : Nat) : Int)), .int .i64 (2 * ((k : Nat) : Int) + 1)], Hp.own FO 6 v37 (((soloH h).take k) ++ [(sOp k x4)]), Hp.own FN 1 lv (List.range k), Hp.own FZ 1 v1 (four (regsL (soloH h) (List.range k)))]) rfl ?_
              refine Gx.val rfl rfl rfl (val_assign rfl rfl) ?_
              refine Gx.done ?_
              refine Gx.thenN ?_
              refine Gx.region ?_
              refine Gx.val rfl rfl rfl (val_move rfl rfl) ?_
              refine Gx.val rfl rfl rfl (val_move rfl rfl) ?_
              refine Gx.eff rfl rfl rfl (eff_buildSlice rfl (qs := [(0, .int .i64 ((k : Nat) : Int))]) rfl rfl (cs := #[.int .i64 ((k : Nat) : Int)]) (vs := [.int .i64 ((k : Nat) : Int)]) (E := 3) rfl (fun w => by first | (go_simp; done) | (go_simp; rfl))) ?_
              rintro _ _ ⟨b38, rfl, rfl⟩
              refine Gx.eff rfl rfl rfl (eff_push (r := k) rfl Try.eN FN_len FN_one rfl rfl (k := 0) rfl rfl (k' := 2) rfl (by omega) (by omega)) ?_
              rintro v39 _ ⟨hiv39, rfl⟩
              refine Gx.norm (l' := [Hp.rec_ b5 [.int .i64 x4.who, .int .i64 (sReg x4.reg), .bool x4.write, .int .i64 x4.val, .int .i64 (2 * ((k : Nat) : Int)), .int .i64 (2 * ((k : Nat) : Int) + 1)], Hp.own FO 6 v37 (((soloH h).take k) ++ [(sOp k x4)]), Hp.own FN 1 v39 ((List.range k) ++ [k]), Hp.own FZ 1 v1 (four (regsL (soloH h) (List.range k)))]) rfl ?_
              refine Gx.val rfl rfl rfl (val_assign rfl rfl) ?_
              refine Gx.done ?_
              refine Gx.blkN ?_
              refine Gx.thenN ?_
              refine Gx.region ?_
              refine Gx.val rfl rfl rfl (val_move rfl rfl) ?_
              refine Gx.val rfl rfl rfl (val_add rfl rfl rfl (r := ((k + 1 : Nat) : Int)) (w64 (by omega) (by omega))) ?_
              refine Gx.val rfl rfl rfl (val_assign rfl rfl) ?_
              refine Gx.done ?_
              refine Gx.thenN ?_
              refine Gx.drop 0 rfl ?_
              have hR : regsL (soloH h) (List.range (k + 1)) = regsL (soloH h) (List.range k) := by rw [regs_range hsk]; unfold stepR; rw [if_neg (show ¬ (sOp k x4).write = true by simpa [sOp] using h24)]
              refine Gx.norm (l' := [Hp.own FO 6 v37 ((soloH h).take (k + 1)), Hp.own FN 1 v39 (List.range (k + 1)), Hp.own FZ 1 v1 (four (regsL (soloH h) (List.range (k + 1))))]) (by rw [hR, take_of hsk, List.range_succ] <;> rfl) ?_
              exact Gx.round (k + 1, v37, v39, b) ⟨by first | omega | (dsimp only; omega), by first | omega | (dsimp only; omega), by rw [hb, okS_succ hsk]; exact ⟨fun q => ⟨q, .inr ((four_get hx30).symm.trans (by simp only [sOp]; omega))⟩, fun q => q.1⟩⟩ (by first | omega | (dsimp only; omega)) ((.cons rfl (.cons rfl (.cons rfl (.cons rfl (.cons rfl (.cons rfl .nil))))))) rfl
        · refine Gx.skip ?_
          refine Gx.thenN ?_
          refine Gx.seq ?_
          have hsr : sReg x4.reg = x4.reg := by unfold sReg; exact if_pos (by omega)
          refine Gx.norm (l' := [Hp.rec_ b5 [.int .i64 x4.who, .int .i64 (sReg x4.reg), .bool x4.write, .int .i64 x4.val, .int .i64 x4.fr, .int .i64 x4.to], Hp.own FO 6 ov ((soloH h).take k), Hp.own FN 1 lv (List.range k), Hp.own FZ 1 v1 (four (regsL (soloH h) (List.range k)))]) (by rw [hsr] <;> rfl) ?_
          refine Gx.region ?_
          refine Gx.val rfl rfl rfl (val_move rfl rfl) ?_
          refine Gx.val rfl rfl rfl (val_mul rfl rfl rfl (r := (2 * ((k : Nat) : Int))) (w64 (by omega) (by omega))) ?_
          refine Gx.val rfl rfl rfl (Val.cast (val_fieldAddr rfl Try.underlying31 rfl Try.ty3 rfl rfl) (v' := ptr b5 4) rfl) ?_
          refine Gx.eff0 rfl rfl (eff_store rfl Try.ty3 rfl rfl (us := [.int .i64 (2 * ((k : Nat) : Int))]) rfl rfl rfl (k := 0) rfl (rfl) (vs' := [.int .i64 x4.who, .int .i64 (sReg x4.reg), .bool x4.write, .int .i64 x4.val, .int .i64 (2 * ((k : Nat) : Int)), .int .i64 x4.to]) (rfl) (l' := [Hp.rec_ b5 [.int .i64 x4.who, .int .i64 (sReg x4.reg), .bool x4.write, .int .i64 x4.val, .int .i64 (2 * ((k : Nat) : Int)), .int .i64 x4.to], Hp.own FO 6 ov ((soloH h).take k), Hp.own FN 1 lv (List.range k), Hp.own FZ 1 v1 (four (regsL (soloH h) (List.range k)))]) rfl) ?_
          rintro _ _ rfl
          refine Gx.done ?_
          refine Gx.thenN ?_
          refine Gx.seq ?_
          refine Gx.region ?_
          refine Gx.val rfl rfl rfl (val_move rfl rfl) ?_
          refine Gx.val rfl rfl rfl (val_mul rfl rfl rfl (r := (2 * ((k : Nat) : Int))) (w64 (by omega) (by omega))) ?_
          refine Gx.val rfl rfl rfl (val_add rfl rfl rfl (r := (2 * ((k : Nat) : Int) + 1)) (w64 (by omega) (by omega))) ?_
          refine Gx.val rfl rfl rfl (Val.cast (val_fieldAddr rfl Try.underlying31 rfl Try.ty3 rfl rfl) (v' := ptr b5 5) rfl) ?_
          refine Gx.eff0 rfl rfl (eff_store rfl Try.ty3 rfl rfl (us := [.int .i64 (2 * ((k : Nat) : Int) + 1)]) rfl rfl rfl (k := 0) rfl (rfl) (vs' := [.int .i64 x4.who, .int .i64 (sReg x4.reg), .bool x4.write, .int .i64 x4.val, .int .i64 (2 * ((k : Nat) : Int)), .int .i64 (2 * ((k : Nat) : Int) + 1)]) (rfl) (l' := [Hp.rec_ b5 [.int .i64 x4.who, .int .i64 (sReg x4.reg), .bool x4.write, .int .i64 x4.val, .int .i64 (2 * ((k : Nat) : Int)), .int .i64 (2 * ((k : Nat) : Int) + 1)], Hp.own FO 6 ov ((soloH h).take k), Hp.own FN 1 lv (List.range k), Hp.own FZ 1 v1 (four (regsL (soloH h) (List.range k)))]) rfl) ?_
          rintro _ _ rfl
          refine Gx.done ?_
          refine Gx.thenN ?_
          refine Gx.seq ?_
          refine Gx.seq ?_
          refine Gx.region ?_
          refine Gx.val rfl rfl rfl (Val.cast (val_fieldAddr rfl Try.underlying31 rfl Try.ty4 rfl rfl) (v' := ptr b5 2) rfl) ?_
          refine Gx.val rfl rfl rfl (val_load rfl Try.ty4 rfl rfl (cell_rec (k := 0) rfl rfl)) ?_
          refine Gx.done ?_
          refine Gx.thenN ?_
          refine Gx.bool rfl (fun h40 => ?_) (fun h40 => ?_)
          · refine Gx.region ?_
            refine Gx.val rfl rfl rfl (val_move rfl rfl) ?_
            refine Gx.val rfl rfl rfl (Val.cast (val_fieldAddr rfl Try.underlying31 rfl Try.ty3 rfl rfl) (v' := ptr b5 1) rfl) ?_
            refine Gx.val rfl rfl rfl (val_load rfl Try.ty3 rfl rfl (cell_rec (k := 0) rfl rfl)) ?_
            refine Gx.val rfl rfl rfl (Val.cast (val_fieldAddr rfl Try.underlying31 rfl Try.ty2 rfl rfl) (v' := ptr b5 3) rfl) ?_
            refine Gx.val rfl rfl rfl (val_load rfl Try.ty2 rfl rfl (cell_rec (k := 0) rfl rfl)) ?_
            obtain ⟨x41, hx41⟩ := get_of_lt (xs := (four (regsL (soloH h) (List.range k)))) (k := (sReg x4.reg).toNat) (by first | omega | (rw [four_len]; omega))
            refine Gx.val rfl rfl rfl (val_ixa rfl Try.underlying33 Try.ty2 rfl rfl (j := (sReg x4.reg).toNat) (by omega) (reach_own (k := 3) rfl hx41)) ?_
            refine Gx.eff0 rfl rfl (eff_storeElA x4.val rfl Try.ty2 rfl rfl rfl FZ_one (k := 3) rfl FZ_len hx41 (l' := [Hp.rec_ b5 [.int .i64 x4.who, .int .i64 (sReg x4.reg), .bool x4.write, .int .i64 x4.val, .int .i64 (2 * ((k : Nat) : Int)), .int .i64 (2 * ((k : Nat) : Int) + 1)], Hp.own FO 6 ov ((soloH h).take k), Hp.own FN 1 lv (List.range k), Hp.own FZ 1 v1 (((four (regsL (soloH h) (List.range k)))).set ((sReg x4.reg).toNat) x4.val)]) rfl) ?_
            rintro _ _ rfl
            refine Gx.done ?_
            refine Gx.thenN ?_
            refine Gx.seq ?_
            refine Gx.region ?_
            refine Gx.val rfl rfl rfl (val_move rfl rfl) ?_
            refine Gx.val rfl rfl rfl (Val.cast (val_loadA rfl Try.ty31 rfl rfl rfl (cells_rec (k := 0) rfl)) (v' := .agg #[.int .i64 x4.who, .int .i64 (sReg x4.reg), .bool x4.write, .int .i64 x4.val, .int .i64 (2 * ((k : Nat) : Int)), .int .i64 (2 * ((k : Nat) : Int) + 1)]) rfl) ?_
            refine Gx.eff rfl rfl rfl (eff_buildSlice rfl (qs := [(0, .agg #[.int .i64 x4.who, .int .i64 (sReg x4.reg), .bool x4.write, .int .i64 x4.val, .int .i64 (2 * ((k : Nat) : Int)), .int .i64 (2 * ((k : Nat) : Int) + 1)])]) rfl rfl (cs := #[.int .i64 x4.who, .int .i64 (sReg x4.reg), .bool x4.write, .int .i64 x4.val, .int .i64 (2 * ((k : Nat) : Int)), .int .i64 (2 * ((k : Nat) : Int) + 1)]) (vs := [.int .i64 x4.who, .int .i64 (sReg x4.reg), .bool x4.write, .int .i64 x4.val, .int .i64 (2 * ((k : Nat) : Int)), .int .i64 (2 * ((k : Nat) : Int) + 1)]) (E := 31) rfl (fun w => by first | (go_simp; done) | (go_simp; rfl))) ?_
            rintro _ _ ⟨b42, rfl, rfl⟩
            refine Gx.eff rfl rfl rfl (eff_push (r := (sOp k x4)) rfl Try.eO FO_len FO_one rfl rfl (k := 0) rfl rfl (k' := 1) rfl (by omega) (by omega)) ?_
            rintro v43 _ ⟨hiv43, rfl⟩
            refine Gx.norm (l' := [Hp.rec_ b5 [.int .i64 x4.who, .int .i64 (sReg x4.reg), .bool x4.write, .int .i64 x4.val, .int .i64 (2 * ((k : Nat) : Int)), .int .i64 (2 * ((k : Nat) : Int) + 1)], Hp.own FO 6 v43 (((soloH h).take k) ++ [(sOp k x4)]), Hp.own FN 1 lv (List.range k), Hp.own FZ 1 v1 (((four (regsL (soloH h) (List.range k)))).set ((sReg x4.reg).toNat) x4.val)]) rfl ?_
            refine Gx.val rfl rfl rfl (val_assign rfl rfl) ?_
            refine Gx.done ?_
            refine Gx.thenN ?_
            refine Gx.region ?_
            refine Gx.val rfl rfl rfl (val_move rfl rfl) ?_
            refine Gx.val rfl rfl rfl (val_move rfl rfl) ?_
            refine Gx.eff rfl rfl rfl (eff_buildSlice rfl (qs := [(0, .int .i64 ((k : Nat) : Int))]) rfl rfl (cs := #[.int .i64 ((k : Nat) : Int)]) (vs := [.int .i64 ((k : Nat) : Int)]) (E := 3) rfl (fun w => by first | (go_simp; done) | (go_simp; rfl))) ?_
            rintro _ _ ⟨b44, rfl, rfl⟩
            refine Gx.eff rfl rfl rfl (eff_push (r := k) rfl Try.eN FN_len FN_one rfl rfl (k := 0) rfl rfl (k' := 2) rfl (by omega) (by omega)) ?_
            rintro v45 _ ⟨hiv45, rfl⟩
            refine Gx.norm (l' := [Hp.rec_ b5 [.int .i64 x4.who, .int .i64 (sReg x4.reg), .bool x4.write, .int .i64 x4.val, .int .i64 (2 * ((k : Nat) : Int)), .int .i64 (2 * ((k : Nat) : Int) + 1)], Hp.own FO 6 v43 (((soloH h).take k) ++ [(sOp k x4)]), Hp.own FN 1 v45 ((List.range k) ++ [k]), Hp.own FZ 1 v1 (((four (regsL (soloH h) (List.range k)))).set ((sReg x4.reg).toNat) x4.val)]) rfl ?_
            refine Gx.val rfl rfl rfl (val_assign rfl rfl) ?_
            refine Gx.done ?_
            refine Gx.blkN ?_
            refine Gx.thenN ?_
            refine Gx.region ?_
            refine Gx.val rfl rfl rfl (val_move rfl rfl) ?_
            refine Gx.val rfl rfl rfl (val_add rfl rfl rfl (r := ((k + 1 : Nat) : Int)) (w64 (by omega) (by omega))) ?_
            refine Gx.val rfl rfl rfl (val_assign rfl rfl) ?_
            refine Gx.done ?_
            refine Gx.thenN ?_
            refine Gx.drop 0 rfl ?_
            have hR : regsL (soloH h) (List.range (k + 1)) = updR (regsL (soloH h) (List.range k)) (sReg x4.reg).toNat x4.val := by rw [regs_range hsk]; unfold stepR; rw [if_pos (show (sOp k x4).write = true by simpa [sOp] using h40)]; rfl
            refine Gx.norm (l' := [Hp.own FO 6 v43 ((soloH h).take (k + 1)), Hp.own FN 1 v45 (List.range (k + 1)), Hp.own FZ 1 v1 (four (regsL (soloH h) (List.range (k + 1))))]) (by rw [hR, take_of hsk, List.range_succ, four_set (by omega)] <;> rfl) ?_
            exact Gx.round (k + 1, v43, v45, b) ⟨by first | omega | (dsimp only; omega), by first | omega | (dsimp only; omega), by rw [hb, okS_succ hsk]; exact ⟨fun q => ⟨q, .inl (by simpa [sOp] using h40)⟩, fun q => q.1⟩⟩ (by first | omega | (dsimp only; omega)) ((.cons rfl (.cons rfl (.cons rfl (.cons rfl (.cons rfl (.cons rfl .nil))))))) rfl
          · refine Gx.seq ?_
            refine Gx.regionQ Try.mixed (by kernel_rfl) ?_
            refine Gq.val rfl rfl rfl (val_move rfl rfl) ?_
            refine Gq.val rfl rfl rfl (Val.cast (val_fieldAddr rfl Try.underlying31 rfl Try.ty3 rfl rfl) (v' := ptr b5 1) rfl) ?_
            refine Gq.val rfl rfl rfl (val_load rfl Try.ty3 rfl rfl (cell_rec (k := 0) rfl rfl)) ?_
            obtain ⟨x46, hx46⟩ := get_of_lt (xs := (four (regsL (soloH h) (List.range k)))) (k := (sReg x4.reg).toNat) (by first | omega | (rw [four_len]; omega))
            refine Gq.val rfl rfl rfl (val_ixa rfl Try.underlying33 Try.ty2 rfl rfl (j := (sReg x4.reg).toNat) (by omega) (reach_own (k := 3) rfl hx46)) ?_
            refine Gq.val rfl rfl rfl (val_load rfl Try.ty2 rfl rfl (cell_own (i := 0) (k := 3) rfl hx46 rfl)) ?_
            refine Gq.val rfl rfl rfl (Val.cast (val_fieldAddr rfl Try.underlying31 rfl Try.ty2 rfl rfl) (v' := ptr b5 3) rfl) ?_
            refine Gq.val rfl rfl rfl (val_load rfl Try.ty2 rfl rfl (cell_rec (k := 0) rfl rfl)) ?_
            refine Gq.val rfl rfl rfl (val_neq rfl rfl rfl) ?_
            refine Gq.done ?_
            refine Gx.thenN ?_
            refine Gx.dec rfl (fun h47 => ?_) (fun h47 => ?_)
            · refine Gx.region ?_
              refine Gx.val rfl rfl rfl (val_assign rfl rfl) ?_
              refine Gx.done ?_
              refine Gx.thenN ?_
              refine Gx.seq ?_
              refine Gx.region ?_
              refine Gx.val rfl rfl rfl (val_move rfl rfl) ?_
              refine Gx.val rfl rfl rfl (Val.cast (val_loadA rfl Try.ty31 rfl rfl rfl (cells_rec (k := 0) rfl)) (v' := .agg #[.int .i64 x4.who, .int .i64 (sReg x4.reg), .bool x4.write, .int .i64 x4.val, .int .i64 (2 * ((k : Nat) : Int)), .int .i64 (2 * ((k : Nat) : Int) + 1)]) rfl) ?_
              refine Gx.eff rfl rfl rfl (eff_buildSlice rfl (qs := [(0, .agg #[.int .i64 x4.who, .int .i64 (sReg x4.reg), .bool x4.write, .int .i64 x4.val, .int .i64 (2 * ((k : Nat) : Int)), .int .i64 (2 * ((k : Nat) : Int) + 1)])]) rfl rfl (cs := #[.int .i64 x4.who, .int .i64 (sReg x4.reg), .bool x4.write, .int .i64 x4.val, .int .i64 (2 * ((k : Nat) : Int)), .int .i64 (2 * ((k : Nat) : Int) + 1)]) (vs := [.int .i64 x4.who, .int .i64 (sReg x4.reg), .bool x4.write, .int .i64 x4.val, .int .i64 (2 * ((k : Nat) : Int)), .int .i64 (2 * ((k : Nat) : Int) + 1)]) (E := 31) rfl (fun w => by first | (go_simp; done) | (go_simp; rfl))) ?_
              rintro _ _ ⟨b48, rfl, rfl⟩
              refine Gx.eff rfl rfl rfl (eff_push (r := (sOp k x4)) rfl Try.eO FO_len FO_one rfl rfl (k := 0) rfl rfl (k' := 1) rfl (by omega) (by omega)) ?_
              rintro v49 _ ⟨hiv49, rfl⟩
              refine Gx.norm (l' := [Hp.rec_ b5 [.int .i64 x4.who, .int .i64 (sReg x4.reg), .bool x4.write, .int .i64 x4.val, .int .i64 (2 * ((k : Nat) : Int)), .int .i64 (2 * ((k : Nat) : Int) + 1)], Hp.own FO 6 v49 (((soloH h).take k) ++ [(sOp k x4)]), Hp.own FN 1 lv (List.range k), Hp.own FZ 1 v1 (four (regsL (soloH h) (List.range k)))]) rfl ?_
              refine Gx.val rfl rfl rfl (val_assign rfl rfl) ?_
              refine Gx.done ?_
              refine Gx.thenN ?_
              refine Gx.region ?_
              refine Gx.val rfl rfl rfl (val_move rfl rfl) ?_
              refine Gx.val rfl rfl rfl (val_move rfl rfl) ?_
              refine Gx.eff rfl rfl rfl (eff_buildSlice rfl (qs := [(0, .int .i64 ((k : Nat) : Int))]) rfl rfl (cs := #[.int .i64 ((k : Nat) : Int)]) (vs := [.int .i64 ((k : Nat) : Int)]) (E := 3) rfl (fun w => by first | (go_simp; done) | (go_simp; rfl))) ?_
              rintro _ _ ⟨b50, rfl, rfl⟩
              refine Gx.eff rfl rfl rfl (eff_push (r := k) rfl Try.eN FN_len FN_one rfl rfl (k := 0) rfl rfl (k' := 2) rfl (by omega) (by omega)) ?_
              rintro v51 _ ⟨hiv51, rfl⟩
              refine Gx.norm (l' := [Hp.rec_ b5 [.int .i64 x4.who, .int .i64 (sReg x4.reg), .bool x4.write, .int .i64 x4.val, .int .i64 (2 * ((k : Nat) : Int)), .int .i64 (2 * ((k : Nat) : Int) + 1)], Hp.own FO 6 v49 (((soloH h).take k) ++ [(sOp k x4)]), Hp.own FN 1 v51 ((List.range k) ++ [k]), Hp.own FZ 1 v1 (four (regsL (soloH h) (List.range k)))]) rfl ?_
              refine Gx.val rfl rfl rfl (val_assign rfl rfl) ?_
              refine Gx.done ?_
              refine Gx.blkN ?_
              refine Gx.thenN ?_
              refine Gx.region ?_
              refine Gx.val rfl rfl rfl (val_move rfl rfl) ?_
              refine Gx.val rfl rfl rfl (val_add rfl rfl rfl (r := ((k + 1 : Nat) : Int)) (w64 (by omega) (by omega))) ?_
              refine Gx.val rfl rfl rfl (val_assign rfl rfl) ?_
              refine Gx.done ?_
              refine Gx.thenN ?_
              refine Gx.drop 0 rfl ?_
              have hR : regsL (soloH h) (List.range (k + 1)) = regsL (soloH h) (List.range k) := by rw [regs_range hsk]; unfold stepR; rw [if_neg (show ¬ (sOp k x4).write = true by simpa [sOp] using h40)]
              refine Gx.norm (l' := [Hp.own FO 6 v49 ((soloH h).take (k + 1)), Hp.own FN 1 v51 (List.range (k + 1)), Hp.own FZ 1 v1 (four (regsL (soloH h) (List.range (k + 1))))]) (by rw [hR, take_of hsk, List.range_succ] <;> rfl) ?_
              exact Gx.round (k + 1, v49, v51, false) ⟨by first | omega | (dsimp only; omega), by first | omega | (dsimp only; omega), by rw [okS_succ hsk]; exact ⟨fun q => (by cases q), fun q => by exfalso; rcases q.2 with q | q; (simp [sOp, h40] at q); (exact h47 ((four_get hx46).trans q))⟩⟩ (by first | omega | (dsimp only; omega)) ((.cons rfl (.cons rfl (.cons rfl (.cons rfl (.cons rfl (.cons rfl .nil))))))) rfl
            · refine Gx.skip ?_
              refine Gx.thenN ?_
              refine Gx.seq ?_
              refine Gx.region ?_
              refine Gx.val rfl rfl rfl (val_move rfl rfl) ?_
              refine Gx.val rfl rfl rfl (Val.cast (val_loadA rfl Try.ty31 rfl rfl rfl (cells_rec (k := 0) rfl)) (v' := .agg #[.int .i64 x4.who, .int .i64 (sReg x4.reg), .bool x4.write, .int .i64 x4.val, .int .i64 (2 * ((k : Nat) : Int)), .int .i64 (2 * ((k : Nat) : Int) + 1)]) rfl) ?_
              refine Gx.eff rfl rfl rfl (eff_buildSlice rfl (qs := [(0, .agg #[.int .i64 x4.who, .int .i64 (sReg x4.reg), .bool x4.write, .int .i64 x4.val, .int .i64 (2 * ((k : Nat) : Int)), .int .i64 (2 * ((k : Nat) : Int) + 1)])]) rfl rfl (cs := #[.int .i64 x4.who, .int .i64 (sReg x4.reg), .bool x4.write, .int .i64 x4.val, .int .i64 (2 * ((k : Nat) : Int)), .int .i64 (2 * ((k : Nat) : Int) + 1)]) (vs := [.int .i64 x4.who, .int .i64 (sReg x4.reg), .bool x4.write, .int .i64 x4.val, .int .i64 (2 * ((k : Nat) : Int)), .int .i64 (2 * ((k : Nat) : Int) + 1)]) (E := 31) rfl (fun w => by first | (go_simp; done) | (go_simp; rfl))) ?_
              rintro _ _ ⟨b52, rfl, rfl⟩
              refine Gx.eff rfl rfl rfl (eff_push (r := (sOp k x4)) rfl Try.eO FO_len FO_one rfl rfl (k := 0) rfl rfl (k' := 1) rfl (by omega) (by omega)) ?_
              rintro v53 _ ⟨hiv53, rfl⟩
              refine Gx.norm (l' := [Hp.rec_ b5 [.int .i64 x4.who, .int .i64 (sReg x4.reg), .bool x4.write, .int .i64 x4.val, .int .i64 (2 * ((k : Nat) : Int)), .int .i64 (2 * ((k : Nat) : Int) + 1)], Hp.own FO 6 v53 (((soloH h).take k) ++ [(sOp k x4)]), Hp.own FN 1 lv (List.range k), Hp.own FZ 1 v1 (four (regsL (soloH h) (List.range k)))]) rfl ?_
              refine Gx.val rfl rfl rfl (val_assign rfl rfl) ?_
              refine Gx.done ?_
              refine Gx.thenN ?_
              refine Gx.region ?_
              refine Gx.val rfl rfl rfl (val_move rfl rfl) ?_
              refine Gx.val rfl rfl rfl (val_move rfl rfl) ?_
              refine Gx.eff rfl rfl rfl (eff_buildSlice rfl (qs := [(0, .int .i64 ((k : Nat) : Int))]) rfl rfl (cs := #[.int .i64 ((k : Nat) : Int)]) (vs := [.int .i64 ((k : Nat) : Int)]) (E := 3) rfl (fun w => by first | (go_simp; done) | (go_simp; rfl))) ?_
              rintro _ _ ⟨b54, rfl, rfl⟩
              refine Gx.eff rfl rfl rfl (eff_push (r := k) rfl Try.eN FN_len FN_one rfl rfl (k := 0) rfl rfl (k' := 2) rfl (by omega) (by omega)) ?_
              rintro v55 _ ⟨hiv55, rfl⟩
              refine Gx.norm (l' := [Hp.rec_ b5 [.int .i64 x4.who, .int .i64 (sReg x4.reg), .bool x4.write, .int .i64 x4.val, .int .i64 (2 * ((k : Nat) : Int)), .int .i64 (2 * ((k : Nat) : Int) + 1)], Hp.own FO 6 v53 (((soloH h).take k) ++ [(sOp k x4)]), Hp.own FN 1 v55 ((List.range k) ++ [k]), Hp.own FZ 1 v1 (four (regsL (soloH h) (List.range k)))]) rfl ?_
              refine Gx.val rfl rfl rfl (val_assign rfl rfl) ?_
              refine Gx.done ?_
              refine Gx.blkN ?_
              refine Gx.thenN ?_
              refine Gx.region ?_
              refine Gx.val rfl rfl rfl (val_move rfl rfl) ?_
              refine Gx.val rfl rfl rfl (val_add rfl rfl rfl (r := ((k + 1 : Nat) : Int)) (w64 (by omega) (by omega))) ?_
              refine Gx.val rfl rfl rfl (val_assign rfl rfl) ?_
              refine Gx.done ?_
              refine Gx.thenN ?_
              refine Gx.drop 0 rfl ?_
              have hR : regsL (soloH h) (List.range (k + 1)) = regsL (soloH h) (List.range k) := by rw [regs_range hsk]; unfold stepR; rw [if_neg (show ¬ (sOp k x4).write = true by simpa [sOp] using h40)]
              refine Gx.norm (l' := [Hp.own FO 6 v53 ((soloH h).take (k + 1)), Hp.own FN 1 v55 (List.range (k + 1)), Hp.own FZ 1 v1 (four (regsL (soloH h) (List.range (k + 1))))]) (by rw [hR, take_of hsk, List.range_succ] <;> rfl) ?_
              exact Gx.round (k + 1, v53, v55, b) ⟨by first | omega | (dsimp only; omega), by first | omega | (dsimp only; omega), by rw [hb, okS_succ hsk]; exact ⟨fun q => ⟨q, .inr ((four_get hx46).symm.trans (by simp only [sOp]; omega))⟩, fun q => q.1⟩⟩ (by first | omega | (dsimp only; omega)) ((.cons rfl (.cons rfl (.cons rfl (.cons rfl (.cons rfl (.cons rfl .nil))))))) rfl
    · refine Gx.exit ?_
      refine Gx.thenE ?_
      refine Gx.thenE ?_
      refine Gx.blkE ?_
      refine Gx.thenN ?_
      refine Gx.seq ?_
      have hke : (soloH h).length = k := by omega
      have h4l := four_len (regsL (soloH h) (List.range k))
      have hrl2 := List.length_range (n := k)
      refine Gx.norm (l' := [Hp.own FO 6 ov (soloH h), Hp.own FN 1 lv (List.range k), Hp.own FZ 1 v1 (four (regsL (soloH h) (List.range k)))]) (by rw [List.take_of_length_le (by omega)] <;> rfl) ?_
      refine Gx.region ?_
      refine Gx.val rfl rfl rfl (val_move rfl rfl) ?_
      refine Gx.callB rfl rfl rfl (vs := [ov]) rfl Try.fn9 rfl (R := LinN (soloH h)) (fun w H => linear_new ((H.at_ (k := 0) rfl).sls (by omega))) ?_
      rintro _ W57 ⟨a56, n56, c56, b56, e56, ms56, rfl, hA56, hB56, hC56⟩ H58
      have hW59 := H58.below
      have hs60 := hs.below H58.below
      have hs61 := (H58.at_ (k := 0) rfl).sls (by first | omega | (simp; omega))
      have hs62 := (H58.at_ (k := 1) rfl).sls (by first | omega | (simp; omega))
      have hs63 := (H58.at_ (k := 2) rfl).sls (by first | omega | (simp; omega))
      have e1 := hA56.2 solo_ok
      have i1 := hB56 solo_ok
      rw [solo_find, hke] at i1
      refine Gx.val rfl rfl rfl (val_move rfl rfl) ?_
      refine Gx.val rfl rfl rfl (val_extract rfl rfl rfl) ?_
      refine Gx.val rfl rfl rfl (val_extract rfl rfl rfl) ?_
      refine Gx.val rfl rfl rfl (val_extract rfl rfl rfl) ?_
      refine Gx.val rfl rfl rfl (val_assign rfl rfl) ?_
      refine Gx.val rfl rfl rfl (val_assign rfl rfl) ?_
      refine Gx.val rfl rfl rfl (val_assign rfl rfl) ?_
      refine Gx.done ?_
      refine Gx.thenN ?_
      refine Gx.seq ?_
      refine Gx.seq ?_
      refine Gx.region ?_
      refine Gx.val rfl rfl rfl (val_move rfl rfl) ?_
      refine Gx.val rfl rfl rfl (val_neq rfl rfl rfl) ?_
      refine Gx.val rfl rfl rfl (val_move rfl rfl) ?_
      refine Gx.slot (t := 75) (v := .bool false) (look_decF rfl (by omega)) ?_
      refine Gx.valg rfl rfl rfl rfl rfl (val_move rfl rfl) ?_
      refine Gx.valg rfl rfl rfl rfl rfl (val_move rfl rfl) ?_
      refine Gx.valg rfl rfl rfl rfl rfl (val_neqB Try.underlying4 rfl rfl rfl) ?_
      refine Gx.val rfl rfl rfl (val_pickF rfl rfl rfl) ?_
      refine Gx.done ?_
      refine Gx.thenN ?_
      refine Gx.bool rfl (fun h64 => ?_) (fun h64 => ?_)
      · refine Gx.seq ?_
        refine Gx.region ?_
        refine Gx.val rfl rfl rfl (val_assign rfl rfl) ?_
        refine Gx.done ?_
        refine Gx.thenN ?_
        refine Gx.ret ?_
        refine Gx.thenR ?_
        refine Gx.ret1B hW59 Try.results6 rfl ?_
        exfalso; by_cases q : okS h k
        · rw [if_pos q] at i1; have := hb.2 q; simp_all
        · rw [if_neg q] at i1; have : ¬ b = true := fun e => q (hb.1 e); simp_all
      · refine Gx.skip ?_
        refine Gx.thenN ?_
        refine Gx.seq ?_
        refine Gx.region ?_
        refine Gx.val rfl rfl rfl (val_move rfl rfl) ?_
        refine Gx.val rfl rfl rfl (val_not rfl rfl) ?_
        refine Gx.val rfl rfl rfl (val_move rfl rfl) ?_
        refine Gx.casesB (t := 82) rfl (fun h65 => ?_) (fun h65 => ?_)
        · refine Gx.skipg rfl rfl rfl rfl rfl rfl ?_
          refine Gx.skipg rfl rfl rfl rfl rfl rfl ?_
          refine Gx.skipg rfl rfl rfl rfl rfl rfl ?_
          refine Gx.val rfl rfl rfl (val_pickT rfl rfl rfl) ?_
          refine Gx.val rfl rfl rfl (val_assign rfl rfl) ?_
          refine Gx.done ?_
          refine Gx.thenN ?_
          refine Gx.ret ?_
          refine Gx.ret1B hW59 Try.results6 rfl ?_
          rfl
        · refine Gx.valg rfl rfl rfl rfl rfl (val_move rfl rfl) ?_
          refine Gx.valg rfl rfl rfl rfl rfl (val_move rfl rfl) ?_
          refine Gx.valg rfl rfl rfl rfl rfl (val_call (vs := [.slice a56 n56 c56, lv]) rfl Try.fn13 rfl (fun w H => ints_any (hC56.below H.below) (hs62.below H.below))) ?_
          refine Gx.val rfl rfl rfl (val_pickF rfl rfl rfl) ?_
          refine Gx.val rfl rfl rfl (val_assign rfl rfl) ?_
          refine Gx.done ?_
          refine Gx.thenN ?_
          refine Gx.ret ?_
          refine Gx.ret1B hW59 Try.results6 rfl ?_
          exact congrArg Value.bool (decide_eq_true (by
              by_cases q : okS h k
              · rw [if_pos q] at i1; exact i1.2
              · rw [if_neg q] at i1; have := i1.1; simp_all))
  · refine Gx.skipg rfl rfl rfl rfl rfl rfl ?_
    refine Gx.skipg rfl rfl rfl rfl rfl rfl ?_
    refine Gx.val rfl rfl rfl (val_pickF rfl rfl rfl) ?_
    refine Gx.done ?_
    refine Gx.thenN ?_
    refine Gx.f rfl ?_
    refine Gx.exit ?_
    refine Gx.thenE ?_
    refine Gx.thenE ?_
    refine Gx.blkE ?_
    refine Gx.thenN ?_
    refine Gx.seq ?_
    have hke : (soloH h).length = k := by omega
    have h4l := four_len (regsL (soloH h) (List.range k))
    have hrl2 := List.length_range (n := k)
    refine Gx.norm (l' := [Hp.own FO 6 ov (soloH h), Hp.own FN 1 lv (List.range k), Hp.own FZ 1 v1 (four (regsL (soloH h) (List.range k)))]) (by rw [List.take_of_length_le (by omega)] <;> rfl) ?_
    refine Gx.region ?_
    refine Gx.val rfl rfl rfl (val_move rfl rfl) ?_
    refine Gx.callB rfl rfl rfl (vs := [ov]) rfl Try.fn9 rfl (R := LinN (soloH h)) (fun w H => linear_new ((H.at_ (k := 0) rfl).sls (by omega))) ?_
    rintro _ W67 ⟨a66, n66, c66, b66, e66, ms66, rfl, hA66, hB66, hC66⟩ H68
    have hW69 := H68.below
    have hs70 := hs.below H68.below
    have hs71 := (H68.at_ (k := 0) rfl).sls (by first | omega | (simp; omega))
    have hs72 := (H68.at_ (k := 1) rfl).sls (by first | omega | (simp; omega))
    have hs73 := (H68.at_ (k := 2) rfl).sls (by first | omega | (simp; omega))
    have e1 := hA66.2 solo_ok
    have i1 := hB66 solo_ok
    rw [solo_find, hke] at i1
    refine Gx.val rfl rfl rfl (val_move rfl rfl) ?_
    refine Gx.val rfl rfl rfl (val_extract rfl rfl rfl) ?_
    refine Gx.val rfl rfl rfl (val_extract rfl rfl rfl) ?_
    refine Gx.val rfl rfl rfl (val_extract rfl rfl rfl) ?_
    refine Gx.val rfl rfl rfl (val_assign rfl rfl) ?_
    refine Gx.val rfl rfl rfl (val_assign rfl rfl) ?_
    refine Gx.val rfl rfl rfl (val_assign rfl rfl) ?_
    refine Gx.done ?_
    refine Gx.thenN ?_
    refine Gx.seq ?_
    refine Gx.seq ?_
    refine Gx.region ?_
    refine Gx.val rfl rfl rfl (val_move rfl rfl) ?_
    refine Gx.val rfl rfl rfl (val_neq rfl rfl rfl) ?_
    refine Gx.val rfl rfl rfl (val_move rfl rfl) ?_
    refine Gx.slot (t := 75) (v := .bool false) (look_decF rfl (by omega)) ?_
    refine Gx.valg rfl rfl rfl rfl rfl (val_move rfl rfl) ?_
    refine Gx.valg rfl rfl rfl rfl rfl (val_move rfl rfl) ?_
    refine Gx.valg rfl rfl rfl rfl rfl (val_neqB Try.underlying4 rfl rfl rfl) ?_
    refine Gx.val rfl rfl rfl (val_pickF rfl rfl rfl) ?_
    refine Gx.done ?_
    refine Gx.thenN ?_
    refine Gx.bool rfl (fun h74 => ?_) (fun h74 => ?_)
    · refine Gx.seq ?_
      refine Gx.region ?_
      refine Gx.val rfl rfl rfl (val_assign rfl rfl) ?_
      refine Gx.done ?_
      refine Gx.thenN ?_
      refine Gx.ret ?_
      refine Gx.thenR ?_
      refine Gx.ret1B hW69 Try.results6 rfl ?_
      exfalso; by_cases q : okS h k
      · rw [if_pos q] at i1; have := hb.2 q; simp_all
      · rw [if_neg q] at i1; have : ¬ b = true := fun e => q (hb.1 e); simp_all
    · refine Gx.skip ?_
      refine Gx.thenN ?_
      refine Gx.seq ?_
      refine Gx.region ?_
      refine Gx.val rfl rfl rfl (val_move rfl rfl) ?_
      refine Gx.val rfl rfl rfl (val_not rfl rfl) ?_
      refine Gx.val rfl rfl rfl (val_move rfl rfl) ?_
      refine Gx.casesB (t := 82) rfl (fun h75 => ?_) (fun h75 => ?_)
      · refine Gx.skipg rfl rfl rfl rfl rfl rfl ?_
        refine Gx.skipg rfl rfl rfl rfl rfl rfl ?_
        refine Gx.skipg rfl rfl rfl rfl rfl rfl ?_
        refine Gx.val rfl rfl rfl (val_pickT rfl rfl rfl) ?_
        refine Gx.val rfl rfl rfl (val_assign rfl rfl) ?_
        refine Gx.done ?_
        refine Gx.thenN ?_
        refine Gx.ret ?_
        refine Gx.ret1B hW69 Try.results6 rfl ?_
        rfl
      · refine Gx.valg rfl rfl rfl rfl rfl (val_move rfl rfl) ?_
        refine Gx.valg rfl rfl rfl rfl rfl (val_move rfl rfl) ?_
        refine Gx.valg rfl rfl rfl rfl rfl (val_call (vs := [.slice a66 n66 c66, lv]) rfl Try.fn13 rfl (fun w H => ints_any (hC66.below H.below) (hs72.below H.below))) ?_
        refine Gx.val rfl rfl rfl (val_pickF rfl rfl rfl) ?_
        refine Gx.val rfl rfl rfl (val_assign rfl rfl) ?_
        refine Gx.done ?_
        refine Gx.thenN ?_
        refine Gx.ret ?_
        refine Gx.ret1B hW69 Try.results6 rfl ?_
        exact congrArg Value.bool (decide_eq_true (by
            by_cases q : okS h k
            · rw [if_pos q] at i1; exact i1.2
            · rw [if_neg q] at i1; have := i1.1; simp_all))

end Go.Proofs.Ytocgifddjpbmlaa
