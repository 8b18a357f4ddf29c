/- A dot sought among dots that rise; what is in. The walks. No condition. -/
import Derived.Test.YtfpkfbffpkjgbaaA17
namespace Go.Proofs.Ytfpkfbffpkjgbaa
open Go.RowKit
set_option linter.unusedVariables false
set_option linter.unusedSimpArgs false
set_option maxRecDepth 100000

theorem dot_zero {a b : Dt} : dotC a b = 0 ↔ a = b := by
  rw [← Dt.same]
  unfold dotC orL orL orL orL cmpI
  (repeat' split) <;> omega
theorem up_at {xs : List Dt} (h : Up xs) {i j : Nat} {x y : Dt} (hij : i < j) (hx : xs[i]? = some x) (hy : xs[j]? = some y) : dotC x y < 0 := by
  obtain ⟨l1, rfl⟩ := List.getElem?_eq_some_iff.1 hx
  obtain ⟨l2, rfl⟩ := List.getElem?_eq_some_iff.1 hy
  exact List.pairwise_iff_getElem.1 h i j l1 l2 hij
theorem up_rises {xs : List Dt} (h : Up xs) : Rises xs := fun i x y hx hy => up_at h (Nat.lt_succ_self i) hx hy
theorem rises_up : ∀ {xs : List Dt}, Rises xs → Up xs
  | [], _ => .nil
  | [x], _ => by simp
  | x :: y :: l, h => by
    have h1 : Rises (y :: l) := fun i a b ha hb => h (i + 1) a b (by simpa using ha) (by simpa using hb)
    have h2 := rises_up h1
    have h3 := h 0 x y rfl rfl
    refine List.pairwise_cons.2 ⟨fun z hz => ?_, h2⟩
    rcases List.mem_cons.1 hz with rfl | hz
    · exact h3
    · exact dlt_trans h3 ((List.pairwise_cons.1 h2).1 z hz)
theorem shr1 (x : Nat) : ((x : Nat) : Int).fdiv (2 ^ 1) = ((x / 2 : Nat) : Int) := by rw [shr32, Nat.shiftRight_eq_div_pow]
theorem u64in2 {i : Int} {r : Nat} (e : i = (r : Int)) (h : r < 18446744073709551616) : IntKind.u64.wrap i = (r : Int) := u64in e h
theorem up_lo {xs : List Dt} {d x y : Dt} {k h : Nat} (hu : Up xs) (hx : xs[h]? = some x) (hy : xs[k]? = some y) (hk : k < h) (hd : dotC x d < 0) : dotC y d < 0 := dlt_trans (up_at hu hk hy hx) hd
theorem up_hi {xs : List Dt} {d x y : Dt} {k h : Nat} (hu : Up xs) (hx : xs[h]? = some x) (hy : xs[k]? = some y) (hk : h < k) (hd : ¬ dotC x d < 0) : ¬ dotC y d < 0 := fun q => hd (dlt_trans (up_at hu hk hx hy) q)
theorem bs_any {W : World} {sv : Value} {xs : List Dt} (hs : SlS FD 3 W sv xs) (hu : Up xs) (d : Dt) (hl : xs.length ≤ 65000) :
    Calls Try.prog 25 #[sv, .agg #[.int .i64 d.item, .int .i64 d.who, .int .i64 d.n], .func (.func 26) #[] #[]] W fun e w' => ∃ u, e = .returned u ∧ (∃ (i : Int) (b : Bool), u = .tuple #[.int .i64 i, .bool b] ∧ (b = true ↔ d ∈ xs)) ∧ Below W.heap.size W w' := by
  refine calls_rel (R := fun v => ∃ (i : Int) (b : Bool), v = .tuple #[.int .i64 i, .bool b] ∧ (b = true ↔ d ∈ xs)) (Gx.enter (l := []) Try.func25 rfl Try.ntmps25 rfl (Sat.start W) ?_)
  refine Gx.know (m' := [(0, sv), (1, .agg #[.int .i64 d.item, .int .i64 d.who, .int .i64 d.n]), (2, .func (.func 26) #[] #[])]) (.cons rfl (.cons rfl (.cons rfl .nil))) ?_
  refine Gx.seq ?_
  refine Gx.region ?_
  refine Gx.eff rfl rfl rfl (eff_box rfl rfl (vs := [.int .i64 d.item, .int .i64 d.who, .int .i64 d.n]) rfl) ?_
  rintro _ _ ⟨b1, rfl, rfl⟩
  refine Gx.val rfl rfl rfl (val_assign rfl rfl) ?_
  refine Gx.val rfl rfl rfl (val_assign rfl rfl) ?_
  refine Gx.done ?_
  refine Gx.thenN ?_
  refine Gx.seq ?_
  refine Gx.region ?_
  refine Gx.val rfl rfl rfl (val_move rfl rfl) ?_
  refine Gx.val rfl rfl rfl (val_len rfl Try.underlying25 rfl (len_base hs)) ?_
  refine Gx.val rfl rfl rfl (val_assign rfl rfl) ?_
  refine Gx.done ?_
  refine Gx.thenN ?_
  refine Gx.seq ?_
  refine Gx.region ?_
  refine Gx.val rfl rfl rfl (val_move rfl rfl) ?_
  refine Gx.val rfl rfl rfl (val_assign rfl rfl) ?_
  refine Gx.val rfl rfl rfl (val_assign rfl rfl) ?_
  refine Gx.done ?_
  refine Gx.thenN ?_
  refine Gx.seq ?_
  refine Gx.block ?_
  refine Gx.loop (ι := Nat × Nat) (fun ξ => (ξ.1 ≤ ξ.2) ∧ (ξ.2 ≤ xs.length) ∧ (∀ (k : Nat) (x : Dt), k < ξ.1 → xs[k]? = some x → dotC x d < 0) ∧ (∀ (k : Nat) (x : Dt), ξ.2 ≤ k → xs[k]? = some x → ¬ dotC x d < 0)) (fun ξ => [(0, sv), (2, .func (.func 26) #[] #[]), (4, ptr b1 0), (8, .int .i64 ((xs.length : Nat) : Int)), (9, .int .i64 ((ξ.1 : Nat) : Int)), (10, .int .i64 ((ξ.2 : Nat) : Int))]) (fun ξ => [Hp.rec_ b1 [.int .i64 d.item, .int .i64 d.who, .int .i64 d.n]]) (fun ξ => ξ.2 - ξ.1) (0, xs.length) ⟨by first | omega | (dsimp only; omega), by first | omega | (dsimp only; omega), fun k x h => absurd h (Nat.not_lt_zero _), fun k x h hx => by have := (List.getElem?_eq_some_iff.1 hx).1; omega⟩ ((.cons rfl (.cons rfl (.cons rfl (.cons rfl (.cons rfl (.cons rfl .nil))))))) rfl ?_
  rintro ⟨i, j⟩ ⟨hij, hj, hlo, hhi⟩
  dsimp only at hij hj hlo hhi
  refine Gx.know (m' := [(0, sv), (2, .func (.func 26) #[] #[]), (4, ptr b1 0), (8, .int .i64 ((xs.length : Nat) : Int)), (9, .int .i64 ((i : Nat) : Int)), (10, .int .i64 ((j : Nat) : Int))]) (.cons rfl (.cons rfl (.cons rfl (.cons rfl (.cons rfl (.cons rfl .nil)))))) (Gx.norm (l' := [Hp.rec_ b1 [.int .i64 d.item, .int .i64 d.who, .int .i64 d.n]]) rfl ?_)
  refine Gx.seq ?_
  refine Gx.seq ?_
  refine Gx.region ?_
  refine Gx.val rfl rfl rfl (val_move rfl rfl) ?_
  refine Gx.val rfl rfl rfl (val_move rfl rfl) ?_
  refine Gx.val rfl rfl rfl (val_lss rfl rfl rfl) ?_
  refine Gx.done ?_
  refine Gx.thenN ?_
  refine Gx.dec rfl (fun h2 => ?_) (fun h2 => ?_)
  · refine Gx.skip ?_
    refine Gx.thenN ?_
    refine Gx.block ?_
    refine Gx.seq ?_
    refine Gx.region ?_
    refine Gx.val rfl rfl rfl (val_move rfl rfl) ?_
    refine Gx.val rfl rfl rfl (val_move rfl rfl) ?_
    refine Gx.val rfl rfl rfl (val_add rfl rfl rfl (r := ((i + j : Nat) : Int)) (w64 (by omega) (by omega))) ?_
    refine Gx.val rfl rfl rfl (val_conv rfl Try.underlying3 Try.underlying76 rfl (r := ((i + j : Nat) : Int)) (u64in2 rfl (by omega))) ?_
    refine Gx.val rfl rfl rfl (val_shr (b := 1) rfl rfl rfl rfl (by decide) (shr1 (i + j))) ?_
    refine Gx.val rfl rfl rfl (val_conv rfl Try.underlying76 Try.underlying3 rfl (r := (((i + j) / 2 : Nat) : Int)) (w64 (by omega) (by omega))) ?_
    refine Gx.val rfl rfl rfl (val_assign rfl rfl) ?_
    refine Gx.done ?_
    refine Gx.thenN ?_
    refine Gx.seq ?_
    obtain ⟨x, hx⟩ := get_of_lt (xs := xs) (k := (i + j) / 2) (by omega)
    refine Gx.regionQ Try.mixed (by kernel_rfl) ?_
    refine Gq.val rfl rfl rfl (val_move rfl rfl) ?_
    refine Gq.val rfl rfl rfl (val_move rfl rfl) ?_
    refine Gq.val rfl rfl rfl (val_move rfl rfl) ?_
    refine Gq.val rfl rfl rfl (val_ixa rfl Try.underlying25 Try.ty59 rfl rfl (j := (i + j) / 2) (rfl) (reach_base hs hx)) ?_
    refine Gq.val rfl rfl rfl (Val.cast (val_loadA rfl Try.ty59 rfl rfl rfl (cells_base (sz := 3) (j := (i + j) / 2) hs hx)) (v' := .agg #[.int .i64 x.item, .int .i64 x.who, .int .i64 x.n]) rfl) ?_
    refine Gq.val rfl rfl rfl (Val.cast (val_loadA rfl Try.ty59 rfl rfl rfl (cells_rec (k := 0) rfl)) (v' := .agg #[.int .i64 d.item, .int .i64 d.who, .int .i64 d.n]) rfl) ?_
    refine Gq.val rfl rfl rfl (val_callV (vs := [.agg #[.int .i64 x.item, .int .i64 x.who, .int .i64 x.n], .agg #[.int .i64 d.item, .int .i64 d.who, .int .i64 d.n]]) (fs := []) (cs := []) rfl Try.fn26 rfl rfl (fun w H => dots_any x d)) ?_
    refine Gq.val rfl rfl rfl (val_lss rfl rfl rfl) ?_
    refine Gq.done ?_
    refine Gx.thenN ?_
    refine Gx.dec rfl (fun h3 => ?_) (fun h3 => ?_)
    · refine Gx.region ?_
      refine Gx.val rfl rfl rfl (val_move rfl rfl) ?_
      refine Gx.val rfl rfl rfl (val_add rfl rfl rfl (r := (((i + j) / 2 + 1 : Nat) : Int)) (w64 (by omega) (by omega))) ?_
      refine Gx.val rfl rfl rfl (val_assign rfl rfl) ?_
      refine Gx.done ?_
      refine Gx.blkN ?_
      refine Gx.thenN ?_
      exact Gx.round ((i + j) / 2 + 1, j) ⟨by first | omega | (dsimp only; omega), by first | omega | (dsimp only; omega), fun k y h1 h2 => by
        by_cases e : k = (i + j) / 2
        · subst e; rw [hx] at h2; cases h2; assumption
        · rcases Nat.lt_or_ge k ((i + j) / 2) with q | q
          · exact up_lo hu hx h2 q (by assumption)
          · (try dsimp only at h1); omega, hhi⟩ (by first | omega | (dsimp only; omega)) ((.cons rfl (.cons rfl (.cons rfl (.cons rfl (.cons rfl (.cons rfl .nil))))))) rfl
    refine Gx.region ?_
    refine Gx.val rfl rfl rfl (val_move rfl rfl) ?_
    refine Gx.val rfl rfl rfl (val_assign rfl rfl) ?_
    refine Gx.done ?_
    refine Gx.blkN ?_
    refine Gx.thenN ?_
    exact Gx.round (i, (i + j) / 2) ⟨by first | omega | (dsimp only; omega), by first | omega | (dsimp only; omega), hlo, fun k y h1 h2 => by
      by_cases e : k = (i + j) / 2
      · subst e; rw [hx] at h2; cases h2; assumption
      · exact up_hi hu hx h2 (by (try dsimp only at h1); omega) (by assumption)⟩ (by first | omega | (dsimp only; omega)) ((.cons rfl (.cons rfl (.cons rfl (.cons rfl (.cons rfl (.cons rfl .nil))))))) rfl
  refine Gx.exit ?_
  refine Gx.thenE ?_
  refine Gx.thenE ?_
  refine Gx.blkE ?_
  refine Gx.thenN ?_
  refine Gx.seq ?_
  refine Gx.regionQ Try.mixed (by kernel_rfl) ?_
  refine Gq.val rfl rfl rfl (val_move rfl rfl) ?_
  refine Gq.val rfl rfl rfl (val_move rfl rfl) ?_
  refine Gq.val rfl rfl rfl (val_move rfl rfl) ?_
  refine Gq.val rfl rfl rfl (val_lss rfl rfl rfl) ?_
  refine Gq.val rfl rfl rfl (val_move rfl rfl) ?_
  refine Gq.cases (t := 39) rfl (fun h4 => ?_) (fun h4 => ?_)
  · obtain ⟨x, hx⟩ := get_of_lt (xs := xs) (k := i) (by omega)
    refine Gq.valg rfl rfl rfl rfl rfl (val_move rfl rfl) ?_
    refine Gq.valg rfl rfl rfl rfl rfl (val_move rfl rfl) ?_
    refine Gq.valg rfl rfl rfl rfl rfl (val_move rfl rfl) ?_
    refine Gq.valg rfl rfl rfl rfl rfl (val_ixa rfl Try.underlying25 Try.ty59 rfl rfl (j := i) (rfl) (reach_base hs hx)) ?_
    refine Gq.valg rfl rfl rfl rfl rfl (Val.cast (val_loadA rfl Try.ty59 rfl rfl rfl (cells_base hs hx)) (v' := .agg #[.int .i64 x.item, .int .i64 x.who, .int .i64 x.n]) rfl) ?_
    refine Gq.valg rfl rfl rfl rfl rfl (Val.cast (val_loadA rfl Try.ty59 rfl rfl rfl (cells_rec (k := 0) rfl)) (v' := .agg #[.int .i64 d.item, .int .i64 d.who, .int .i64 d.n]) rfl) ?_
    refine Gq.valg rfl rfl rfl rfl rfl (val_callV (vs := [.agg #[.int .i64 x.item, .int .i64 x.who, .int .i64 x.n], .agg #[.int .i64 d.item, .int .i64 d.who, .int .i64 d.n]]) (fs := []) (cs := []) rfl Try.fn26 rfl rfl (fun w H => dots_any x d)) ?_
    refine Gq.valg rfl rfl rfl rfl rfl (val_eql rfl rfl rfl) ?_
    refine Gq.val rfl rfl rfl (val_pickT rfl rfl rfl) ?_
    refine Gq.val rfl rfl rfl (val_assign rfl rfl) ?_
    refine Gq.val rfl rfl rfl (val_assign rfl rfl) ?_
    refine Gq.done ?_
    refine Gx.thenN ?_
    refine Gx.ret ?_
    refine Gx.ret2 Try.results25 rfl rfl ?_
    exact ⟨_, _, rfl, by
      obtain rfl : i = j := by omega
      rw [decide_eq_true_eq, dot_zero]
      constructor
      · intro e; subst e; exact List.mem_of_getElem? hx
      · intro hm
        obtain ⟨k, hk⟩ := List.getElem?_of_mem hm
        rcases Nat.lt_trichotomy k i with q | q | q
        · exact absurd (hlo k d q hk) (dlt_irr d)
        · subst q; rw [hx] at hk; cases hk; rfl
        · exact absurd (up_at hu q hx hk) (hhi i x (Nat.le_refl _) hx)⟩
  refine Gq.skipg rfl rfl rfl rfl rfl rfl ?_
  refine Gq.skipg rfl rfl rfl rfl rfl rfl ?_
  refine Gq.skipg rfl rfl rfl rfl rfl rfl ?_
  refine Gq.skipg rfl rfl rfl rfl rfl rfl ?_
  refine Gq.skipg rfl rfl rfl rfl rfl rfl ?_
  refine Gq.skipg rfl rfl rfl rfl rfl rfl ?_
  refine Gq.skipg rfl rfl rfl rfl rfl rfl ?_
  refine Gq.skipg rfl rfl rfl rfl rfl rfl ?_
  refine Gq.val rfl rfl rfl (val_pickF rfl rfl rfl) ?_
  refine Gq.val rfl rfl rfl (val_assign rfl rfl) ?_
  refine Gq.val rfl rfl rfl (val_assign rfl rfl) ?_
  refine Gq.done ?_
  refine Gx.thenN ?_
  refine Gx.ret ?_
  refine Gx.ret2 Try.results25 rfl rfl ?_
  exact ⟨_, _, rfl, ⟨fun h => (by cases h), fun hm => by
    obtain ⟨k, hk⟩ := List.getElem?_of_mem hm
    have := (List.getElem?_eq_some_iff.1 hk).1
    exact absurd (hlo k d (by omega) hk) (dlt_irr d)⟩⟩

/-- the items of those that are not gone -/
def itf (xg l : List Dt) : List Int := (l.filter fun d => !decide (d ∈ xg)).map Dt.item
theorem itf_len (xg l : List Dt) : (itf xg l).length ≤ l.length := by unfold itf; rw [List.length_map]; exact List.length_filter_le ..
theorem itf_snocN {xg l : List Dt} {k : Nat} {d : Dt} (h : l[k]? = some d) (hd : d ∈ xg) : itf xg (l.take (k + 1)) = itf xg (l.take k) := by
  unfold itf; rw [take_snoc9 h, List.filter_append, List.filter_cons_of_neg (by simp [hd])]; simp
theorem itf_snocY {xg l : List Dt} {k : Nat} {d : Dt} (h : l[k]? = some d) (hd : ¬ d ∈ xg) : itf xg (l.take (k + 1)) = itf xg (l.take k) ++ [d.item] := by
  unfold itf; rw [take_snoc9 h, List.filter_append, List.filter_cons_of_pos (by simp [hd])]; simp
theorem itf_mem {xg l : List Dt} {x : Int} : x ∈ itf xg l ↔ ∃ d ∈ l, d ∉ xg ∧ d.item = x := by
  unfold itf
  rw [List.mem_map]
  constructor
  · rintro ⟨d, hd, e⟩
    obtain ⟨h1, h2⟩ := List.mem_filter.1 hd
    exact ⟨d, h1, by simpa using h2, e⟩
  · rintro ⟨d, h1, h2, e⟩
    exact ⟨d, List.mem_filter.2 ⟨h1, by simpa using h2⟩, e⟩
theorem cm_mem {l : List Int} {x : Int} : x ∈ cmL l l.length ↔ x ∈ l := by
  rw [cmL_mem (Nat.le_refl _), List.mem_iff_getElem?]
  exact ⟨fun ⟨i, _, h⟩ => ⟨i, h⟩, fun ⟨i, h⟩ => ⟨i, (List.getElem?_eq_some_iff.1 h).1, h⟩⟩
theorem items_any {W : World} {n : Int} {cv av gv : Value} {s : Sp} {xc : List Int} {xa xg : List Dt} (hxc : SlS FI 1 W cv xc) (hxa : SlS FD 3 W av xa) (hxg : SlS FD 3 W gv xg) (hgood : GoodC n ⟨xc, s, xa, xg⟩) (hug : Up xg) (l2 : xa.length ≤ 1000) (l3 : xg.length ≤ 1000) :
    Calls Try.prog 15 #[.int .i64 n, .agg #[cv, .int .i64 s.n, .int .i64 s.who, .int .i64 s.val, av, gv]] W (Ret W fun u l9 => ∃ v, IsS v ∧ u = .tuple #[v, .int .i64 0] ∧ l9 = [Hp.own FI 1 v (cmL (itf xg xa) (itf xg xa).length)]) := by
  refine Gx.enter (l := []) Try.func15 rfl Try.ntmps15 rfl (Sat.start W) ?_
  refine Gx.know (m' := [(0, .int .i64 n), (1, .agg #[cv, .int .i64 s.n, .int .i64 s.who, .int .i64 s.val, av, gv])]) (.cons rfl (.cons rfl .nil)) ?_
  refine Gx.seq ?_
  refine Gx.region ?_
  refine Gx.eff rfl rfl rfl (eff_box rfl rfl (vs := [cv, .int .i64 s.n, .int .i64 s.who, .int .i64 s.val, av, gv]) rfl) ?_
  rintro _ _ ⟨b1, rfl, rfl⟩
  refine Gx.val rfl rfl rfl (val_assign rfl rfl) ?_
  refine Gx.val rfl rfl rfl (val_assign rfl rfl) ?_
  refine Gx.done ?_
  refine Gx.thenN ?_
  refine Gx.seq ?_
  refine Gx.seq ?_
  refine Gx.region ?_
  refine Gx.val rfl rfl rfl (val_move rfl rfl) ?_
  refine Gx.val rfl rfl rfl (Val.cast (val_loadA rfl Try.ty27 rfl rfl rfl (cells_rec (k := 0) rfl)) (v' := .agg #[cv, .int .i64 s.n, .int .i64 s.who, .int .i64 s.val, av, gv]) rfl) ?_
  refine Gx.eff rfl rfl rfl (eff_callE (vs := [.int .i64 n, .agg #[cv, .int .i64 s.n, .int .i64 s.who, .int .i64 s.val, av, gv]]) rfl Try.fn18 rfl (R := (fun v => ∃ code : Int, v = .int .i64 code ∧ (code = 0 ↔ GoodC n ⟨xc, s, xa, xg⟩))) (fun w H => check_any (s := s) (hxc.below H.below) (hxa.below H.below) (hxg.below H.below))) ?_
  rintro _ _ ⟨⟨code, rfl, hcode⟩, rfl⟩
  refine Gx.val rfl rfl rfl (val_assign rfl rfl) ?_
  refine Gx.done ?_
  refine Gx.thenN ?_
  refine Gx.seq ?_
  refine Gx.region ?_
  refine Gx.val rfl rfl rfl (val_move rfl rfl) ?_
  refine Gx.val rfl rfl rfl (val_neq rfl rfl rfl) ?_
  refine Gx.done ?_
  refine Gx.thenN ?_
  refine Gx.decF rfl (fun q => q (hcode.2 hgood)) ?_
  refine Gx.skip ?_
  refine Gx.thenN ?_
  refine Gx.seq ?_
  refine Gx.region ?_
  refine Gx.val rfl rfl rfl (val_assign rfl rfl) ?_
  refine Gx.done ?_
  refine Gx.thenN ?_
  refine Gx.seq ?_
  refine Gx.seq ?_
  refine Gx.ownNil FI 1 ?_
  refine Gx.region ?_
  refine Gx.val rfl rfl rfl (Val.cast (val_fieldAddr rfl Try.underlying27 rfl Try.ty25 rfl rfl) (v' := ptr b1 4) rfl) ?_
  refine Gx.val rfl rfl rfl (val_load rfl Try.ty25 rfl rfl (cell_rec (k := 1) rfl rfl)) ?_
  refine Gx.val rfl rfl rfl (val_len rfl Try.underlying25 rfl (len_base hxa)) ?_
  refine Gx.val rfl rfl rfl (val_move rfl rfl) ?_
  refine Gx.done ?_
  refine Gx.thenN ?_
  refine Gx.block ?_
  refine Gx.loop (ι := Nat × Value) (fun ξ => (ξ.1 ≤ xa.length) ∧ (IsS ξ.2)) (fun ξ => [(3, ptr b1 0), (19, av), (20, .int .i64 ((xa.length : Nat) : Int)), (21, .int .i64 ((ξ.1 : Nat) : Int)), (7, ξ.2)]) (fun ξ => [Hp.own FI 1 ξ.2 (itf xg (xa.take ξ.1)), Hp.rec_ b1 [cv, .int .i64 s.n, .int .i64 s.who, .int .i64 s.val, av, gv]]) (fun ξ => xa.length - ξ.1) (0, (.slice none 0 0)) ⟨Nat.zero_le _, ⟨none, 0, 0, rfl⟩⟩ ((.cons rfl (.cons rfl (.cons rfl (.cons rfl (.cons rfl .nil)))))) rfl ?_
  rintro ⟨k, v⟩ ⟨hk, hiv⟩
  dsimp only at hk hiv
  refine Gx.know (m' := [(3, ptr b1 0), (19, av), (20, .int .i64 ((xa.length : Nat) : Int)), (21, .int .i64 ((k : Nat) : Int)), (7, v)]) (.cons rfl (.cons rfl (.cons rfl (.cons rfl (.cons rfl .nil))))) (Gx.norm (l' := [Hp.own FI 1 v (itf xg (xa.take k)), Hp.rec_ b1 [cv, .int .i64 s.n, .int .i64 s.who, .int .i64 s.val, av, gv]]) rfl ?_)
  have hil := itf_len xg (xa.take k)
  rw [List.length_take] at hil
  refine Gx.seq ?_
  refine Gx.region ?_
  refine Gx.val rfl rfl rfl (val_lss rfl rfl rfl) ?_
  refine Gx.done ?_
  refine Gx.thenN ?_
  refine Gx.seq ?_
  refine Gx.dec rfl (fun h2 => ?_) (fun h2 => ?_)
  · refine Gx.skip ?_
    refine Gx.thenN ?_
    refine Gx.seq ?_
    refine Gx.block ?_
    refine Gx.seq ?_
    obtain ⟨d0, hd0⟩ := get_of_lt (xs := xa) (k := k) (by omega)
    refine Gx.region ?_
    refine Gx.val rfl rfl rfl (val_ixa rfl Try.underlying25 Try.ty59 rfl rfl (j := k) (rfl) (reach_base hxa hd0)) ?_
    refine Gx.val rfl rfl rfl (Val.cast (val_loadA rfl Try.ty59 rfl rfl rfl (cells_base hxa hd0)) (v' := .agg #[.int .i64 d0.item, .int .i64 d0.who, .int .i64 d0.n]) rfl) ?_
    refine Gx.eff rfl rfl rfl (eff_alloc rfl Try.ty59 (vs := [.int .i64 0, .int .i64 0, .int .i64 0]) rfl) ?_
    rintro _ _ ⟨b3, rfl, rfl⟩
    refine Gx.eff0 rfl rfl (eff_store rfl Try.ty59 rfl rfl (us := [.int .i64 d0.item, .int .i64 d0.who, .int .i64 d0.n]) rfl rfl rfl (k := 0) rfl (rfl) (vs' := [.int .i64 d0.item, .int .i64 d0.who, .int .i64 d0.n]) (rfl) (l' := [Hp.rec_ b3 [.int .i64 d0.item, .int .i64 d0.who, .int .i64 d0.n], Hp.own FI 1 v (itf xg (xa.take k)), Hp.rec_ b1 [cv, .int .i64 s.n, .int .i64 s.who, .int .i64 s.val, av, gv]]) rfl) ?_
    rintro _ _ rfl
    refine Gx.done ?_
    refine Gx.thenN ?_
    refine Gx.seq ?_
    refine Gx.region ?_
    refine Gx.val rfl rfl rfl (Val.cast (val_fieldAddr rfl Try.underlying27 rfl Try.ty25 rfl rfl) (v' := ptr b1 5) rfl) ?_
    refine Gx.val rfl rfl rfl (val_load rfl Try.ty25 rfl rfl (cell_rec (k := 2) rfl rfl)) ?_
    refine Gx.val rfl rfl rfl (Val.cast (val_loadA rfl Try.ty59 rfl rfl rfl (cells_rec (k := 0) rfl)) (v' := .agg #[.int .i64 d0.item, .int .i64 d0.who, .int .i64 d0.n]) rfl) ?_
    refine Gx.eff rfl rfl rfl (eff_callE (vs := [gv, .agg #[.int .i64 d0.item, .int .i64 d0.who, .int .i64 d0.n], .func (.func 26) #[] #[]]) rfl Try.fn25 rfl (R := (fun v => ∃ (i : Int) (b : Bool), v = .tuple #[.int .i64 i, .bool b] ∧ (b = true ↔ d0 ∈ xg))) (fun w H => bs_any (hxg.below H.below) hug d0 (by omega))) ?_
    rintro _ _ ⟨⟨ii, bb, rfl, hbb⟩, rfl⟩
    refine Gx.val rfl rfl rfl (val_move rfl rfl) ?_
    refine Gx.val rfl rfl rfl (val_extract rfl rfl rfl) ?_
    refine Gx.val rfl rfl rfl (val_extract rfl rfl rfl) ?_
    refine Gx.val rfl rfl rfl (val_assign rfl rfl) ?_
    refine Gx.val rfl rfl rfl (val_assign rfl rfl) ?_
    refine Gx.done ?_
    refine Gx.thenN ?_
    refine Gx.seq ?_
    refine Gx.region ?_
    refine Gx.val rfl rfl rfl (val_move rfl rfl) ?_
    refine Gx.val rfl rfl rfl (val_not rfl rfl) ?_
    refine Gx.done ?_
    refine Gx.thenN ?_
    refine Gx.bool rfl (fun h4 => ?_) (fun h4 => ?_)
    · refine Gx.region ?_
      refine Gx.val rfl rfl rfl (val_move rfl rfl) ?_
      refine Gx.val rfl rfl rfl (Val.cast (val_fieldAddr rfl Try.underlying59 rfl Try.ty3 rfl rfl) (v' := ptr b3 0) rfl) ?_
      refine Gx.val rfl rfl rfl (val_load rfl Try.ty3 rfl rfl (cell_rec (k := 0) rfl rfl)) ?_
      refine Gx.eff rfl rfl rfl (eff_buildSlice rfl (qs := [(0, .int .i64 d0.item)]) rfl rfl (cs := #[.int .i64 d0.item]) (vs := [.int .i64 d0.item]) (E := 3) rfl (fun w => by first | (go_simp; done) | (go_simp; rfl))) ?_
      rintro _ _ ⟨b5, rfl, rfl⟩
      refine Gx.eff rfl rfl rfl (eff_push (r := d0.item) rfl Try.eI FI_len FI_one rfl rfl (k := 0) rfl rfl (k' := 1) rfl (by omega) (by omega)) ?_
      rintro v6 _ ⟨hiv6, rfl⟩
      refine Gx.norm (l' := [Hp.rec_ b3 [.int .i64 d0.item, .int .i64 d0.who, .int .i64 d0.n], Hp.own FI 1 v6 ((itf xg (xa.take k)) ++ [d0.item]), Hp.rec_ b1 [cv, .int .i64 s.n, .int .i64 s.who, .int .i64 s.val, av, gv]]) rfl ?_
      refine Gx.val rfl rfl rfl (val_assign rfl rfl) ?_
      refine Gx.done ?_
      refine Gx.blkN ?_
      refine Gx.thenN ?_
      refine Gx.region ?_
      refine Gx.val rfl rfl rfl (val_add rfl rfl rfl (r := ((k + 1 : Nat) : Int)) (w64 (by omega) (by omega))) ?_
      refine Gx.val rfl rfl rfl (val_move rfl rfl) ?_
      refine Gx.done ?_
      refine Gx.thenN ?_
      refine Gx.drop 0 rfl ?_
      refine Gx.norm (l' := [Hp.own FI 1 v6 (itf xg (xa.take (k + 1))), Hp.rec_ b1 [cv, .int .i64 s.n, .int .i64 s.who, .int .i64 s.val, av, gv]]) (by rw [itf_snocY hd0 (by exact fun q => by have := hbb.2 q; simp_all)] <;> rfl) ?_
      exact Gx.round (k + 1, v6) ⟨by first | omega | (dsimp only; omega), hiv6⟩ (by first | omega | (dsimp only; omega)) ((.cons rfl (.cons rfl (.cons rfl (.cons rfl (.cons rfl .nil)))))) rfl
    refine Gx.skip ?_
    refine Gx.blkN ?_
    refine Gx.thenN ?_
    refine Gx.region ?_
    refine Gx.val rfl rfl rfl (val_add rfl rfl rfl (r := ((k + 1 : Nat) : Int)) (w64 (by omega) (by omega))) ?_
    refine Gx.val rfl rfl rfl (val_move rfl rfl) ?_
    refine Gx.done ?_
    refine Gx.thenN ?_
    refine Gx.drop 0 rfl ?_
    refine Gx.norm (l' := [Hp.own FI 1 v (itf xg (xa.take (k + 1))), Hp.rec_ b1 [cv, .int .i64 s.n, .int .i64 s.who, .int .i64 s.val, av, gv]]) (by rw [itf_snocN hd0 (by exact hbb.1 (by simpa using h4))] <;> rfl) ?_
    exact Gx.round (k + 1, v) ⟨by first | omega | (dsimp only; omega), hiv⟩ (by first | omega | (dsimp only; omega)) ((.cons rfl (.cons rfl (.cons rfl (.cons rfl (.cons rfl .nil)))))) rfl
  refine Gx.exit ?_
  refine Gx.thenE ?_
  refine Gx.thenE ?_
  refine Gx.blkE ?_
  refine Gx.thenN ?_
  refine Gx.seq ?_
  have hkt : xa.take k = xa := List.take_of_length_le (by omega)
  rw [hkt] at hil
  refine Gx.norm (l' := [Hp.own FI 1 v (itf xg xa), Hp.rec_ b1 [cv, .int .i64 s.n, .int .i64 s.who, .int .i64 s.val, av, gv]]) (by rw [hkt] <;> rfl) ?_
  refine Gx.region ?_
  refine Gx.val rfl rfl rfl (val_move rfl rfl) ?_
  refine Gx.eff rfl rfl rfl (eff_call (vs := [v]) rfl Try.fn27 rfl (fun w H => compactI_any hiv (by omega) (H.at_ (k := 0) rfl))) ?_
  rintro uv l7 ⟨hiuv, hl7⟩
  refine Gx.sepEq (l' := [Hp.own FI 1 uv (cmL (itf xg xa) (itf xg xa).length), Hp.rec_ b1 [cv, .int .i64 s.n, .int .i64 s.who, .int .i64 s.val, av, gv]]) hl7 ?_
  refine Gx.val rfl rfl rfl (val_assign rfl rfl) ?_
  refine Gx.val rfl rfl rfl (val_assign rfl rfl) ?_
  refine Gx.done ?_
  refine Gx.thenN ?_
  refine Gx.ret ?_
  refine Gx.drop 1 rfl ?_
  refine Gx.ret2 Try.results15 rfl rfl ?_
  exact ⟨uv, hiuv, rfl, rfl⟩

end Go.Proofs.Ytfpkfbffpkjgbaa
