/- A round: the walks. -/
import Derived.Test.YtgbhbohleafibaaA1
namespace Go.Proofs.Ytgbhbohleafibaa
open Go.RowKit
set_option linter.unusedVariables false
attribute [local go_sem] EffAt EffUpon

def srtI (l : List Int) : List Int := l.mergeSort (fun a b => decide (a ≤ b))
theorem srtI_perm (l : List Int) : (srtI l).Perm l := List.mergeSort_perm _ _
theorem srtI_sorted (l : List Int) : (srtI l).Pairwise (· ≤ ·) := by
  have := List.pairwise_mergeSort (le := fun a b : Int => decide (a ≤ b)) (fun a b c h1 h2 => by simp at *; omega) (fun a b => by simp; omega) l
  exact this.imp fun h => by simpa using h
theorem srtI_of {l ys : List Int} (hp : ys.Perm l) (hs : ys.Pairwise (· ≤ ·)) : ys = srtI l := sort_uniq (hp.trans (srtI_perm l).symm) hs (srtI_sorted l)
theorem srtI_len (l : List Int) : (srtI l).length = l.length := (srtI_perm l).length_eq

/-- a new value -/
def newF (f x : Nat) (vs ls : List Int) (j : Nat) : Int := ((srtI (heardL x vs ls j vs.length)).getD f 0 + (srtI (heardL x vs ls j vs.length)).getD (vs.length - 1 - f) 0) / 2
def newL (f x : Nat) (vs ls : List Int) (k : Nat) : List Int := (List.range k).map (newF f x vs ls)
theorem newL_succ (f x : Nat) (vs ls : List Int) (k : Nat) : newL f x vs ls (k + 1) = newL f x vs ls k ++ [newF f x vs ls k] := by unfold newL; rw [List.range_succ, List.map_append]; rfl
theorem newL_len (f x : Nat) (vs ls : List Int) (k : Nat) : (newL f x vs ls k).length = k := by simp [newL]

def OkA (f : Int) (x : Nat) (vs ls : List Int) : Prop := 1 ≤ vs.length ∧ vs.length ≤ 9 ∧ 0 ≤ f ∧ 3 * f < vs.length ∧ x >>> vs.length = 0 ∧ vs.any farB = false ∧ ls.any farB = false

theorem heard_bd {x j : Nat} {vs ls : List Int} (hv : vs.any farB = false) (hl : ls.any farB = false) {y : Int} (h : y ∈ heardL x vs ls j vs.length) : -1099511627776 ≤ y ∧ y ≤ 1099511627776 := by
  have key : ∀ (l : List Int) (i : Nat), l.any farB = false → -1099511627776 ≤ l.getD i 0 ∧ l.getD i 0 ≤ 1099511627776 := fun l i h => by
    cases hi : l[i]? with
    | none => rw [List.getD, hi]; simp
    | some z =>
      rw [List.getD, hi]
      have := List.any_eq_false.1 h z (List.mem_of_getElem? hi)
      exact farB_no.1 (by simpa using this)
  obtain ⟨i, hi⟩ := List.getElem?_of_mem h
  have hlt := (List.getElem?_eq_some_iff.1 hi).1
  rw [heardL_len] at hlt
  rw [heardL_get hlt, if_pos hlt] at hi
  cases hi
  unfold heardF
  split
  · exact key ls _ hl
  · exact key vs _ hv

set_option maxHeartbeats 8000000 in
set_option maxRecDepth 100000 in
theorem round_good {W : World} {v vl : Value} {vs ls : List Int} (f : Int) (x : Nat) (h : SlS SZ 1 W v vs) (hl : SlI W vl ls) (ok : OkA f x vs ls) (hx : x < 4294967296) :
    Calls Try.prog 7 #[.int .i64 f, .int .u32 x, v, vl] W fun e w' => ∃ v', e = .returned (.tuple #[v', .int .i64 0]) ∧ SlS SZ 1 w' v' (newL f.toNat x vs ls vs.length) ∧ Below W.heap.size W w' := by
  obtain ⟨h1, h9, hf0, hf3, hxn, hvf, hlf⟩ := ok
  obtain ⟨f, rfl⟩ := Int.eq_ofNat_of_zero_le hf0
  have HV := Lib.hid (fun w1 (hb : Below W.heap.size W w1) => anyfar_any (h.below hb).one)
  have HLI := Lib.hid (fun w1 (hb : Below W.heap.size W w1) => anyfar_any (hl.below hb))
  rw [hvf] at HV
  rw [hlf] at HLI
  have h0 : vs ≠ [] := by intro e; rw [e] at h1; simp at h1
  have HE := Lib.hid (fun (w1 : World) (j : Nat) (R : Hp) (H : Sat W w1 R) (hj : j < 9) => heard_any x j H h hl h0 h9 hj hx)
  have HBD := Lib.hid (fun (j : Nat) (y : Int) (hy : y ∈ heardL x vs ls j vs.length) => heard_bd hvf hlf hy)
  have hz : (x : Int) / 2 ^ vs.length = 0 := by rw [shr_cast, hxn]; rfl
  obtain ⟨av, cv, hv, _⟩ := h.form
  obtain ⟨al, cl, hvl, hlm, _⟩ := id hl
  subst hv hvl
  have b1 : (1 : Int) ≤ (vs.length : Int) := by omega
  have b9 : (vs.length : Int) ≤ 9 := by omega
  have bf : (f : Int) ≤ ((vs.length : Int) - 1) / 3 := by omega
  have bf0 : (0 : Int) ≤ (f : Int) := by omega
  have HBF := Lib.hid (show 3 * f < vs.length by omega)
  clear h hl hxn hvf hlf h0
  go_enter Try.func7, Try.ntmps7
  go_wp2_with (go_at_call 13; first | (with_reducible refine (HV.out _ (Below.refl _ _)).mono ?_) | (with_reducible refine (HLI.out _ (Below.refl _ _)).mono ?_); rintro e w1 ⟨rfl, rfl⟩)
  go_loopw [11, 45] (fun vo i wr => ∃ (k : Nat) (v' : Value), k ≤ vs.length ∧ i = .int .i64 k ∧ vo = v' ∧ Sat W wr (Hp.own SZ 1 v' (newL f x vs ls k) * 1)) (fun _ i _ => vs.length - (intOf i).toNat)
  case atStart => exact ⟨0, _, Nat.zero_le _, rfl, rfl, by have := (Sat.start W).nil SZ 1; unfold newL; simpa using this⟩
  case round =>
    obtain ⟨k, vo, hk, rfl, rfl, hsat⟩ := hrel
    by_cases hlt : k < vs.length
    · have i0 : (0 : Int) ≤ (k : Int) := by omega
      have i1 : (k : Int) < (vs.length : Int) := by omega
      obtain ⟨ao, co, ho, _⟩ := hsat.ows.form
      rw [newL_len] at ho
      subst ho
      have HC := Lib.hid (HE.out wr k _ hsat (by omega))
      have HBK := Lib.hid (HBD.out k)
      have hhl := heardL_len x vs ls k vs.length
      have HZ0 := Lib.hid (show newF f x vs ls k = ((srtI (heardL x vs ls k vs.length)).getD f 0 + (srtI (heardL x vs ls k vs.length)).getD (vs.length - 1 - f) 0) / 2 from rfl)
      clear hsat
      generalize heardL x vs ls k vs.length = hl at *
      have HHL := Lib.hid hhl
      clear hhl
      go_wp2_with (first | (go_at_call 15; (with_reducible refine HC.out.mono ?_); rintro e w1 ⟨g, o, c, rfl, hX⟩; have HX := Lib.hid (sort_any hX HHL.out.symm (by have := HHL.out; omega)); clear hX) | (go_at_call 16; (with_reducible refine HX.out.mono ?_); rintro e w2 ⟨⟨u, rfl⟩, ys, hp, hs, hY⟩; obtain rfl := srtI_of hp hs; have HY := Lib.hid hY; clear hp hs hY))
      have hyl := srtI_len hl
      rw [HHL.out] at hyl
      obtain ⟨ya, hya⟩ := get_of_lt (show f < (srtI hl).length by have := HBF.out; omega)
      obtain ⟨yb, hyb⟩ := get_of_lt (show vs.length - 1 - f < (srtI hl).length by have := HBF.out; omega)
      have ba := HBK.out ya ((srtI_perm hl).mem_iff.1 (List.mem_of_getElem? hya))
      have bb := HBK.out yb ((srtI_perm hl).mem_iff.1 (List.mem_of_getElem? hyb))
      have ez : newF f x vs ls k = (ya + yb) / 2 := by rw [HZ0.out, List.getD, List.getD, hya, hyb]; rfl
      obtain ⟨z, hz'⟩ : ∃ z, z = newF f x vs ls k := ⟨_, rfl⟩
      have HZ := Lib.hid hz'
      have HYA := Lib.hid hya
      have HYB := Lib.hid hyb
      have zz : (ya + yb) / 2 = z := by rw [hz', ez]
      have es : IntKind.i64.wrap (ya + yb) = ya + yb := IntWalk.i64_in _ (by omega)
      have ei : ((vs.length : Int) - 1 - (f : Int)).toNat = vs.length - 1 - f := by have := HBF.out; omega
      have ei0 : (0 : Int) ≤ (vs.length : Int) - 1 - (f : Int) := by have := HBF.out; omega
      have ei1 : (vs.length : Int) - 1 - (f : Int) < (vs.length : Int) := by omega
      have ei2 : (f : Int) < (vs.length : Int) := by have := HBF.out; omega
      have ew1 : IntKind.i64.wrap ((vs.length : Int) - 1) = (vs.length : Int) - 1 := IntWalk.i64_in _ (by omega)
      have ew2 : IntKind.i64.wrap ((vs.length : Int) - 1 - (f : Int)) = (vs.length : Int) - 1 - (f : Int) := IntWalk.i64_in _ (by omega)
      generalize srtI hl = ys at *
      refine region_in (W := W) HY.out fun w3 H3 => ?_
      obtain ⟨St, hne, F, hF, hFC⟩ := fact_class (fun w' => w'.cell? ⟨g, o + f, none⟩ = some (.int .i64 ya) ∧ w'.cell? ⟨g, o + (vs.length - 1 - f), none⟩ = some (.int .i64 yb)) (w := w3) ⟨(H3.cell1 hya rfl).1, (H3.cell1 hyb rfl).1⟩
      have g0 : ∀ s, (F s).cell? ⟨g, o + f, none⟩ = some (.int .i64 ya) := fun s => (hF s).1
      have g1 : ∀ s, (F s).cell? ⟨g, o + (vs.length - 1 - f), none⟩ = some (.int .i64 yb) := fun s => (hF s).2
      have HFC := Lib.hid hFC
      clear hF hFC hya hyb hyl ez hz' ba bb
      refine wp_region_ord (fun j => j == 14 || j == 15) 16 [0, 1, 2, 3, 4, 5, 6, 7, 8, 9, 10, 11, 12, 13, 14, 15] (pushC W SZ 1 (.slice ao k co) (newL f x vs ls k) z _) (by kernel_rfl) (by kernel_rfl) (H3.sw.drawn _) ?_
      repeat (refine gWalk_val (fun w' => ∃ s, w' = F s) rfl rfl rfl rfl (fun us w' h => by obtain ⟨X, h⟩ := h.owned; exact HFC.out _ ⟨(h.assoc.cell1 HYA.out rfl).1, (h.assoc.cell1 HYB.out rfl).1⟩) (fun K hK => ?_); simp only [List.getElem_toArray, List.getElem_cons_zero, List.getElem_cons_succ]; go_big_quiet_op; refine hK _ ?_; clear hK K)
      refine gWalk_build (cs := #[.int .i64 z]) (e := 2) rfl rfl rfl rfl (fun w => ?_) (fun gb => ?_)
      · simp only [List.getElem_toArray, List.getElem_cons_zero, List.getElem_cons_succ]
        go_simp
        rfl
      simp only [List.getElem_toArray, List.getElem_cons_zero, List.getElem_cons_succ, Act.put, List.setIfInBounds_toArray, List.set_cons_succ, List.set_cons_zero]
      refine gWalk_push (.tmp 55) (.tmp 69) 23 rfl rfl rfl rfl Try.eZ SZ_len SZ_one rfl rfl (by rw [newL_len]; omega) (by rw [newL_len]; omega) (fun v' hv' => ?_)
      simp only [List.getElem_toArray, List.getElem_cons_zero, List.getElem_cons_succ, Act.put, List.setIfInBounds_toArray, List.set_cons_succ, List.set_cons_zero]
      rintro w2 ⟨_, H5⟩
      simp only [List.drop_succ_cons, List.drop_zero]
      have H7 := Lib.hid (show Sat W w2 (Hp.own SZ 1 v' (newL f x vs ls (k + 1)) * 1) from by
        rw [newL_succ, ← HZ.out]
        exact H5.sw.drop)
      rw [newL_len] at hv'
      obtain ⟨g', o', cap', rfl⟩ := hv'
      clear H5
      go_wp2_with fail
      go_roundw
      case rel => exact ⟨k + 1, _, by omega, by go_num, rfl, H7.out⟩
      case measure => simp [intOf]; omega
    · obtain rfl : k = vs.length := by omega
      have HS := Lib.hid hsat
      clear hsat
      go_wp2_with fail
      go_ret2
      exact ⟨_, rfl, HS.out.sls (by rw [newL_len]; omega), HS.out.below⟩

def BadPost (W : World) (e : Ending) (w' : World) : Prop := ∃ c : Int, e = .returned (.tuple #[.slice none 0 0, .int .i64 c]) ∧ c ≠ 0 ∧ W = w'
set_option maxHeartbeats 4000000 in
theorem round_bad {W : World} {v vl : Value} {vs ls : List Int} (f : Int) (x : Nat) (h : SlS SZ 1 W v vs) (hl : SlI W vl ls) (ok : ¬ OkA f x vs ls) (hx : x < 4294967296) (wf : (Lit.int .i64 f).wf = true) :
    Calls Try.prog 7 #[.int .i64 f, .int .u32 x, v, vl] W (BadPost W) := by
  have HV := Lib.hid (anyfar_any h.one)
  have HLI := Lib.hid (anyfar_any hl)
  obtain ⟨av, cv, hv, _⟩ := h.form
  obtain ⟨al, cl, hvl, hlm, _⟩ := id hl
  subst hv hvl
  unfold OkA at ok
  clear h hl
  by_cases h1 : vs.length = 0 ∨ 9 < vs.length
  · rcases h1 with h1 | h1
    · have hz : ((vs.length : Int) == 0) = true := by rw [cast_beq0]; exact beq_iff_eq.2 h1
      clear ok h1
      go_enter Try.func7, Try.ntmps7
      go_wp2_with fail
      all_goals first | (exfalso; omega) | skip
      go_ret2
      exact ⟨1, rfl, by decide, rfl⟩
    · have hz : ((vs.length : Int) == 0) = false := by rw [cast_beq0]; exact beq_eq_false_iff_ne.2 (by omega)
      have hz2 : (9 : Int) < (vs.length : Int) := by omega
      clear ok h1
      go_enter Try.func7, Try.ntmps7
      go_wp2_with fail
      all_goals first | (exfalso; omega) | skip
      go_ret2
      exact ⟨1, rfl, by decide, rfl⟩
  · have hz : ((vs.length : Int) == 0) = false := by rw [cast_beq0]; exact beq_eq_false_iff_ne.2 (by omega)
    have hz2 : (vs.length : Int) ≤ 9 := by omega
    have hz3 : (1 : Int) ≤ (vs.length : Int) := by omega
    by_cases h2 : f < 0 ∨ ((vs.length : Int) - 1) / 3 < f
    · rcases h2 with h2 | h2
      · clear ok h1
        go_enter Try.func7, Try.ntmps7
        go_wp2_with fail
        all_goals first | (exfalso; omega) | skip
        go_ret2
        exact ⟨3, rfl, by decide, rfl⟩
      · have h2' : 0 ≤ f := by omega
        clear ok h1
        go_enter Try.func7, Try.ntmps7
        go_wp2_with fail
        all_goals first | (exfalso; omega) | skip
        go_ret2
        exact ⟨3, rfl, by decide, rfl⟩
    · have h3 : 0 ≤ f := by omega
      have h4 : f ≤ ((vs.length : Int) - 1) / 3 := by omega
      have hsh := shr_cast x vs.length
      by_cases h5 : x >>> vs.length = 0
      · have hz5 : (x : Int) / 2 ^ vs.length = 0 := by rw [hsh, h5]; rfl
        clear h2 hsh
        cases h6 : vs.any farB
        · have h7 : ls.any farB = true := by
            cases h7 : ls.any farB
            · exact absurd ⟨by omega, by omega, h3, by omega, h5, h6, h7⟩ ok
            · rfl
          rw [h6] at HV
          rw [h7] at HLI
          clear ok h1 h5 h6 h7
          go_enter Try.func7, Try.ntmps7
          go_wp2_with (go_at_call 13; first | (with_reducible refine HV.out.mono ?_) | (with_reducible refine HLI.out.mono ?_); rintro e w1 ⟨rfl, rfl⟩)
          all_goals first | (exfalso; omega) | skip
          go_ret2
          exact ⟨2, rfl, by decide, rfl⟩
        · rw [h6] at HV
          clear ok h1 h5 h6
          go_enter Try.func7, Try.ntmps7
          go_wp2_with (go_at_call 13; (with_reducible refine HV.out.mono ?_); rintro e w1 ⟨rfl, rfl⟩)
          all_goals first | (exfalso; omega) | skip
          go_ret2
          exact ⟨2, rfl, by decide, rfl⟩
      · have hz5 : ((x : Int) / 2 ^ vs.length != 0) = true := by rw [hsh]; simp only [bne_iff_ne, ne_eq]; omega
        clear ok h1 h2 hsh h5
        go_enter Try.func7, Try.ntmps7
        go_wp2_with fail
        all_goals first | (exfalso; omega) | skip
        go_ret2
        exact ⟨2, rfl, by decide, rfl⟩

theorem outside_shr {x n : Nat} (hx : x < 4294967296) : outsideF x (n : Int) = false ↔ x >>> n = 0 := by
  constructor
  · intro h
    refine Nat.eq_of_testBit_eq fun i => ?_
    rw [Nat.testBit_shiftRight, Nat.zero_testBit]
    by_cases hi : n + i < 32
    · cases hb : x.testBit (n + i)
      · rfl
      · have := outside_no (x := x) (n := n) hi (by omega) hb
        rw [h] at this; cases this
    · exact Nat.testBit_lt_two_pow (Nat.lt_of_lt_of_le hx (by
        have := Nat.pow_le_pow_right (n := 2) (by decide) (show 32 ≤ n + i by omega)
        simpa using this))
  · intro h
    refine outside_yes fun j h1 h2 => ?_
    have := congrArg (fun y => y.testBit (j - n)) h
    simp only [Nat.testBit_shiftRight, Nat.zero_testBit] at this
    rwa [show n + (j - n) = j by omega] at this

set_option maxHeartbeats 4000000 in
theorem check_any {W : World} {v vl : Value} {vs ls : List Int} (f : Int) (x : Nat) (h : SlS SZ 1 W v vs) (hl : SlS SZ 1 W vl ls) (hx : x < 4294967296) (hm : ls.length * 8 ≤ 140737488351232) (wf : (Lit.int .i64 f).wf = true) :
    Calls Try.prog 8 #[.int .i64 f, .int .u32 x, v, vl] W fun e w' => (∃ c : Int, e = .returned (.int .i64 c) ∧ (c = 0 ↔ OkA f x vs ls)) ∧ Below W.heap.size W w' := by
  have HSV := Lib.hid h
  have HSL := Lib.hid hl
  obtain ⟨av, cv, hv, hvm⟩ := h.form
  obtain ⟨al, cl, hvl, hlm⟩ := hl.form
  have HO := Lib.hid (outside_any x vs.length W hx (by omega) (by omega))
  subst hv hvl
  clear h hl
  by_cases h1 : vs.length = 0 ∨ 9 < vs.length
  · have HN := Lib.hid (show ¬ OkA f x vs ls from fun ok => by have := ok.1; have := ok.2.1; omega)
    rcases h1 with h1 | h1
    · have hz : ((vs.length : Int) == 0) = true := by rw [cast_beq0]; exact beq_iff_eq.2 h1
      clear h1
      go_enter Try.func8, Try.ntmps8
      go_wp2_with fail
      all_goals first | (exfalso; omega) | skip
      go_ret
      exact ⟨⟨1, rfl, by simp [HN.out]⟩, Below.refl _ _⟩
    · have hz : ((vs.length : Int) == 0) = false := by rw [cast_beq0]; exact beq_eq_false_iff_ne.2 (by omega)
      have hz2 : (9 : Int) < (vs.length : Int) := by omega
      clear h1
      go_enter Try.func8, Try.ntmps8
      go_wp2_with fail
      all_goals first | (exfalso; omega) | skip
      go_ret
      exact ⟨⟨1, rfl, by simp [HN.out]⟩, Below.refl _ _⟩
  · have hz : ((vs.length : Int) == 0) = false := by rw [cast_beq0]; exact beq_eq_false_iff_ne.2 (by omega)
    have hz2 : (vs.length : Int) ≤ 9 := by omega
    have hz3 : (1 : Int) ≤ (vs.length : Int) := by omega
    by_cases h2 : f < 0 ∨ 2 < f ∨ (vs.length : Int) ≤ 3 * f
    · have HN := Lib.hid (show ¬ OkA f x vs ls from fun ok => by have := ok.2.2.1; have := ok.2.2.2.1; omega)
      by_cases h3 : f < 0
      · clear h2 h1
        go_enter Try.func8, Try.ntmps8
        go_wp2_with fail
        all_goals first | (exfalso; omega) | skip
        go_ret
        exact ⟨⟨3, rfl, by simp [HN.out]⟩, Below.refl _ _⟩
      · by_cases h4 : 2 < f
        · clear h2 h1
          go_enter Try.func8, Try.ntmps8
          go_wp2_with fail
          all_goals first | (exfalso; omega) | skip
          go_ret
          exact ⟨⟨3, rfl, by simp [HN.out]⟩, Below.refl _ _⟩
        · have h5 : (vs.length : Int) ≤ 3 * f := by omega
          have h6 : 0 ≤ f := by omega
          have h7 : f ≤ 2 := by omega
          clear h2 h1 h3 h4
          go_enter Try.func8, Try.ntmps8
          go_wp2_with fail
          all_goals first | (exfalso; omega) | skip
          go_ret
          exact ⟨⟨3, rfl, by simp [HN.out]⟩, Below.refl _ _⟩
    · have h5 : 3 * f < (vs.length : Int) := by omega
      have h6 : 0 ≤ f := by omega
      have h7 : f ≤ 2 := by omega
      have hd7 : decide (2 < f) = false := decide_eq_false (by omega)
      have hd5 : decide ((vs.length : Int) ≤ 3 * f) = false := decide_eq_false (by omega)
      have hd0 : decide (f < 0) = false := decide_eq_false (by omega)
      have HX := Lib.hid (outside_shr (n := vs.length) hx)
      have HB := Lib.hid (show 1 ≤ vs.length ∧ vs.length ≤ 9 by omega)
      cases h8 : outsideF x vs.length
      · rw [h8] at HO
        have HX0 := Lib.hid (HX.out.1 h8)
        clear h2 h1 h8
        go_enter Try.func8, Try.ntmps8
        go_wp2_with (first | (go_at_call 17; (with_reducible refine HO.out.mono ?_); rintro e w1 ⟨rfl, rfl⟩) | (at_builtin; refine wpList_appendRow rfl (.tmp 35) (.tmp 36) 23 rfl Try.eZ SZ SZ_len SZ_one W.heap.size (xs := []) (ys := vs) rfl rfl (row_made W 2 1) (HSV.out.below (below_alloc _ _)) (by have := HB.out; simp; omega) (by have := HB.out; unfold maxLen; simp; omega) (by simp) ?_; intro v1 w1 hr1 hb1; simp only [List.nil_append] at hr1; have HR1 := Lib.hid (And.intro hr1 hb1); clear hr1 hb1) | (at_builtin; refine wpList_appendRow rfl (.tmp 37) (.tmp 38) 23 rfl Try.eZ SZ SZ_len SZ_one W.heap.size rfl rfl HR1.out.1 (HSL.out.below ((below_alloc _ _).trans HR1.out.2)) (by have := HB.out; simp; omega) (by have := HB.out; unfold maxLen; simp; omega) (by have := HR1.out.2.size; simp at this; omega) ?_; intro v2 w2 hr2 hb2; have hs2 := row_sls SZ_len hr2 (by have := HB.out; simp; omega); obtain ⟨l, hl⟩ : ∃ l, l = vs ++ ls := ⟨_, rfl⟩; rw [← hl] at hs2; have HLE := Lib.hid hl; clear hl; obtain ⟨a2, c2, rfl, _⟩ := hs2.form; have HR2 := Lib.hid (And.intro hs2 (((below_alloc W (.cells #[] 2)).trans HR1.out.2).trans hb2)); clear hr2 hb2 hs2))
        have HAP := Lib.hid (show l.any farB = false ↔ vs.any farB = false ∧ ls.any farB = false by rw [HLE.out, List.any_append]; simp)
        have HLEN := Lib.hid (show l.length ≤ 140737488355328 by have := HB.out; rw [HLE.out]; simp; omega)
        have hl0 : (l.length : Int) ≤ 140737488355328 := by have := HLEN.out; omega
        go_loop [41] (fun i => ∃ j : Nat, j ≤ l.length ∧ i = .int .i64 j ∧ (l.take j).any farB = false) (fun i => l.length - (intOf i).toNat)
        case atStart => exact ⟨0, Nat.zero_le _, rfl, rfl⟩
        case round =>
          obtain ⟨j, hj, rfl, hno⟩ := hrel
          by_cases hlt : j < l.length
          · obtain ⟨y, hy⟩ := get_of_lt hlt
            obtain ⟨b0, off, rfl, _, c0⟩ := HR2.out.1.one.get1 hy
            have i0 : (0 : Int) ≤ (j : Int) := by omega
            have i1 : (j : Int) < (l.length : Int) := by omega
            cases hf : farB y
            · have HT := Lib.hid (show (l.take (j + 1)).any farB = false by rw [take_of hy, List.any_append, hno]; simp [hf])
              have hfy := farB_no.1 hf
              obtain ⟨q1, q2⟩ := hfy
              clear hy hno hf
              go_wp2_with fail
              all_goals first | (exfalso; omega) | skip
              go_round
              case rel => exact ⟨j + 1, by omega, by go_num, HT.out⟩
              case measure => simp [intOf]; omega
            · have HT := Lib.hid (show ¬ OkA f x vs ls from fun ok => by
                have := HAP.out.2 ⟨ok.2.2.2.2.2.1, ok.2.2.2.2.2.2⟩
                rw [List.any_eq_true.2 ⟨y, List.mem_of_getElem? hy, hf⟩] at this; cases this)
              have hfy : y < -1099511627776 ∨ 1099511627776 < y := by unfold farB at hf; simpa using hf
              clear hy hno hf
              rcases hfy with hfy | hfy
              · go_wp2_with fail
                all_goals first | (exfalso; omega) | skip
                go_ret
                exact ⟨⟨2, rfl, by simp [HT.out]⟩, HR2.out.2⟩
              · have hfy2 : ¬ y < -1099511627776 := by omega
                go_wp2_with fail
                all_goals first | (exfalso; omega) | skip
                go_ret
                exact ⟨⟨2, rfl, by simp [HT.out]⟩, HR2.out.2⟩
          · obtain rfl : j = l.length := by omega
            rw [List.take_length] at hno
            have HT := Lib.hid (show OkA f x vs ls from ⟨HB.out.1, HB.out.2, h6, by omega, HX0.out, (HAP.out.1 hno).1, (HAP.out.1 hno).2⟩)
            clear hno
            go_wp2_with fail
            go_ret
            exact ⟨⟨0, rfl, by simp [HT.out]⟩, HR2.out.2⟩
      · rw [h8] at HO
        have HN := Lib.hid (show ¬ OkA f x vs ls from fun ok => by
          have := HX.out.2 ok.2.2.2.2.1; rw [h8] at this; cases this)
        clear h2 h1 h8
        go_enter Try.func8, Try.ntmps8
        go_wp2_with (go_at_call 17; (with_reducible refine HO.out.mono ?_); rintro e w1 ⟨rfl, rfl⟩)
        all_goals first | (exfalso; omega) | skip
        go_ret
        exact ⟨⟨2, rfl, by simp [HN.out]⟩, Below.refl _ _⟩
end Go.Proofs.Ytgbhbohleafibaa
