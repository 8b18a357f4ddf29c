/- Paxos' other steps' walks. -/
import Derived.Test.YtbakeeempbadcaaA1
namespace Go.Proofs.Ytbakeeempbadcaa
open Go.RowKit
set_option linter.unusedVariables false
attribute [local go_sem] EffAt EffUpon

set_option maxHeartbeats 1000000 in
theorem ask_fixed {W w : World} {S g o cap ad tb i n : Nat} {k : Int} {vs : List Vt} {v : Vt} {b : Bl} {R : Hp}
    (H : Sat W w (Hp.own FV 3 (.slice (some ⟨g, o, none⟩) n cap) vs * (Hp.rec_ ad (RB b tb) * R))) (hi : vs[i]? = some v) (hk : v.pm < k) (hf : b.fx = true) :
    Calls Try.prog 10 #[.pointer (some ⟨S, 0, none⟩), .int .i64 k, .pointer (some ⟨ad, 0, none⟩), .pointer (some ⟨g, o + i * 3, none⟩)] w fun e w' => e = .returned (.int .i64 0) ∧
      Sat W w' (Hp.own FV 3 (.slice (some ⟨g, o, none⟩) n cap) (vs.set i { v with pm := k }) * (Hp.rec_ ad (RB b tb) * R)) := by
  have hil := (List.getElem?_eq_some_iff.1 hi).1
  obtain ⟨⟨c0, c1, c2⟩, f0, f1, f2⟩ := H.ows.three hi
  have d4 := H.drop.cell 4 rfl
  rw [hf] at d4
  have n1 := H.ne_own
  have n4 := n1.symm
  have hvs : vs.set i v = vs := set_same hi
  rw [← hvs] at H
  have HH := Lib.hid (H.put0 FV_len hil (.int .i64 k) { v with pm := k } (by decide) rfl)
  clear H hi hf hvs
  go_enter Try.func10, Try.ntmps10
  go_wp2_with fail
  go_ret
  exact ⟨rfl, HH.out⟩

theorem intKey (q : IntKind) (a : Int) : WideAt.IsKeyLit (Lit.int q a) := trivial
theorem Try.kI : KeyT Try.prog 3 (Value.int .i64) (Lit.int .i64) (fun a => (Lit.int .i64 a).wf = true) := intKeyT (by kernel_rfl)
theorem wf_i64 {a : Int} (h0 : -9223372036854775808 ≤ a) (h1 : a ≤ 9223372036854775807) : (Lit.int .i64 a).wf = true := by
  simp [Lit.wf]; exact ⟨h0, h1⟩
abbrev tkHp (tb : Nat) (tk : List (Int × Int)) : Hp := Hp.map Try.prog 3 (Lit.int .i64) (Value.int .i64) tb tk

set_option maxHeartbeats 1000000 in
theorem take_low {W w : World} {S g o cap ad tb i n : Nat} {k : Int} {u1 u2 u3 u4 u5 : Value} {vs : List Vt} {v : Vt} {b : Bl} {R : Hp}
    (H : Sat W w (Hp.own FV 3 (.slice (some ⟨g, o, none⟩) vs.length cap) vs * (Hp.rec_ ad (RB b tb) * (Hp.rec_ S [.slice (some ⟨g, o, none⟩) vs.length cap, u1, u2, u3, u4, u5] * R)))) (hi : vs[i]? = some v) (hk : b.fx = false ∨ k < v.pm) :
    Calls Try.prog 11 #[.pointer (some ⟨S, 0, none⟩), .int .i64 k, .pointer (some ⟨ad, 0, none⟩), .int .i64 i] w fun e w' => e = .returned (.int .i64 6) ∧ w = w' := by
  have hil := (List.getElem?_eq_some_iff.1 hi).1
  obtain ⟨⟨c0, c1, c2⟩, f0, f1, f2⟩ := H.ows.three hi
  have d4 := H.drop.cell 4 rfl
  have s0 := H.drop.drop.cell 0 rfl
  have i0 : (0 : Int) ≤ (i : Int) := by omega
  have i1 : (i : Int) < (vs.length : Int) := by omega
  clear H hi
  by_cases hf : b.fx = true
  · have hk' : k < v.pm := by rcases hk with h | h; (rw [hf] at h; cases h); exact h
    rw [hf] at d4
    clear hf hk
    go_enter Try.func11, Try.ntmps11
    go_wp2_with fail
    go_ret
    exact ⟨rfl, rfl⟩
  · have hf' : b.fx = false := by simpa using hf
    rw [hf'] at d4
    clear hf hf' hk
    go_enter Try.func11, Try.ntmps11
    go_wp2_with fail
    go_ret
    exact ⟨rfl, rfl⟩

def takeB (b : Bl) (i : Int) : Bl := { b with tk := putM b.tk i 1 }
def takeF (n : Nat) (b : Bl) (i : Int) (ch : List (Int × Int)) : List (Int × Int) := if n < 2 * (putM b.tk i 1).length ∧ ¬ n < 2 * b.tk.length then ch ++ [(b.bn, b.bv)] else ch

set_option maxHeartbeats 2000000 in
theorem take_some {W w : World} {S g o cap ad tb i : Nat} {k : Int} {mp vc vf vch : Value} {vs : List Vt} {v : Vt} {b : Bl} {R : Hp} {ch : List (Int × Int)}
    (H : Sat W w (Hp.own FV 3 (.slice (some ⟨g, o, none⟩) vs.length cap) vs * (Hp.rec_ ad (RB b tb) * (recS S (.slice (some ⟨g, o, none⟩) vs.length cap) mp vc vf vch * (tkHp tb b.tk * (Hp.own FB 2 vch ch * R))))))
    (hi : vs[i]? = some v) (hk : v.pm ≤ k) (hf : b.fx = true) (hp : b.tk.length ≤ 200) (hch : ch.length ≤ 1000) (hn : vs.length ≤ 5) :
    Calls Try.prog 11 #[.pointer (some ⟨S, 0, none⟩), .int .i64 k, .pointer (some ⟨ad, 0, none⟩), .int .i64 i] w fun e w' => e = .returned (.int .i64 0) ∧
      ∃ vch', Sat W w' (Hp.own FV 3 (.slice (some ⟨g, o, none⟩) vs.length cap) (vs.set i { pm := k, tn := b.bn, tv := b.bv }) * (Hp.rec_ ad (RB b tb) * (recS S (.slice (some ⟨g, o, none⟩) vs.length cap) mp vc vf vch' * (tkHp tb (putM b.tk i 1) * (Hp.own FB 2 vch' (takeF vs.length b i ch) * R))))) := by
  have hil := (List.getElem?_eq_some_iff.1 hi).1
  obtain ⟨⟨c0, c1, c2⟩, f0, f1, f2⟩ := H.ows.three hi
  have H2 := H.drop
  have d1 := H2.cell 1 rfl
  have d2 := H2.cell 2 rfl
  have d4 := H2.cell 4 rfl
  have d5 := H2.cell 5 rfl
  have s0 := H2.drop.cell 0 rfl
  rw [hf] at d4
  have n1 := H.ne_own
  have n2 := H2.ne
  have n3 : g ≠ S := H.up2.sw.ne_own
  have n4 := n1.symm
  have n5 := n2.symm
  have n6 := n3.symm
  have H' := H.spell hi
  have HQ := Lib.hid (((H'.put0 FV_len hil (.int .i64 k) { v with pm := k } (by decide) rfl).put FV_len hil 1 (.int .i64 b.bn) { v with pm := k, tn := b.bn } (by decide) rfl).put FV_len hil 2 (.int .i64 b.bv) { pm := k, tn := b.bn, tv := b.bv } (by decide) rfl).up3
  have hpl : (putM b.tk (i : Int) 1).length ≤ 201 := by rw [putM_length]; split <;> omega
  have i0 : (0 : Int) ≤ (i : Int) := by omega
  have i1 : (i : Int) < (vs.length : Int) := by omega
  have HP := Lib.hid (show Hp.rec_ ad (RB b tb) = Hp.rec_ ad [.int .i64 b.own, .int .i64 b.bn, .int .i64 b.bv, .int .i64 b.pr, .bool true, .map (some tb)] by rw [← hf]; rfl)
  rw [HP.out] at HQ ⊢
  have HT := Lib.hid (show takeF vs.length b i ch = if vs.length < 2 * (putM b.tk i 1).length ∧ ¬ vs.length < 2 * b.tk.length then ch ++ [(b.bn, b.bv)] else ch from rfl)
  have hwfi : (Lit.int .i64 (i : Int)).wf = true := wf_i64 (by omega) (by omega)
  have HW := Lib.hid hwfi
  unfold tkHp at *
  clear H H' H2 hi hf hwfi
  generalize hpk : putM b.tk (i : Int) 1 = tk' at *
  have HPK := Lib.hid hpk
  clear hpk
  by_cases hm1 : vs.length < 2 * tk'.length
  · have hm1' : (vs.length : Int) < 2 * (tk'.length : Int) := by omega
    by_cases hm2 : vs.length < 2 * b.tk.length
    · have hm2' : (vs.length : Int) < 2 * (b.tk.length : Int) := by omega
      have HM2 := Lib.hid hm2
      clear hm1 hm2
      go_enter Try.func11, Try.ntmps11
      go_wp2_with (first | (at_len; refine wpList_lenH (vf := Value.int .i64) (ms := b.tk) rfl _ 49 rfl Try.underlying49 rfl HQ.out ?_) | (at_mapUpdate; refine wpList_storeH rfl _ _ _ 49 rfl Try.underlying49 Try.kI (intKey .i64) (i : Int) (1 : Int) rfl rfl rfl HW.out HQ.out (by unfold maxLen; omega) ?_; intro w2 H2 _; rw [HPK.out] at H2; have x5 := H2.up2.cell 5 rfl; have x1 := H2.up2.cell 1 rfl; have x2 := H2.up2.cell 2 rfl; have y0 := H2.up3.cell 0 rfl; have H3 := Lib.hid H2; clear H2) | (at_len; refine wpList_lenH (vf := Value.int .i64) (ms := tk') rfl _ 49 rfl Try.underlying49 rfl H3.out ?_) | (go_at_call 12; (with_reducible refine (most_any (n := vs.length) (cap := cap) (a := some ⟨g, o, none⟩) (by omega) (by omega) y0).mono ?_); rintro e w' ⟨rfl, rfl⟩))
      go_ret
      refine ⟨rfl, vch, ?_⟩
      rw [HT.out, if_neg (fun h => h.2 HM2.out)]
      exact H3.out.cast (by ac_rfl)
    · have hm2' : 2 * (b.tk.length : Int) ≤ (vs.length : Int) := by omega
      have hmd : decide ((vs.length : Int) < 2 * (b.tk.length : Int)) = false := decide_eq_false (by omega)
      have HM1 := Lib.hid hm1
      have HM2 := Lib.hid hm2
      clear hm1 hm2
      go_enter Try.func11, Try.ntmps11
      go_wp2_with (first | (at_len; refine wpList_lenH (vf := Value.int .i64) (ms := b.tk) rfl _ 49 rfl Try.underlying49 rfl HQ.out ?_) | (at_mapUpdate; refine wpList_storeH rfl _ _ _ 49 rfl Try.underlying49 Try.kI (intKey .i64) (i : Int) (1 : Int) rfl rfl rfl HW.out HQ.out (by unfold maxLen; omega) ?_; intro w2 H2 _; rw [HPK.out] at H2; have x5 := H2.up2.cell 5 rfl; have x1 := H2.up2.cell 1 rfl; have x2 := H2.up2.cell 2 rfl; have y0 := H2.up3.cell 0 rfl; have H3 := Lib.hid H2; clear H2) | (at_len; refine wpList_lenH (vf := Value.int .i64) (ms := tk') rfl _ 49 rfl Try.underlying49 rfl H3.out ?_) | (go_at_call 12; (with_reducible refine (most_any (n := vs.length) (cap := cap) (a := some ⟨g, o, none⟩) (by omega) (by omega) y0).mono ?_); rintro e w' ⟨rfl, rfl⟩))
      all_goals first | (exfalso; omega) | skip
      refine region_in (W := W) H3.out fun w1 H1 => ?_
      clear c0 c1 c2 f0 f1 f2 d1 d2 d4 d5 s0
      obtain ⟨St, hne, F, hF, hFC⟩ := fact_class (fun w' => w'.cell? ⟨S, 5, none⟩ = some vch ∧ w'.cell? ⟨ad, 1, none⟩ = some (.int .i64 b.bn) ∧ w'.cell? ⟨ad, 2, none⟩ = some (.int .i64 b.bv)) (w := w1) ⟨H1.up3.cell 5 rfl, H1.up2.cell 1 rfl, H1.up2.cell 2 rfl⟩
      have g0 : ∀ s, (F s).cell? ⟨S, 5, none⟩ = some vch := fun s => (hF s).1
      have g1 : ∀ s, (F s).cell? ⟨ad, 1, none⟩ = some (.int .i64 b.bn) := fun s => (hF s).2.1
      have g2 : ∀ s, (F s).cell? ⟨ad, 2, none⟩ = some (.int .i64 b.bv) := fun s => (hF s).2.2
      have HFC := Lib.hid hFC
      clear hF hFC
      refine wp_region_ord (fun j => j == 10 || j == 11) 12 [0, 1, 2, 3, 4, 5, 6, 7, 8, 9, 10, 11] (pushC W FB 2 vch ch (b.bn, b.bv) _) (by kernel_rfl) (by kernel_rfl) (H1.up4.drawn _) ?_
      repeat (refine gWalk_val (fun w' => ∃ s, w' = F s) rfl rfl rfl rfl (fun us w' h => by obtain ⟨X, h⟩ := h.owned; exact HFC.out _ ⟨h.assoc.drop.assoc.drop.assoc.drop.assoc.cell 5 rfl, h.assoc.drop.assoc.drop.assoc.cell 1 rfl, h.assoc.drop.assoc.drop.assoc.cell 2 rfl⟩) (fun K hK => ?_); simp only [List.getElem_toArray, List.getElem_cons_zero, List.getElem_cons_succ]; go_big_quiet_op; refine hK _ ?_; clear hK K)
      refine gWalk_build (cs := #[.int .i64 b.bn, .int .i64 b.bv]) (e := 32) rfl rfl rfl rfl (fun w => ?_) (fun gb => ?_)
      · simp only [List.getElem_toArray, List.getElem_cons_zero, List.getElem_cons_succ]
        go_simp
        rfl
      simp only [List.getElem_toArray, List.getElem_cons_zero, List.getElem_cons_succ, Act.put, List.setIfInBounds_toArray, List.set_cons_succ, List.set_cons_zero]
      refine gWalk_push (.tmp 69) (.tmp 74) 25 rfl rfl rfl rfl Try.eB FB_len FB_one rfl rfl (by omega) (by omega) (fun v' hv' => ?_)
      simp only [List.getElem_toArray, List.getElem_cons_zero, List.getElem_cons_succ, Act.put, List.setIfInBounds_toArray, List.set_cons_succ, List.set_cons_zero]
      rintro w2 ⟨_, H5⟩
      simp only [List.drop_succ_cons, List.drop_zero]
      have H6 := H5.up4
      have q0 := H6.cell 5 rfl
      have q1 := H6.free 5 rfl
      have H7 := Lib.hid H6
      obtain ⟨g', o', cap', rfl⟩ := hv'
      clear H5 H6
      go_wp2_with fail
      go_ret
      refine ⟨rfl, .slice (some ⟨g', o', none⟩) (ch.length + 1) cap', ?_⟩
      rw [HT.out, if_pos ⟨HM1.out, HM2.out⟩]
      have H8 : Sat W _ (recS S (.slice (some ⟨g, o, none⟩) vs.length cap) mp vc vf (.slice (some ⟨g', o', none⟩) (ch.length + 1) cap') * _) := H7.out.set 5 _
      exact H8.cast (by ac_rfl)
  · have hm1' : 2 * (tk'.length : Int) ≤ (vs.length : Int) := by omega
    have HM1 := Lib.hid hm1
    clear hm1
    go_enter Try.func11, Try.ntmps11
    go_wp2_with (first | (at_len; refine wpList_lenH (vf := Value.int .i64) (ms := b.tk) rfl _ 49 rfl Try.underlying49 rfl HQ.out ?_) | (at_mapUpdate; refine wpList_storeH rfl _ _ _ 49 rfl Try.underlying49 Try.kI (intKey .i64) (i : Int) (1 : Int) rfl rfl rfl HW.out HQ.out (by unfold maxLen; omega) ?_; intro w2 H2 _; rw [HPK.out] at H2; have x5 := H2.up2.cell 5 rfl; have x1 := H2.up2.cell 1 rfl; have x2 := H2.up2.cell 2 rfl; have y0 := H2.up3.cell 0 rfl; have H3 := Lib.hid H2; clear H2) | (at_len; refine wpList_lenH (vf := Value.int .i64) (ms := tk') rfl _ 49 rfl Try.underlying49 rfl H3.out ?_) | (go_at_call 12; (with_reducible refine (most_any (n := vs.length) (cap := cap) (a := some ⟨g, o, none⟩) (by omega) (by omega) y0).mono ?_); rintro e w' ⟨rfl, rfl⟩))
    go_ret
    refine ⟨rfl, vch, ?_⟩
    rw [HT.out, if_neg (fun h => HM1.out h.1)]
    exact H3.out.cast (by ac_rfl)

end Go.Proofs.Ytbakeeempbadcaa
