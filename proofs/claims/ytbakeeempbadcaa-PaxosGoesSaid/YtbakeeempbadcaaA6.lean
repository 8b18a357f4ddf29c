/- Paxos' Play. -/
import Derived.Test.YtbakeeempbadcaaA5
import Derived.Laws.EntriesVeiled
namespace Go.Proofs.Ytbakeeempbadcaa
open Go.RowKit
set_option linter.unusedVariables false
attribute [local go_sem] EffAt EffUpon

abbrev nils4 : List Value := [.slice none 0 0, .slice none 0 0, .slice none 0 0, .slice none 0 0]

def W4 (W : World) (n : Nat) : World :=
  ((((W.alloc (.cells #[.slice none 0 0, .slice none 0 0, .slice none 0 0, .slice none 0 0] 27)).alloc (.cells (madeRow (.agg #[.int .i64 0, .int .i64 0, .int .i64 0]) 3 n) 39)).alloc (.map #[] 0)).alloc
    (.cells #[.slice (some ⟨W.heap.size + 1, 0, none⟩) n n, .map (some (W.heap.size + 1 + 1)), .slice none 0 0, .slice none 0 0, .slice none 0 0, .slice none 0 0] 45))

theorem start (W : World) (n : Nat) : Sat W (W4 W n) (Hp.own FZ 1 (.slice none 0 0) ([] : List Int) * (machH (W.heap.size + 1 + 1 + 1) (.slice none 0 0) (s0 n) * (Hp.rec_ W.heap.size nils4 * 1))) := by
  have h1 := (Sat.start W).allocAt #[.slice none 0 0, .slice none 0 0, .slice none 0 0, .slice none 0 0] 27 nils4 rfl rfl
  have h2 := h1.newOwnAt (b := W.heap.size + 1) (f := FV) (sz := 3) (xs := List.replicate n v0) (by simp) (OwS.made (e := 39) (z := .agg #[.int .i64 0, .int .i64 0, .int .i64 0]) _ _ n v0 FV_len rfl (Nat.le_refl _))
  have h3 := h2.mapAllocAt Try.prog 3 (Lit.int .i64) vptr (b := W.heap.size + 1 + 1) (by simp)
  have h4 := h3.allocAt #[.slice (some ⟨W.heap.size + 1, 0, none⟩) n n, .map (some (W.heap.size + 1 + 1)), .slice none 0 0, .slice none 0 0, .slice none 0 0, .slice none 0 0] 45 [.slice (some ⟨W.heap.size + 1, 0, none⟩) n n, .map (some (W.heap.size + 1 + 1)), .slice none 0 0, .slice none 0 0, .slice none 0 0, .slice none 0 0] rfl (b := W.heap.size + 1 + 1 + 1) (by simp)
  have h5 := ((h4.nil FB 2).nil FB 2).nil FZ 1
  have h6 : Sat W (W4 W n) (Hp.own FV 3 (.slice (some ⟨W.heap.size + 1, 0, none⟩) n n) (List.replicate n v0) * (Hp.rec_ (W.heap.size + 1 + 1 + 1) [.slice (some ⟨W.heap.size + 1, 0, none⟩) n n, .map (some (W.heap.size + 1 + 1)), .slice none 0 0, .slice none 0 0, .slice none 0 0, .slice none 0 0] * (Hp.map Try.prog 3 (Lit.int .i64) vptr (W.heap.size + 1 + 1) [] * (Hp.own FB 2 (.slice none 0 0) [] * (Hp.own FB 2 (.slice none 0 0) [] * 1)))) * (Hp.own FZ 1 (.slice none 0 0) ([] : List Int) * (Hp.rec_ W.heap.size nils4 * 1))) := h5.cast (by ac_rfl)
  have e : (s0 n).vs.length = n := by simp [s0]
  have h7 : Sat W (W4 W n) (MachAt (W.heap.size + 1 + 1 + 1) (W.heap.size + 1) 0 n (W.heap.size + 1 + 1) (.slice none 0 0) (.slice none 0 0) (.slice none 0 0) (s0 n).vs [] (s0 n).fl (s0 n).ch * (Hp.own FZ 1 (.slice none 0 0) ([] : List Int) * (Hp.rec_ W.heap.size nils4 * 1))) := by
    unfold MachAt
    rw [e]
    exact h6
  exact (machH.shut rfl h7).sw

theorem machH.vc {W w : World} {S : Nat} {vc : Value} {s : St} {R : Hp} (H : Sat W w (machH S vc s * R)) : w.cell? ⟨S, 2, none⟩ = some vc ∧ w.frozen? ⟨S, 2, none⟩ = false := by
  obtain ⟨g, o, cap, mb, vf, vch, bms, e, H⟩ := machH.open_ H
  exact ⟨H.assoc.sw.assoc.cell 2 rfl, H.assoc.sw.assoc.free 2 rfl⟩
theorem machH.setVc {W w : World} {S : Nat} {vc : Value} {s : St} {R : Hp} (H : Sat W w (machH S vc s * R)) (v' : Value) : Sat W (w.setCell ⟨S, 2, none⟩ v') (machH S v' s * R) := by
  obtain ⟨g, o, cap, mb, vf, vch, bms, e, H⟩ := machH.open_ H
  refine machH.shut (g := g) (o := o) (cap := cap) (mb := mb) (vf := vf) (vch := vch) e ?_
  have H2 : Sat W (w.setCell ⟨S, 2, none⟩ v') (recS S (.slice (some ⟨g, o, none⟩) s.vs.length cap) (.map (some mb)) v' vf vch * _) := H.assoc.sw.assoc.set 2 v'
  unfold MachAt
  exact H2.cast (by ac_rfl)

set_option maxHeartbeats 4000000 in
theorem play_run (n : Nat) (v : Value) (xs : List Tr) (W : World) (h : SlS FT 4 W v xs) (hn : 1 ≤ n) (hn4 : n ≤ 5) (hx : xs.length ≤ 120) (hwf : ∀ t ∈ xs, (Lit.int .i64 t.ballot).wf = true) :
    Calls Try.prog 7 #[.int .i64 n, v] W fun e w' => ∃ vc vv vf vch, e = .returned (.tuple #[.agg #[vc, vv, vf, vch], .int .i64 0]) ∧ SlS FZ 1 w' vc (runS (s0 n) xs).2 ∧ SlS FV 3 w' vv (runS (s0 n) xs).1.vs ∧ SlS FB 2 w' vf (runS (s0 n) xs).1.fl ∧ SlS FB 2 w' vch (runS (s0 n) xs).1.ch ∧ Below W.heap.size W w' := by
  have h0 := h
  obtain ⟨a, cap, rfl, hm, hnn, hc⟩ := h
  have mk := fun w => run_mk Try.eV (n := n) (by omega) (by omega) w
  have hmm := @run_makeMap Try.prog
  have HWF := Lib.hid hwf
  clear hc hnn hwf
  go_enter Try.func7, Try.ntmps7
  go_wp2_with fail
  obtain ⟨w4, hw4⟩ : ∃ w4, w4 = W4 W n := ⟨_, rfl⟩
  have hM := start W n
  rw [← hw4] at hM
  unfold W4 at hw4
  rw [← hw4]
  have HM := Lib.hid hM
  have H0 := Lib.hid h0
  clear hM h0 hw4 mk hmm
  obtain ⟨S, hS⟩ : ∃ S, S = W.heap.size + 1 + 1 + 1 := ⟨_, rfl⟩
  rw [← hS] at HM ⊢
  clear hS
  go_loopw [28] (fun i wr => ∃ (j : Nat) (vc : Value), j ≤ xs.length ∧ i = .int .i64 j ∧ Sat W wr (Hp.own FZ 1 vc (runS (s0 n) (xs.take j)).2 * (machH S vc (runS (s0 n) (xs.take j)).1 * (Hp.rec_ W.heap.size nils4 * 1)))) (fun i _ => xs.length - (intOf i).toNat)
  case atStart => exact ⟨0, _, Nat.zero_le _, rfl, HM.out⟩
  case round =>
    obtain ⟨j, vc, hj, rfl, hmid⟩ := hrel
    have hgood := Good.run (xs.take j) (Good.start n)
    rw [Nat.zero_add, List.length_take, Nat.min_eq_left hj] at hgood
    by_cases hlt : j < xs.length
    · obtain ⟨t, ht⟩ := get_of_lt hlt
      have htk := take_of ht
      have HST := Lib.hid (show runS (s0 n) (xs.take (j + 1)) = ((stepS (runS (s0 n) (xs.take j)).1 t).2, (runS (s0 n) (xs.take j)).2 ++ [(stepS (runS (s0 n) (xs.take j)).1 t).1]) by rw [htk, runS_snoc])
      have hcl : (runS (s0 n) (xs.take j)).2.length = j := by rw [runS_len, List.length_take]; omega
      have HWT := Lib.hid (HWF.out t (List.mem_of_getElem? ht))
      obtain ⟨b0, off, rfl, hb0, hcx⟩ := (H0.out.below hmid.below).el ht
      have x0 := hcx 0 _ rfl
      have x1 := hcx 1 _ rfl
      have x2 := hcx 2 _ rfl
      have x3 := hcx 3 _ rfl
      have x0' : wr.cell? ⟨b0, off + j * 4, none⟩ = some (.int .i64 t.kind) := x0
      generalize (runS (s0 n) (xs.take j)).2 = cs at *
      generalize (runS (s0 n) (xs.take j)).1 = s at *
      have HG := Lib.hid hgood
      have HMID := Lib.hid hmid
      have i0 : (0 : Int) ≤ (j : Int) := by omega
      have i1 : (j : Int) < (xs.length : Int) := by omega
      clear hmid htk ht hgood hcx
      go_wp2_with fail
      refine region_in (W := W) (HMID.out.allocAt (b := wr.heap.size) #[.int .i64 t.kind, .int .i64 t.ballot, .int .i64 t.who, .int .i64 t.val] 34 (FT t) rfl rfl) fun w1 H1 => ?_
      obtain ⟨TT, hTT⟩ : ∃ TT, TT = wr.heap.size := ⟨_, rfl⟩
      rw [← hTT] at H1 ⊢
      have HMID2 := Lib.hid HMID.out.below
      clear hTT HMID x0 x1 x2 x3 x0'
      obtain ⟨St, hne, F, hF, hFC⟩ := fact_class (fun w' => w'.cell? ⟨S, 2, none⟩ = some vc ∧ w'.cell? ⟨TT, 0, none⟩ = some (.int .i64 t.kind) ∧ w'.cell? ⟨TT, 1, none⟩ = some (.int .i64 t.ballot) ∧ w'.cell? ⟨TT, 2, none⟩ = some (.int .i64 t.who) ∧ w'.cell? ⟨TT, 3, none⟩ = some (.int .i64 t.val)) (w := w1) ⟨(machH.vc H1.up2).1, H1.cell 0 rfl, H1.cell 1 rfl, H1.cell 2 rfl, H1.cell 3 rfl⟩
      have g0 : ∀ s, (F s).cell? ⟨S, 2, none⟩ = some vc := fun s => (hF s).1
      have g1 : ∀ s, (F s).cell? ⟨TT, 0, none⟩ = some (.int .i64 t.kind) := fun s => (hF s).2.1
      have g2 : ∀ s, (F s).cell? ⟨TT, 1, none⟩ = some (.int .i64 t.ballot) := fun s => (hF s).2.2.1
      have g3 : ∀ s, (F s).cell? ⟨TT, 2, none⟩ = some (.int .i64 t.who) := fun s => (hF s).2.2.2.1
      have g4 : ∀ s, (F s).cell? ⟨TT, 3, none⟩ = some (.int .i64 t.val) := fun s => (hF s).2.2.2.2
      have HFC := Lib.hid hFC
      clear hF hFC
      refine wp_region_ord (fun j => j == 8 || j == 9 || j == 10) 11 [0, 1, 2, 3, 4, 5, 6, 7, 8, 9, 10] (callC W FZ 1 vc cs (stepS s t).1 (.int .i64 (stepS s t).1) (machH S vc s) (machH S vc (stepS s t).2) _) (by kernel_rfl) (by kernel_rfl) ((show Sat W w1 (Hp.own FZ 1 vc cs * (machH S vc s * (Hp.rec_ TT (FT t) * (Hp.rec_ W.heap.size nils4 * 1)))) from H1.dn2).drawn _) ?_
      repeat (refine gWalk_val (fun w' => ∃ s, w' = F s) rfl rfl rfl rfl (fun us w' h => by obtain ⟨X, h⟩ := h.owned; rcases h with h | h <;> exact HFC.out _ ⟨(machH.vc h.assoc).1, h.assoc.drop.assoc.cell 0 rfl, h.assoc.drop.assoc.cell 1 rfl, h.assoc.drop.assoc.cell 2 rfl, h.assoc.drop.assoc.cell 3 rfl⟩) (fun K hK => ?_); simp only [List.getElem_toArray, List.getElem_cons_zero, List.getElem_cons_succ]; go_big_quiet_op; refine hK _ ?_; clear hK K)
      refine gWalk_callC rfl rfl rfl (fun w' hC => ?_) ?_
      · simp only [List.getElem_toArray, List.getElem_cons_zero, List.getElem_cons_succ]
        go_simp
        refine (step_any hC HWT.out HG.out hn4 (by omega)).mono ?_
        rintro e w'' ⟨rfl, H3⟩
        exact ⟨_, rfl, rfl, H3⟩
      simp only [List.getElem_toArray, List.getElem_cons_zero, List.getElem_cons_succ, Act.put, List.setIfInBounds_toArray, List.set_cons_succ, List.set_cons_zero]
      refine gWalk_buildC (cs := #[.int .i64 (stepS s t).1]) (e := 28) rfl rfl rfl rfl (fun w => ?_) (fun gb => ?_)
      · simp only [List.getElem_toArray, List.getElem_cons_zero, List.getElem_cons_succ]
        go_simp
        rfl
      simp only [List.getElem_toArray, List.getElem_cons_zero, List.getElem_cons_succ, Act.put, List.setIfInBounds_toArray, List.set_cons_succ, List.set_cons_zero]
      refine gWalk_pushC (.tmp 37) (.tmp 41) 23 rfl rfl rfl rfl Try.eC FZ_len FZ_one rfl rfl (by omega) (by omega) (fun v' hv' => ?_)
      simp only [List.getElem_toArray, List.getElem_cons_zero, List.getElem_cons_succ, Act.put, List.setIfInBounds_toArray, List.set_cons_succ, List.set_cons_zero]
      rintro w2 ⟨_, _, H5⟩
      simp only [List.drop_succ_cons, List.drop_zero]
      have H6 := H5.sw
      obtain ⟨q0, q1⟩ := machH.vc H6
      have H7 := Lib.hid (machH.setVc H6)
      obtain ⟨g', o', cap', rfl⟩ := hv'
      rw [hcl] at H7 ⊢
      clear H5 H6
      go_wp2_with fail
      go_roundw
      case rel => exact ⟨j + 1, _, by omega, by go_num, by rw [HST.out]; exact ((H7.out _).up2.drop).sw⟩
      case measure => simp [intOf]; omega
    · obtain rfl : j = xs.length := by omega
      rw [List.take_length] at hmid
      have hcl : (runS (s0 n) xs).2.length ≤ 1000 := by rw [runS_len]; omega
      rw [List.take_length] at hgood
      obtain ⟨g, o, cp, mb, vf, vch, bms, _, H⟩ := machH.open_ hmid.sw
      have hS := H.assoc.sw.assoc
      have c0 := hS.cell 0 rfl
      have c2 := hS.cell 2 rfl
      have c3 := hS.cell 3 rfl
      have c4 := hS.cell 4 rfl
      have c5 := hS.cell 5 rfl
      have f3 := hS.free 3 rfl
      have hO : Sat W wr (Hp.rec_ W.heap.size nils4 * (Hp.own FZ 1 vc (runS (s0 n) xs).2 * (MachAt S g o cp mb vc vf vch (runS (s0 n) xs).1.vs bms (runS (s0 n) xs).1.fl (runS (s0 n) xs).1.ch * 1))) := H.up2.sw.up2.cast (by ac_rfl)
      have o0 := hO.cell 0 rfl
      have o1 := hO.cell 1 rfl
      have o2 := hO.cell 2 rfl
      have o3 := hO.cell 3 rfl
      have p0 := hO.free 0 rfl
      have p1 := hO.free 1 rfl
      have p2 := hO.free 2 rfl
      have p3 := hO.free 3 rfl
      obtain ⟨a1, k1, e1, _⟩ := hmid.ows.form
      obtain ⟨a2, k2, e2, _⟩ := (show Sat W wr (Hp.own FB 2 vf (runS (s0 n) xs).1.fl * _) from H.assoc.drop.assoc.drop.assoc.drop.assoc).ows.form
      obtain ⟨a3, k3, e3, _⟩ := (show Sat W wr (Hp.own FB 2 vch (runS (s0 n) xs).1.ch * _) from H.assoc.drop.assoc.drop.assoc.drop.assoc.drop.assoc).ows.form
      subst e1 e2 e3
      have hb1 := hgood.fl
      have hb2 := hgood.ch
      have hb3 := hgood.vs
      generalize hcs : (runS (s0 n) xs).2 = cs at *
      generalize hss : (runS (s0 n) xs).1 = s at *
      have HCS := Lib.hid hcs
      have HSS := Lib.hid hss
      clear hcs hss
      have hY : Sat W wr (recS S (.slice (some ⟨g, o, none⟩) s.vs.length cp) (.map (some mb)) (.slice a1 cs.length k1) (.slice a2 s.fl.length k2) (.slice a3 s.ch.length k3) * (Hp.rec_ W.heap.size nils4 * (Hp.own FZ 1 (.slice a1 cs.length k1) cs * (Hp.own FV 3 (.slice (some ⟨g, o, none⟩) s.vs.length cp) s.vs * (Hp.own FB 2 (.slice a2 s.fl.length k2) s.fl * (Hp.own FB 2 (.slice a3 s.ch.length k3) s.ch * (allHp mb (adr bms) * Hp.big balHp bms))))))) := by
        have := H
        unfold MachAt at this
        rw [Hp.mul_one] at this
        exact this.cast (by ac_rfl)
      have n1 := hY.ne
      have n2 := n1.symm
      have HY := Lib.hid (((((hY.set 3 (.slice (some ⟨g, o, none⟩) s.vs.length cp)).sw.set 0 (.slice a1 cs.length k1)).set 1 (.slice (some ⟨g, o, none⟩) s.vs.length cp)).set 2 (.slice a2 s.fl.length k2)).set 3 (.slice a3 s.ch.length k3)).drop.drop
      have HBD := Lib.hid (And.intro hb1 (And.intro hb2 hb3))
      clear hmid H hS hO hY hgood hb1 hb2 hb3 HM H0
      go_wp2_with fail
      refine bodyPost_ret (v := .tuple #[.agg #[.slice a1 cs.length k1, .slice (some ⟨g, o, none⟩) s.vs.length cp, .slice a2 s.fl.length k2, .slice a3 s.ch.length k3], .int .i64 0]) (by simp [results, Try.results7, go_sem, *]) rfl ?_
      rw [HCS.out, HSS.out]
      obtain ⟨k1, k2, k3⟩ := HBD.out
      exact ⟨_, _, _, _, rfl, HY.out.sls (by omega), HY.out.drop.sls (by omega), HY.out.drop.drop.sls (by omega), HY.out.drop.drop.drop.sls (by omega), HY.out.below⟩

set_option maxHeartbeats 1000000 in
theorem play_bad {α : Type} (f : α → List Value) (sz : Nat) (n : Int) (v : Value) (xs : List α) (W : World) (h : SlS f sz W v xs) (hb : n < 1 ∨ 5 < n ∨ 120 < xs.length) :
    Calls Try.prog 7 #[.int .i64 n, v] W fun e w' => e = .returned (.tuple #[.agg #[.slice none 0 0, .slice none 0 0, .slice none 0 0, .slice none 0 0], .int .i64 1]) ∧ Below W.heap.size W w' := by
  obtain ⟨a, cap, rfl, hm, hnn, hc⟩ := h
  clear hc hnn
  have HB := Lib.hid (((((Below.refl W.heap.size W).alloc (Nat.le_refl _) (.cells #[.slice none 0 0, .slice none 0 0, .slice none 0 0, .slice none 0 0] 27)))))
  by_cases h1 : n < 1
  · clear hb
    go_enter Try.func7, Try.ntmps7
    go_wp2_with fail
    refine bodyPost_ret (v := .tuple #[.agg #[.slice none 0 0, .slice none 0 0, .slice none 0 0, .slice none 0 0], .int .i64 1]) (by simp [results, Try.results7, go_sem, *]) rfl ⟨rfl, ?_⟩
    exact HB.out
  · by_cases h2 : 5 < n
    · clear hb
      go_enter Try.func7, Try.ntmps7
      go_wp2_with fail
      refine bodyPost_ret (v := .tuple #[.agg #[.slice none 0 0, .slice none 0 0, .slice none 0 0, .slice none 0 0], .int .i64 1]) (by simp [results, Try.results7, go_sem, *]) rfl ⟨rfl, ?_⟩
      exact HB.out
    · have h3 : (120 : Int) < (xs.length : Int) := by omega
      clear hb
      go_enter Try.func7, Try.ntmps7
      go_wp2_with fail
      refine bodyPost_ret (v := .tuple #[.agg #[.slice none 0 0, .slice none 0 0, .slice none 0 0, .slice none 0 0], .int .i64 1]) (by simp [results, Try.results7, go_sem, *]) rfl ⟨rfl, ?_⟩
      exact HB.out

end Go.Proofs.Ytbakeeempbadcaa
