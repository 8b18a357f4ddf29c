/- Paxos' step: to begin, to ask, to take. -/
import Derived.Test.YtbakeeempbadcaaA3
namespace Go.Proofs.Ytbakeeempbadcaa
open Go.RowKit
set_option linter.unusedVariables false
attribute [local go_sem] EffAt EffUpon

def newB (val : Int) : Bl := ⟨val, 0, 0, 0, false, []⟩
theorem putM_none {α β : Type} [DecidableEq α] {l : List (α × β)} {a : α} {x : β} (h : getM l a = none) : putM l a x = l ++ [(a, x)] := by
  induction l with
  | nil => rfl
  | cons p l ih =>
    obtain ⟨c, y⟩ := p
    simp only [getM] at h
    split at h
    · cases h
    · rename_i hc; simp only [putM, if_neg hc, List.cons_append]; rw [ih h]
theorem adr_set {bms : List (Int × BM)} {j : Nat} {k : Int} {a a' : BM} (h : bms[j]? = some (k, a)) (ha : a'.ad = a.ad) : adr (bms.set j (k, a')) = adr bms := by
  unfold adr
  rw [List.map_set]
  exact set_same (by rw [List.getElem?_map, h]; simp [ha])
theorem adr_len (bms : List (Int × BM)) : (adr bms).length = bms.length := by simp [adr]

/-- one voter is asked -/
def askS (n : Nat) (k : Int) (v : Vt) (b : Bl) (fl : List (Int × Int)) : Int × Vt × Bl × List (Int × Int) :=
  if k ≤ v.pm then (6, v, b, fl) else if b.fx then (0, { v with pm := k }, b, fl) else (0, { v with pm := k }, askB n k b v, askF n k b v fl)
/-- one voter takes -/
def takeS (n : Nat) (k : Int) (i : Int) (v : Vt) (b : Bl) (ch : List (Int × Int)) : Int × Vt × Bl × List (Int × Int) :=
  if b.fx = false ∨ k < v.pm then (6, v, b, ch) else (0, ⟨k, b.bn, b.bv⟩, takeB b i, takeF n b i ch)

theorem ask_any {W w : World} {S g o cap mb i j : Nat} {k : Int} {a : BM} {vc vf vch : Value} {vs : List Vt} {v : Vt} {bms : List (Int × BM)} {fl ch : List (Int × Int)} {R : Hp}
    (H : Sat W w (MachAt S g o cap mb vc vf vch vs bms fl ch * R)) (hj : bms[j]? = some (k, a)) (hi : vs[i]? = some v) (hp : a.bl.pr ≤ 200) (hfl : fl.length ≤ 1000) :
    Calls Try.prog 10 #[.pointer (some ⟨S, 0, none⟩), .int .i64 k, .pointer (some ⟨a.ad, 0, none⟩), .pointer (some ⟨g, o + i * 3, none⟩)] w fun e w' => e = .returned (.int .i64 (askS vs.length k v a.bl fl).1) ∧
      ∃ vf', Sat W w' (MachAt S g o cap mb vc vf' vch (vs.set i (askS vs.length k v a.bl fl).2.1) (bms.set j (k, { a with bl := (askS vs.length k v a.bl fl).2.2.1 })) (askS vs.length k v a.bl fl).2.2.2 ch * R) := by
  obtain ⟨Rb, hb, hbs⟩ := Hp.big_focus balHp bms j _ hj
  have had := fun b' => adr_set (a' := { a with bl := b' }) hj rfl
  have hvl : ∀ u, (vs.set i u).length = vs.length := fun u => List.length_set
  have H1 : Sat W w (Hp.own FV 3 (.slice (some ⟨g, o, none⟩) vs.length cap) vs * (Hp.rec_ a.ad (RB a.bl a.tb) * (recS S (.slice (some ⟨g, o, none⟩) vs.length cap) (.map (some mb)) vc vf vch * (Hp.own FB 2 vf fl * (allHp mb (adr bms) * (Hp.own FB 2 vch ch * (tkHp a.tb a.bl.tk * (Rb * R)))))))) := by
    unfold MachAt at H
    rw [hb] at H
    unfold balHp at H
    exact H.cast (by ac_rfl)
  by_cases h1 : k ≤ v.pm
  · rw [show askS vs.length k v a.bl fl = (6, v, a.bl, fl) by unfold askS; rw [if_pos h1]]
    refine (ask_low (S := S) (ad := a.ad) (tb := a.tb) (mp := undef) (vc := undef) (vf := undef) (vch := undef) (b := a.bl) H1 hi h1).mono ?_
    rintro e w' ⟨rfl, rfl⟩
    refine ⟨rfl, vf, ?_⟩
    rw [set_same hi, set_same hj]
    exact H
  · by_cases h2 : a.bl.fx = true
    · rw [show askS vs.length k v a.bl fl = (0, { v with pm := k }, a.bl, fl) by unfold askS; rw [if_neg h1, if_pos h2]]
      refine (ask_fixed (S := S) H1 hi (by omega) h2).mono ?_
      rintro e w' ⟨rfl, H2⟩
      refine ⟨rfl, vf, ?_⟩
      unfold MachAt
      rw [hbs, had, hvl]
      unfold balHp
      exact H2.cast (by ac_rfl)
    · rw [show askS vs.length k v a.bl fl = (0, { v with pm := k }, askB vs.length k a.bl v, askF vs.length k a.bl v fl) by unfold askS; rw [if_neg h1, if_neg h2]]
      refine (ask_some H1 hi (by omega) (by simpa using h2) hp hfl).mono ?_
      rintro e w' ⟨rfl, vf', H2⟩
      refine ⟨rfl, vf', ?_⟩
      unfold MachAt
      rw [hbs, had, hvl]
      unfold balHp
      have htk : (askB vs.length k a.bl v).tk = a.bl.tk := by unfold askB best1; split <;> split <;> rfl
      rw [htk]
      exact H2.cast (by ac_rfl)

theorem take_any {W w : World} {S g o cap mb i j : Nat} {k : Int} {a : BM} {vc vf vch : Value} {vs : List Vt} {v : Vt} {bms : List (Int × BM)} {fl ch : List (Int × Int)} {R : Hp}
    (H : Sat W w (MachAt S g o cap mb vc vf vch vs bms fl ch * R)) (hj : bms[j]? = some (k, a)) (hi : vs[i]? = some v) (hp : a.bl.tk.length ≤ 200) (hch : ch.length ≤ 1000) (hn : vs.length ≤ 5) :
    Calls Try.prog 11 #[.pointer (some ⟨S, 0, none⟩), .int .i64 k, .pointer (some ⟨a.ad, 0, none⟩), .int .i64 i] w fun e w' => e = .returned (.int .i64 (takeS vs.length k i v a.bl ch).1) ∧
      ∃ vch', Sat W w' (MachAt S g o cap mb vc vf vch' (vs.set i (takeS vs.length k i v a.bl ch).2.1) (bms.set j (k, { a with bl := (takeS vs.length k i v a.bl ch).2.2.1 })) fl (takeS vs.length k i v a.bl ch).2.2.2 * R) := by
  obtain ⟨Rb, hb, hbs⟩ := Hp.big_focus balHp bms j _ hj
  have had := fun b' => adr_set (a' := { a with bl := b' }) hj rfl
  have hvl : ∀ u, (vs.set i u).length = vs.length := fun u => List.length_set
  have H1 : Sat W w (Hp.own FV 3 (.slice (some ⟨g, o, none⟩) vs.length cap) vs * (Hp.rec_ a.ad (RB a.bl a.tb) * (recS S (.slice (some ⟨g, o, none⟩) vs.length cap) (.map (some mb)) vc vf vch * (tkHp a.tb a.bl.tk * (Hp.own FB 2 vch ch * (Hp.own FB 2 vf fl * (allHp mb (adr bms) * (Rb * R)))))))) := by
    unfold MachAt at H
    rw [hb] at H
    unfold balHp at H
    exact H.cast (by ac_rfl)
  by_cases h1 : a.bl.fx = false ∨ k < v.pm
  · rw [show takeS vs.length k i v a.bl ch = (6, v, a.bl, ch) by unfold takeS; rw [if_pos h1]]
    refine (take_low (n := 0) H1 hi h1).mono ?_
    rintro e w' ⟨rfl, rfl⟩
    refine ⟨rfl, vch, ?_⟩
    rw [set_same hi, set_same hj]
    exact H
  · rw [show takeS vs.length k i v a.bl ch = (0, ⟨k, a.bl.bn, a.bl.bv⟩, takeB a.bl i, takeF vs.length a.bl i ch) by unfold takeS; rw [if_neg h1]]
    refine (take_some H1 hi (by omega) (by cases h : a.bl.fx; exact absurd (.inl h) h1; rfl) hp hch hn).mono ?_
    rintro e w' ⟨rfl, vch', H2⟩
    refine ⟨rfl, vch', ?_⟩
    unfold MachAt
    rw [hbs, had, hvl]
    unfold balHp
    exact H2.cast (by ac_rfl)

def beginC (W : World) (ft : List Value) (T : Nat) (val : Int) (R : Hp) : List Value → World → Prop
  | [], w => Sat W w (Hp.rec_ T ft * R)
  | [u], w => ∃ b, u = .map (some b) ∧ Sat W w (tkHp b [] * (Hp.rec_ T ft * R))
  | u :: p :: _, w => ∃ b ad, u = .map (some b) ∧ p = vptr ad ∧ Sat W w (Hp.rec_ ad (RB (newB val) b) * (tkHp b [] * (Hp.rec_ T ft * R)))
theorem beginC.owned {W : World} {ft : List Value} {T : Nat} {val : Int} {R : Hp} {us : List Value} {w : World} (h : beginC W ft T val R us w) : ∃ X, Sat W w ((Hp.rec_ T ft * R) * X) := by
  match us, h with
  | [], h => exact ⟨1, by rw [Hp.mul_one]; exact h⟩
  | [u], ⟨b, _, h⟩ => exact ⟨_, h.cast (Hp.mul_comm _ _)⟩
  | u :: p :: _, ⟨b, ad, _, _, h⟩ => exact ⟨_, h.drop.cast (Hp.mul_comm _ _)⟩

set_option maxHeartbeats 2000000 in
theorem step_begin {W w : World} {S g o cap mb : Nat} {vc vf vch : Value} {vs : List Vt} {t : Tr} {bms : List (Int × BM)} {fl ch : List (Int × Int)} {R : Hp}
    (H : Sat W w (MachAt S g o cap mb vc vf vch vs bms fl ch * R)) (hk : t.kind = 1) (hwf : (Lit.int .i64 t.ballot).wf = true) (hb : 1 ≤ t.ballot ∧ t.ballot ≤ 1000) (hg : getM bms t.ballot = none) (hbl : bms.length ≤ 200) :
    Calls Try.prog 9 #[.pointer (some ⟨S, 0, none⟩), vT t] w fun e w' => e = .returned (.int .i64 0) ∧ ∃ ad tb, Sat W w' (MachAt S g o cap mb vc vf vch vs (bms ++ [(t.ballot, ⟨ad, tb, newB t.val⟩)]) fl ch * R) := by
  obtain ⟨h1, h2⟩ := hb
  obtain ⟨tk, tb, tw, tv⟩ := t
  simp only at hk hg
  subst hk
  have HA := H.alloc #[.int .i64 1, .int .i64 tb, .int .i64 tw, .int .i64 tv] 34 (FT ⟨1, tb, tw, tv⟩) rfl
  have HS := HA.drop.assoc.sw.assoc
  have s0 : w.cell? ⟨S, 0, none⟩ = some (.slice (some ⟨g, o, none⟩) vs.length cap) := H.assoc.sw.assoc.cell 0 rfl
  have s1 : w.cell? ⟨S, 1, none⟩ = some (.map (some mb)) := H.assoc.sw.assoc.cell 1 rfl
  have hS := H.assoc.sw.assoc.rec_.1
  have hl := fun nq => ((HA.drewN nq).drop.assoc.drop.assoc.drop.assoc).look Try.kI Try.underlying43 (zeroP _) hwf true
  have HL := Lib.hid HA
  have HH := Lib.hid HA.drop
  have HW := Lib.hid hwf
  clear H HA HS hwf
  have HN := Lib.hid hg
  rw [getM_adr] at hl
  rw [hg] at hl
  simp only [Option.map_none] at hl
  clear hg
  go_enter Try.func9, Try.ntmps9
  go_wp2_with fail
  all_goals first | (exfalso; omega) | skip
  go_quiet (fail)
  go_wp2_with fail
  all_goals first | (exfalso; omega) | skip
  have hmm := @run_makeMap Try.prog
  obtain ⟨TT, hTT⟩ : ∃ TT, TT = w.heap.size := ⟨_, rfl⟩
  refine region_in (W := W) (HL.out.drewN _) fun w1 H1 => ?_
  rw [← hTT] at H1 ⊢
  clear hTT
  obtain ⟨St, hne, F, hF, hFC⟩ := fact_class (fun w' => w'.cell? ⟨S, 1, none⟩ = some (.map (some mb)) ∧ w'.cell? ⟨TT, 1, none⟩ = some (.int .i64 tb) ∧ w'.cell? ⟨TT, 3, none⟩ = some (.int .i64 tv)) (w := w1) ⟨H1.drop.assoc.sw.assoc.cell 1 rfl, H1.cell 1 rfl, H1.cell 3 rfl⟩
  have g0 : ∀ s, (F s).cell? ⟨S, 1, none⟩ = some (.map (some mb)) := fun s => (hF s).1
  have g1 : ∀ s, (F s).cell? ⟨TT, 1, none⟩ = some (.int .i64 tb) := fun s => (hF s).2.1
  have g2 : ∀ s, (F s).cell? ⟨TT, 3, none⟩ = some (.int .i64 tv) := fun s => (hF s).2.2
  have HFC := Lib.hid hFC
  clear hF hFC
  refine wp_region_ord (fun j => j == 8 || j == 10) 11 [0, 1, 2, 3, 4, 5, 6, 7, 8, 9, 10] (beginC W (FT ⟨1, tb, tw, tv⟩) TT tv _) (by kernel_rfl) (by kernel_rfl) (H1.drawn _) ?_
  repeat (refine gWalk_val (fun w' => ∃ s, w' = F s) rfl rfl rfl rfl (fun us w' h => by obtain ⟨X, h⟩ := h.owned; exact HFC.out _ ⟨h.assoc.drop.assoc.assoc.sw.assoc.cell 1 rfl, h.assoc.cell 1 rfl, h.assoc.cell 3 rfl⟩) (fun K hK => ?_); simp only [List.getElem_toArray, List.getElem_cons_zero, List.getElem_cons_succ]; go_big_quiet_op; refine hK _ ?_; clear hK K)
  refine gWalk_effR (fun u => ∃ b, u = .map (some b)) (fun w => .map (some w.heap.size)) (fun w => w.alloc (.map #[] 0)) rfl rfl rfl (fun w' => ?_) (fun w' hC => ⟨⟨_, rfl⟩, _, rfl, Sat.mapAlloc hC _ _ _ _⟩) ?_
  · simp only [List.getElem_toArray, List.getElem_cons_zero, List.getElem_cons_succ]
    go_simp
  rintro _ ⟨b, rfl⟩
  simp only [List.getElem_toArray, List.getElem_cons_zero, List.getElem_cons_succ, Act.put, List.setIfInBounds_toArray, List.set_cons_succ, List.set_cons_zero]
  repeat (refine gWalk_val (fun w' => ∃ s, w' = F s) rfl rfl rfl rfl (fun us w' h => by obtain ⟨X, h⟩ := h.owned; exact HFC.out _ ⟨h.assoc.drop.assoc.assoc.sw.assoc.cell 1 rfl, h.assoc.cell 1 rfl, h.assoc.cell 3 rfl⟩) (fun K hK => ?_); simp only [List.getElem_toArray, List.getElem_cons_zero, List.getElem_cons_succ]; go_big_quiet_op; refine hK _ ?_; clear hK K)
  refine gWalk_effR (fun u => ∃ ad, u = vptr ad) (fun w => vptr w.heap.size) (fun w => w.alloc (.cells #[.int .i64 tv, .int .i64 0, .int .i64 0, .int .i64 0, .bool false, .map (some b)] 51)) rfl rfl rfl (fun w' => ?_) (fun w' hC => ?_) ?_
  · simp only [List.getElem_toArray, List.getElem_cons_zero, List.getElem_cons_succ]
    go_simp
  · obtain ⟨b', hb', hC⟩ := hC
    cases hb'
    exact ⟨⟨_, rfl⟩, _, _, rfl, rfl, Sat.alloc hC _ _ _ rfl⟩
  rintro _ ⟨ad, rfl⟩
  simp only [List.getElem_toArray, List.getElem_cons_zero, List.getElem_cons_succ, Act.put, List.setIfInBounds_toArray, List.set_cons_succ, List.set_cons_zero]
  rintro w2 ⟨b', ad', hb', had', H2⟩
  cases hb'
  cases had'
  simp only [List.drop_succ_cons, List.drop_zero]
  have H2' := H2.up2.drop
  unfold MachAt at H2'
  have H3 := Lib.hid (show Sat W w2 (allHp mb (adr bms) * (Hp.own FV 3 (.slice (some ⟨g, o, none⟩) vs.length cap) vs * (recS S (.slice (some ⟨g, o, none⟩) vs.length cap) (.map (some mb)) vc vf vch * (Hp.own FB 2 vf fl * (Hp.own FB 2 vch ch * (Hp.big balHp bms * (Hp.rec_ ad (RB (newB tv) b) * (tkHp b [] * R)))))))) from H2'.cast (by ac_rfl))
  have hal := adr_len bms
  clear H2 H2' H1
  go_wp2_with (at_mapUpdate; refine wpList_storeH (vf := vptr) rfl _ _ _ 43 rfl Try.underlying43 Try.kI (intKey .i64) tb ad rfl rfl rfl HW.out H3.out (by unfold maxLen; omega) ?_; intro w3 H4 _)
  go_ret
  refine ⟨rfl, ad, b, ?_⟩
  have hN2 : getM (adr bms) tb = none := by rw [getM_adr, HN.out]; rfl
  rw [putM_none hN2] at H4
  unfold MachAt
  rw [show adr (bms ++ [(tb, ⟨ad, b, newB tv⟩)]) = adr bms ++ [(tb, ad)] by simp [adr], Hp.big_append]
  have hbig : Hp.big balHp [(tb, (⟨ad, b, newB tv⟩ : BM))] = Hp.rec_ ad (RB (newB tv) b) * tkHp b [] := by simp only [Hp.big]; rw [Hp.mul_one]; rfl
  rw [hbig]
  unfold allHp
  exact H4.cast (by ac_rfl)

set_option maxHeartbeats 2000000 in
theorem step_ask {W w : World} {S g o cap mb : Nat} {vc vf vch : Value} {vs : List Vt} {t : Tr} {bms : List (Int × BM)} {fl ch : List (Int × Int)} {R : Hp}
    (H : Sat W w (MachAt S g o cap mb vc vf vch vs bms fl ch * R)) (hk : t.kind = 2) (hwf : (Lit.int .i64 t.ballot).wf = true) (hb : 1 ≤ t.ballot ∧ t.ballot ≤ 1000) {a : BM} {i j : Nat} {v : Vt} (hg : getM bms t.ballot = some a) (hw : t.who = i) (hj : bms[j]? = some (t.ballot, a)) (hi : vs[i]? = some v) (hp : a.bl.pr ≤ 200) (hfl : fl.length ≤ 1000) :
    Calls Try.prog 9 #[.pointer (some ⟨S, 0, none⟩), vT t] w fun e w' => e = .returned (.int .i64 (askS vs.length t.ballot v a.bl fl).1) ∧ ∃ vf', Sat W w' (MachAt S g o cap mb vc vf' vch (vs.set i (askS vs.length t.ballot v a.bl fl).2.1) (bms.set j (t.ballot, { a with bl := (askS vs.length t.ballot v a.bl fl).2.2.1 })) (askS vs.length t.ballot v a.bl fl).2.2.2 ch * R) := by
  obtain ⟨h1, h2⟩ := hb
  obtain ⟨tk, tb, tw, tv⟩ := t
  simp only at hk hg hw
  subst hk
  subst hw
  have hlt := (List.getElem?_eq_some_iff.1 hi).1
  have i0 : (0 : Int) ≤ (i : Int) := by omega
  have i1 : (i : Int) < (vs.length : Int) := by omega
  have hw1 : decide ((i : Int) < 0) = false := decide_eq_false (by omega)
  have hw2 : decide ((vs.length : Int) ≤ (i : Int)) = false := decide_eq_false (by omega)
  have HJ := Lib.hid hj
  have HI := Lib.hid hi
  clear hj hi
  have HA := H.alloc #[.int .i64 2, .int .i64 tb, .int .i64 i, .int .i64 tv] 34 (FT ⟨2, tb, i, tv⟩) rfl
  have HS := HA.drop.assoc.sw.assoc
  have s0 : w.cell? ⟨S, 0, none⟩ = some (.slice (some ⟨g, o, none⟩) vs.length cap) := H.assoc.sw.assoc.cell 0 rfl
  have s1 : w.cell? ⟨S, 1, none⟩ = some (.map (some mb)) := H.assoc.sw.assoc.cell 1 rfl
  have hS := H.assoc.sw.assoc.rec_.1
  have hl := fun nq => ((HA.drewN nq).drop.assoc.drop.assoc.drop.assoc).look Try.kI Try.underlying43 (zeroP _) hwf true
  have HL := Lib.hid HA
  have HH := Lib.hid HA.drop
  have HW := Lib.hid hwf
  clear H HA HS hwf
  rw [getM_adr] at hl
  rw [hg] at hl
  simp only [Option.map_some, if_true] at hl
  have HG := Lib.hid hg
  clear hg
  go_enter Try.func9, Try.ntmps9
  go_wp2_with fail
  all_goals first | (exfalso; omega) | skip
  go_quiet (fail)
  go_wp2_with fail
  all_goals first | (exfalso; omega) | skip
  go_quiet (fail)
  go_wp2_with fail
  all_goals first | (exfalso; omega) | skip
  obtain ⟨TT, hTT⟩ : ∃ TT, TT = w.heap.size := ⟨_, rfl⟩
  refine region_in (W := W) (HL.out.drewN _) fun w1 H1 => ?_
  rw [← hTT] at H1 ⊢
  clear hTT
  obtain ⟨St, hne, F, hF, hFC⟩ := fact_class (fun w' => w'.cell? ⟨S, 0, none⟩ = some (.slice (some ⟨g, o, none⟩) vs.length cap) ∧ w'.cell? ⟨TT, 1, none⟩ = some (.int .i64 tb) ∧ w'.cell? ⟨TT, 2, none⟩ = some (.int .i64 i)) (w := w1) ⟨H1.drop.assoc.sw.assoc.cell 0 rfl, H1.cell 1 rfl, H1.cell 2 rfl⟩
  have g0 : ∀ s, (F s).cell? ⟨S, 0, none⟩ = some (.slice (some ⟨g, o, none⟩) vs.length cap) := fun s => (hF s).1
  have g1 : ∀ s, (F s).cell? ⟨TT, 1, none⟩ = some (.int .i64 tb) := fun s => (hF s).2.1
  have g2 : ∀ s, (F s).cell? ⟨TT, 2, none⟩ = some (.int .i64 i) := fun s => (hF s).2.2
  have HFC := Lib.hid hFC
  clear hF hFC
  refine wp_region_ord (fun _ => false) 11 [0, 1, 2, 3, 4, 5, 6, 7, 8, 9, 10] (fun _ w' => Sat W w' _) (by kernel_rfl) (by kernel_rfl) (H1.drawn _) ?_
  repeat (refine gWalk_val (fun w' => ∃ s, w' = F s) rfl rfl rfl rfl (fun us w' h => HFC.out _ ⟨(Sat.drop h).assoc.sw.assoc.cell 0 rfl, Sat.cell h 1 rfl, Sat.cell h 2 rfl⟩) (fun K hK => ?_); simp only [List.getElem_toArray, List.getElem_cons_zero, List.getElem_cons_succ]; go_big_quiet_op; refine hK _ ?_; clear hK K)
  intro w2 H2
  simp only [List.drop_succ_cons, List.drop_zero]
  have H3 := H2.drop
  clear H1 H2
  go_wp2_with (go_at_call 10; (with_reducible refine (ask_any H3 HJ.out HI.out (by assumption) (by assumption)).mono ?_); rintro e w' ⟨rfl, v', H4⟩; have H5 := Lib.hid H4; clear H4 H3)
  go_ret
  exact ⟨rfl, v', H5.out⟩

set_option maxHeartbeats 2000000 in
theorem step_take {W w : World} {S g o cap mb : Nat} {vc vf vch : Value} {vs : List Vt} {t : Tr} {bms : List (Int × BM)} {fl ch : List (Int × Int)} {R : Hp}
    (H : Sat W w (MachAt S g o cap mb vc vf vch vs bms fl ch * R)) (hk : t.kind = 3) (hwf : (Lit.int .i64 t.ballot).wf = true) (hb : 1 ≤ t.ballot ∧ t.ballot ≤ 1000) {a : BM} {i j : Nat} {v : Vt} (hg : getM bms t.ballot = some a) (hw : t.who = i) (hj : bms[j]? = some (t.ballot, a)) (hi : vs[i]? = some v) (hp : a.bl.tk.length ≤ 200) (hch : ch.length ≤ 1000) (hn : vs.length ≤ 5) :
    Calls Try.prog 9 #[.pointer (some ⟨S, 0, none⟩), vT t] w fun e w' => e = .returned (.int .i64 (takeS vs.length t.ballot i v a.bl ch).1) ∧ ∃ vch', Sat W w' (MachAt S g o cap mb vc vf vch' (vs.set i (takeS vs.length t.ballot i v a.bl ch).2.1) (bms.set j (t.ballot, { a with bl := (takeS vs.length t.ballot i v a.bl ch).2.2.1 })) fl (takeS vs.length t.ballot i v a.bl ch).2.2.2 * R) := by
  obtain ⟨h1, h2⟩ := hb
  obtain ⟨tk, tb, tw, tv⟩ := t
  simp only at hk hg hw
  subst hk
  subst hw
  have hlt := (List.getElem?_eq_some_iff.1 hi).1
  have i0 : (0 : Int) ≤ (i : Int) := by omega
  have i1 : (i : Int) < (vs.length : Int) := by omega
  have hw1 : decide ((i : Int) < 0) = false := decide_eq_false (by omega)
  have hw2 : decide ((vs.length : Int) ≤ (i : Int)) = false := decide_eq_false (by omega)
  have HJ := Lib.hid hj
  have HI := Lib.hid hi
  clear hj hi
  have HA := H.alloc #[.int .i64 3, .int .i64 tb, .int .i64 i, .int .i64 tv] 34 (FT ⟨3, tb, i, tv⟩) rfl
  have HS := HA.drop.assoc.sw.assoc
  have s0 : w.cell? ⟨S, 0, none⟩ = some (.slice (some ⟨g, o, none⟩) vs.length cap) := H.assoc.sw.assoc.cell 0 rfl
  have s1 : w.cell? ⟨S, 1, none⟩ = some (.map (some mb)) := H.assoc.sw.assoc.cell 1 rfl
  have hS := H.assoc.sw.assoc.rec_.1
  have hl := fun nq => ((HA.drewN nq).drop.assoc.drop.assoc.drop.assoc).look Try.kI Try.underlying43 (zeroP _) hwf true
  have HL := Lib.hid HA
  have HH := Lib.hid HA.drop
  have HW := Lib.hid hwf
  clear H HA HS hwf
  rw [getM_adr] at hl
  rw [hg] at hl
  simp only [Option.map_some, if_true] at hl
  have HG := Lib.hid hg
  clear hg
  go_enter Try.func9, Try.ntmps9
  go_wp2_with fail
  all_goals first | (exfalso; omega) | skip
  go_quiet (fail)
  go_wp2_with fail
  all_goals first | (exfalso; omega) | skip
  go_quiet (fail)
  go_wp2_with (go_at_call 11; (with_reducible refine (take_any (HH.out.drewN _) HJ.out HI.out (by assumption) (by assumption) (by assumption)).mono ?_); rintro e w' ⟨rfl, v', H4⟩; have H5 := Lib.hid H4; clear H4)
  all_goals first | (exfalso; omega) | skip
  go_ret
  exact ⟨rfl, v', H5.out⟩


end Go.Proofs.Ytbakeeempbadcaa
