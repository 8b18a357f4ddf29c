/- A script played. The walk. No condition. -/
import Derived.Test.YteejbaindbiimaaA4
namespace Go.Proofs.Yteejbaindbiimaa
open Go.RowKit
set_option linter.unusedVariables false
set_option linter.unusedSimpArgs false
set_option maxRecDepth 100000

structure BdR (t : Nat) (s : RS) : Prop where
  sent : s.sent ≤ t
  ch : s.ch.length ≤ t
  q : ∀ x ∈ s.ss, x.q.length ≤ t
theorem BdR.mono {t t' : Nat} {s : RS} (h : BdR t s) (ht : t ≤ t') : BdR t' s := ⟨Nat.le_trans h.sent ht, Nat.le_trans h.ch ht, fun x hx => Nat.le_trans (h.q x hx) ht⟩
theorem upS_mem {l : List Se} {i : Nat} {f : Se → Se} {y : Se} (h : y ∈ upS l i f) : y ∈ l ∨ ∃ x, l[i]? = some x ∧ y = f x := by
  unfold upS at h
  split at h
  · rename_i x hx
    rcases List.mem_or_eq_of_mem_set h with h | h
    · exact .inl h
    · exact .inr ⟨x, hx, h⟩
  · exact .inl h
theorem BdR.send {t i : Nat} {a : Int} {s : RS} (h : BdR t s) : BdR (t + 1) (sendR s i a) := by
  refine ⟨Nat.succ_le_succ h.sent, Nat.le_succ_of_le h.ch, fun x hx => ?_⟩
  have h1 : ∀ y ∈ upS s.ss i (fun x => { x with pt := true }), y.q.length ≤ t := fun y hy => by
    rcases upS_mem hy with h2 | ⟨z, hz, rfl⟩
    · exact h.q y h2
    · exact h.q z (List.mem_of_getElem? hz)
  rcases upS_mem hx with h2 | ⟨z, hz, rfl⟩
  · exact Nat.le_succ_of_le (h1 x h2)
  · have := h1 z (List.mem_of_getElem? hz)
    show (z.q ++ [a]).length ≤ t + 1
    simp; omega
theorem BdR.cut {t i : Nat} {s : RS} {x : Se} {a : Int} {l : List Int} (h : BdR t s) (hx : s.ss[i]? = some x) (hq : x.q = a :: l) : BdR t ⟨upS s.ss i (fun x => { x with q := l }), s.ch, s.sent⟩ := ⟨h.sent, h.ch, fun y hy => by
  rcases upS_mem hy with h2 | ⟨z, hz, rfl⟩
  · exact h.q y h2
  · have := h.q x (List.mem_of_getElem? hx)
    rw [hq] at this; simp at this ⊢; omega⟩
theorem BdR.step {t : Nat} {s : RS} (c : Mv) (h : BdR t s) : BdR (t + 1) (stepR s c).2 := by
  have h1 := h.mono (Nat.le_succ t)
  unfold stepR
  split
  · exact h1
  split
  · exact h1
  split
  · unfold takeR
    split
    · exact h1
    rename_i x hx
    split
    · exact h1
    rename_i a l hq
    have h2 := h.cut hx hq
    split
    · exact h2.send
    split
    · exact ⟨Nat.le_succ_of_le h2.sent, by show (s.ch ++ [_]).length ≤ t + 1; have := h.ch; simp; omega, fun y hy => Nat.le_succ_of_le (h2.q y hy)⟩
    split
    · exact h2.send
    · exact h2.mono (Nat.le_succ t)
  · split
    · exact h1
    · split
      · exact h1
      · exact h.send
theorem BdR.zero (names : List Int) : BdR 0 (rs0 names) := ⟨Nat.le_refl _, Nat.le_refl _, fun x hx => by obtain ⟨y, _, rfl⟩ := List.mem_map.1 hx; exact Nat.le_refl _⟩
theorem BdR.run : ∀ (l : List Mv) {t : Nat} {s : RS}, BdR t s → BdR (t + l.length) (stR s l)
  | [], t, s, h => h
  | c :: l, t, s, h => (BdR.run l (h.step c)).mono (by simp; omega)
theorem sendR_len (s : RS) (i : Nat) (a : Int) : (sendR s i a).ss.length = s.ss.length := by unfold sendR; dsimp only; rw [upS_len, upS_len]
theorem stepR_len (s : RS) (c : Mv) : (stepR s c).2.ss.length = s.ss.length := by
  unfold stepR takeR
  repeat' split
  all_goals first | rfl | (rw [sendR_len]; done) | (rw [sendR_len]; exact upS_len ..) | exact upS_len ..
theorem stR_len : ∀ (l : List Mv) (s : RS), (stR s l).ss.length = s.ss.length
  | [], s => rfl
  | c :: l, s => by simp only [stR]; rw [stR_len l, stepR_len]
theorem stR_snoc {l : List Mv} {i : Nat} {c : Mv} {s : RS} (h : l[i]? = some c) : stR s (l.take (i + 1)) = (stepR (stR s (l.take i)) c).2 := by
  rw [take_of h, stR_app]; rfl
theorem codesR_snoc {l : List Mv} {i : Nat} {c : Mv} {s : RS} (h : l[i]? = some c) : codesR s (l.take (i + 1)) = codesR s (l.take i) ++ [(stepR (stR s (l.take i)) c).1] := by
  rw [take_of h, codesR_app]; rfl
/-- what is on its way from the first k seats -/
def awayR (l : List Se) : Nat → Nat
  | 0 => 0
  | k + 1 => awayR l k + match l[k]? with
    | some x => x.q.length
    | none => 0
theorem awayR_succ {l : List Se} {k : Nat} {x : Se} (h : l[k]? = some x) : awayR l (k + 1) = awayR l k + x.q.length := by simp only [awayR, h]
theorem awayR_le {l : List Se} {t : Nat} (h : ∀ x ∈ l, x.q.length ≤ t) : ∀ k, awayR l k ≤ k * t
  | 0 => by simp [awayR]
  | k + 1 => by
    have := awayR_le h k
    simp only [awayR]
    rw [Nat.succ_mul]
    split
    · rename_i x hx
      have := h x (List.mem_of_getElem? hx); omega
    · omega
section
variable {c : Cx} {m : List (Nat × Value)} {l l' : List Hp} {o : Oper} {x y : Operand} {v : Value} {T : TypeId}
theorem cell_world {k S : Nat} {cv : Value} {s : RS} (hk : l[k]? = some (worldH S cv s)) : Cell c l S 1 cv := fun w H => by
  obtain ⟨pv, chv, pms, h1, H1⟩ := worldH.open_ (H.at_ hk)
  exact (H1.at_ (k := 0) rfl).cell 1 rfl
theorem eff_storeW {k S : Nat} {cv : Value} {s : RS} (ho : o.op = .store 24 x y) (hx : evo m x = some (ptr S 1)) (hy : evo m y = some v) (hv : IsS v) (hk : l[k]? = some (worldH S cv s)) (hl : l.set k (worldH S v s) = l') : Eff Try.prog c m l o (fun _ l'' => l'' = l') := fun a w sl H => by
  obtain ⟨pv, chv, pms, h1, H1⟩ := worldH.open_ (H.at_ hk)
  have h2 := eff_store (l := [recS S pv cv chv s.sent, Hp.own FP 1 pv (pms.map Pm.b), Hp.big seatH pms, Hp.own FN 1 chv s.ch, sep (l.eraseIdx k)]) ho Try.ty24 hx hy hv.cellsL rfl hv.all (k := 0) rfl rfl rfl rfl a w sl H1
  refine h2.mono ?_
  rintro u w' ⟨l2, rfl, H2⟩
  have H3 := worldH.shut h1 H2
  exact ⟨l', rfl, Sat.back hk hl (H3.cast (by rw [sep1]))⟩
end
theorem play_no1 {W : World} {nv sv : Value} {names : List Int} {cs : List Mv} (hm : SlS SZ 1 W nv names) (hs : SlS FM 2 W sv cs) (hbad : names.length = 0 ∨ 6 < names.length ∨ 120 < cs.length) :
    Calls Try.prog 7 #[nv, sv] W fun e w' => e = .returned (.tuple #[.agg #[.slice none 0 0, .slice none 0 0, .int .i64 0, .int .i64 0], .int .i64 1]) ∧ Below W.heap.size W w' := by
  refine calls_pure (Gx.enter (l := []) Try.func7 rfl Try.ntmps7 rfl (Sat.start W) ?_)
  refine Gx.know (m' := [(0, nv), (1, sv)]) (.cons rfl (.cons rfl .nil)) ?_
  refine Gx.seq ?_
  refine Gx.region ?_
  refine Gx.eff rfl rfl rfl (eff_alloc rfl Try.ty26 (vs := [.slice none 0 0, .slice none 0 0, .int .i64 0, .int .i64 0]) rfl) ?_
  rintro _ _ ⟨b1, rfl, rfl⟩
  refine Gx.val rfl rfl rfl (val_assign rfl rfl) ?_
  refine Gx.done ?_
  refine Gx.thenN ?_
  refine Gx.seq ?_
  refine Gx.seq ?_
  refine Gx.region ?_
  refine Gx.val rfl rfl rfl (val_move rfl rfl) ?_
  refine Gx.val rfl rfl rfl (val_len rfl Try.underlying22 rfl (len_base hm)) ?_
  refine Gx.val rfl rfl rfl (val_eql rfl rfl rfl) ?_
  refine Gx.val rfl rfl rfl (val_move rfl rfl) ?_
  refine Gx.cases (t := 17) rfl (fun h2 => ?_) (fun h2 => ?_)
  · refine Gx.skipg rfl rfl rfl rfl rfl rfl ?_
    refine Gx.skipg rfl rfl rfl rfl rfl rfl ?_
    refine Gx.skipg rfl rfl rfl rfl rfl rfl ?_
    refine Gx.val rfl rfl rfl (val_pickT rfl rfl rfl) ?_
    refine Gx.val rfl rfl rfl (val_move rfl rfl) ?_
    refine Gx.skipg rfl rfl rfl rfl rfl rfl ?_
    refine Gx.skipg rfl rfl rfl rfl rfl rfl ?_
    refine Gx.skipg rfl rfl rfl rfl rfl rfl ?_
    refine Gx.val rfl rfl rfl (val_pickT rfl rfl rfl) ?_
    refine Gx.done ?_
    refine Gx.thenN ?_
    refine Gx.t rfl ?_
    refine Gx.seq ?_
    refine Gx.region ?_
    refine Gx.val rfl rfl rfl (val_build rfl (qs := []) rfl rfl (fun w => by go_simp) (v := .agg #[.slice none 0 0, .slice none 0 0, .int .i64 0, .int .i64 0])) ?_
    refine Gx.eff0 rfl rfl (eff_store rfl Try.ty26 rfl rfl (us := [.slice none 0 0, .slice none 0 0, .int .i64 0, .int .i64 0]) rfl rfl rfl (k := 0) rfl (rfl) (vs' := [.slice none 0 0, .slice none 0 0, .int .i64 0, .int .i64 0]) (rfl) (l' := [Hp.rec_ b1 [.slice none 0 0, .slice none 0 0, .int .i64 0, .int .i64 0]]) rfl) ?_
    rintro _ _ rfl
    refine Gx.val rfl rfl rfl (val_assign rfl rfl) ?_
    refine Gx.done ?_
    refine Gx.thenN ?_
    refine Gx.ret ?_
    refine Gx.thenR ?_
    refine Gx.retC2 Try.results7 Try.ty26 rfl rfl (us := [.slice none 0 0, .slice none 0 0, .int .i64 0, .int .i64 0]) rfl (k := 0) rfl rfl ?_
    rfl
  · refine Gx.valg rfl rfl rfl rfl rfl (val_move rfl rfl) ?_
    refine Gx.valg rfl rfl rfl rfl rfl (val_len rfl Try.underlying22 rfl (len_base hm)) ?_
    refine Gx.valg rfl rfl rfl rfl rfl (val_gtr rfl rfl rfl) ?_
    refine Gx.val rfl rfl rfl (val_pickF rfl rfl rfl) ?_
    refine Gx.val rfl rfl rfl (val_move rfl rfl) ?_
    refine Gx.cases (t := 22) rfl (fun h3 => ?_) (fun h3 => ?_)
    · refine Gx.skipg rfl rfl rfl rfl rfl rfl ?_
      refine Gx.skipg rfl rfl rfl rfl rfl rfl ?_
      refine Gx.skipg rfl rfl rfl rfl rfl rfl ?_
      refine Gx.val rfl rfl rfl (val_pickT rfl rfl rfl) ?_
      refine Gx.done ?_
      refine Gx.thenN ?_
      refine Gx.t rfl ?_
      refine Gx.seq ?_
      refine Gx.region ?_
      refine Gx.val rfl rfl rfl (val_build rfl (qs := []) rfl rfl (fun w => by go_simp) (v := .agg #[.slice none 0 0, .slice none 0 0, .int .i64 0, .int .i64 0])) ?_
      refine Gx.eff0 rfl rfl (eff_store rfl Try.ty26 rfl rfl (us := [.slice none 0 0, .slice none 0 0, .int .i64 0, .int .i64 0]) rfl rfl rfl (k := 0) rfl (rfl) (vs' := [.slice none 0 0, .slice none 0 0, .int .i64 0, .int .i64 0]) (rfl) (l' := [Hp.rec_ b1 [.slice none 0 0, .slice none 0 0, .int .i64 0, .int .i64 0]]) rfl) ?_
      rintro _ _ rfl
      refine Gx.val rfl rfl rfl (val_assign rfl rfl) ?_
      refine Gx.done ?_
      refine Gx.thenN ?_
      refine Gx.ret ?_
      refine Gx.thenR ?_
      refine Gx.retC2 Try.results7 Try.ty26 rfl rfl (us := [.slice none 0 0, .slice none 0 0, .int .i64 0, .int .i64 0]) rfl (k := 0) rfl rfl ?_
      rfl
    · refine Gx.valg rfl rfl rfl rfl rfl (val_move rfl rfl) ?_
      refine Gx.valg rfl rfl rfl rfl rfl (val_len rfl Try.underlying23 rfl (len_base hs)) ?_
      refine Gx.valg rfl rfl rfl rfl rfl (val_gtr rfl rfl rfl) ?_
      refine Gx.val rfl rfl rfl (val_pickF rfl rfl rfl) ?_
      refine Gx.done ?_
      refine Gx.thenN ?_
      refine Gx.dec rfl (fun h4 => ?_) (fun h4 => ?_)
      · refine Gx.seq ?_
        refine Gx.region ?_
        refine Gx.val rfl rfl rfl (val_build rfl (qs := []) rfl rfl (fun w => by go_simp) (v := .agg #[.slice none 0 0, .slice none 0 0, .int .i64 0, .int .i64 0])) ?_
        refine Gx.eff0 rfl rfl (eff_store rfl Try.ty26 rfl rfl (us := [.slice none 0 0, .slice none 0 0, .int .i64 0, .int .i64 0]) rfl rfl rfl (k := 0) rfl (rfl) (vs' := [.slice none 0 0, .slice none 0 0, .int .i64 0, .int .i64 0]) (rfl) (l' := [Hp.rec_ b1 [.slice none 0 0, .slice none 0 0, .int .i64 0, .int .i64 0]]) rfl) ?_
        rintro _ _ rfl
        refine Gx.val rfl rfl rfl (val_assign rfl rfl) ?_
        refine Gx.done ?_
        refine Gx.thenN ?_
        refine Gx.ret ?_
        refine Gx.thenR ?_
        refine Gx.retC2 Try.results7 Try.ty26 rfl rfl (us := [.slice none 0 0, .slice none 0 0, .int .i64 0, .int .i64 0]) rfl (k := 0) rfl rfl ?_
        rfl
      · exfalso; omega

theorem play_no3 {W : World} {nv sv : Value} {names : List Int} {cs : List Mv} (hm : SlS SZ 1 W nv names) (hs : SlS FM 2 W sv cs) (hok : ¬ (names.length = 0 ∨ 6 < names.length ∨ 120 < cs.length)) (hbad : ¬ names.Nodup) :
    Calls Try.prog 7 #[nv, sv] W fun e w' => e = .returned (.tuple #[.agg #[.slice none 0 0, .slice none 0 0, .int .i64 0, .int .i64 0], .int .i64 3]) ∧ Below W.heap.size W w' := by
  refine calls_pure (Gx.enter (l := []) Try.func7 rfl Try.ntmps7 rfl (Sat.start W) ?_)
  refine Gx.know (m' := [(0, nv), (1, sv)]) (.cons rfl (.cons rfl .nil)) ?_
  refine Gx.seq ?_
  refine Gx.region ?_
  refine Gx.eff rfl rfl rfl (eff_alloc rfl Try.ty26 (vs := [.slice none 0 0, .slice none 0 0, .int .i64 0, .int .i64 0]) rfl) ?_
  rintro _ _ ⟨b1, rfl, rfl⟩
  refine Gx.val rfl rfl rfl (val_assign rfl rfl) ?_
  refine Gx.done ?_
  refine Gx.thenN ?_
  refine Gx.seq ?_
  refine Gx.seq ?_
  refine Gx.region ?_
  refine Gx.val rfl rfl rfl (val_move rfl rfl) ?_
  refine Gx.val rfl rfl rfl (val_len rfl Try.underlying22 rfl (len_base hm)) ?_
  refine Gx.val rfl rfl rfl (val_eql rfl rfl rfl) ?_
  refine Gx.val rfl rfl rfl (val_move rfl rfl) ?_
  refine Gx.slot (t := 17) (v := .bool false) (look_decF rfl (by omega)) ?_
  refine Gx.valg rfl rfl rfl rfl rfl (val_move rfl rfl) ?_
  refine Gx.valg rfl rfl rfl rfl rfl (val_len rfl Try.underlying22 rfl (len_base hm)) ?_
  refine Gx.valg rfl rfl rfl rfl rfl (val_gtr rfl rfl rfl) ?_
  refine Gx.val rfl rfl rfl (val_pickF rfl rfl rfl) ?_
  refine Gx.val rfl rfl rfl (val_move rfl rfl) ?_
  refine Gx.slot (t := 22) (v := .bool false) (look_decF rfl (by omega)) ?_
  refine Gx.valg rfl rfl rfl rfl rfl (val_move rfl rfl) ?_
  refine Gx.valg rfl rfl rfl rfl rfl (val_len rfl Try.underlying23 rfl (len_base hs)) ?_
  refine Gx.valg rfl rfl rfl rfl rfl (val_gtr rfl rfl rfl) ?_
  refine Gx.val rfl rfl rfl (val_pickF rfl rfl rfl) ?_
  refine Gx.done ?_
  refine Gx.thenN ?_
  refine Gx.decF rfl (by omega) ?_
  refine Gx.skip ?_
  refine Gx.thenN ?_
  refine Gx.seq ?_
  refine Gx.region ?_
  refine Gx.val rfl rfl rfl (val_move rfl rfl) ?_
  refine Gx.eff rfl rfl rfl (eff_call (vs := [nv]) rfl Try.fn12 rfl (fun w H => clone_any hm (by omega) (by omega) H)) ?_
  rintro _ l3 ⟨cv2, hicv2, rfl, hl3⟩
  refine Gx.sepEq (l' := [Hp.own SZ 1 cv2 names, Hp.rec_ b1 [.slice none 0 0, .slice none 0 0, .int .i64 0, .int .i64 0]]) hl3 ?_
  refine Gx.val rfl rfl rfl (val_assign rfl rfl) ?_
  refine Gx.done ?_
  refine Gx.thenN ?_
  refine Gx.seq ?_
  refine Gx.region ?_
  refine Gx.val rfl rfl rfl (val_move rfl rfl) ?_
  refine Gx.eff rfl rfl rfl (eff_call (vs := [cv2]) rfl Try.fn13 rfl (fun w H => sort_c (by omega) (by omega) (H.at_ (k := 0) rfl))) ?_
  rintro _ l4 ⟨u9, ys, hperm, hsrt, rfl, hl4⟩
  refine Gx.sepEq (l' := [Hp.own SZ 1 cv2 ys, Hp.rec_ b1 [.slice none 0 0, .slice none 0 0, .int .i64 0, .int .i64 0]]) hl4 ?_
  refine Gx.done ?_
  refine Gx.thenN ?_
  refine Gx.seq ?_
  refine Gx.seq ?_
  have hyl := hperm.length_eq
  obtain ⟨j0, hj0, hdd⟩ := dup_next hsrt (fun h => hbad (hperm.nodup_iff.1 h))
  refine Gx.region ?_
  refine Gx.val rfl rfl rfl (val_move rfl rfl) ?_
  refine Gx.eff rfl rfl rfl (eff_call (vs := [cv2]) rfl Try.fn14 rfl (fun w H => compact_no (by omega) hicv2 hj0 hdd (H.at_ (k := 0) rfl))) ?_
  rintro _ l5 ⟨k9, zs, hk9, rfl, hl5⟩
  refine Gx.sepEq (l' := [Hp.own SZ 1 cv2 zs, Hp.rec_ b1 [.slice none 0 0, .slice none 0 0, .int .i64 0, .int .i64 0]]) hl5 ?_
  refine Gx.val rfl rfl rfl (val_len rfl Try.underlying22 rfl (len_cutO (f := SZ) (sz := 1) (v := cv2) (lo := 0) (up := k9) (k := 0) rfl)) ?_
  refine Gx.val rfl rfl rfl (val_move rfl rfl) ?_
  refine Gx.val rfl rfl rfl (val_len rfl Try.underlying22 rfl (len_base hm)) ?_
  refine Gx.val rfl rfl rfl (val_lss rfl rfl rfl) ?_
  refine Gx.done ?_
  refine Gx.thenN ?_
  refine Gx.decT rfl (by omega) ?_
  refine Gx.seq ?_
  refine Gx.region ?_
  refine Gx.val rfl rfl rfl (val_build rfl (qs := []) rfl rfl (fun w => by go_simp) (v := .agg #[.slice none 0 0, .slice none 0 0, .int .i64 0, .int .i64 0])) ?_
  refine Gx.eff0 rfl rfl (eff_store rfl Try.ty26 rfl rfl (us := [.slice none 0 0, .slice none 0 0, .int .i64 0, .int .i64 0]) rfl rfl rfl (k := 1) rfl (rfl) (vs' := [.slice none 0 0, .slice none 0 0, .int .i64 0, .int .i64 0]) (rfl) (l' := [Hp.own SZ 1 cv2 zs, Hp.rec_ b1 [.slice none 0 0, .slice none 0 0, .int .i64 0, .int .i64 0]]) rfl) ?_
  rintro _ _ rfl
  refine Gx.val rfl rfl rfl (val_assign rfl rfl) ?_
  refine Gx.done ?_
  refine Gx.thenN ?_
  refine Gx.ret ?_
  refine Gx.thenR ?_
  refine Gx.retC2 Try.results7 Try.ty26 rfl rfl (us := [.slice none 0 0, .slice none 0 0, .int .i64 0, .int .i64 0]) rfl (k := 1) rfl rfl ?_
  rfl

theorem play_ok {W : World} {nv sv : Value} {names : List Int} {cs : List Mv} (hm : SlS SZ 1 W nv names) (hs : SlS FM 2 W sv cs) (h1 : 1 ≤ names.length) (h6 : names.length ≤ 6) (hcl : cs.length ≤ 120) (hnd : names.Nodup) :
    Calls Try.prog 7 #[nv, sv] W fun e w' => ∃ v, e = .returned v ∧ (∃ (cv chv : Value), v = .tuple #[.agg #[cv, chv, .int .i64 (((stR (rs0 names) cs).sent : Nat) : Int), .int .i64 ((awayR (stR (rs0 names) cs).ss names.length : Nat) : Int)], .int .i64 0] ∧ SlS FZ 1 w' cv (codesR (rs0 names) cs) ∧ SlS FN 1 w' chv (stR (rs0 names) cs).ch) ∧ Below W.heap.size W w' := by
  refine calls_some (S := fun v l => ∃ (cv chv : Value) (P : Hp), v = .tuple #[.agg #[cv, chv, .int .i64 (((stR (rs0 names) cs).sent : Nat) : Int), .int .i64 ((awayR (stR (rs0 names) cs).ss names.length : Nat) : Int)], .int .i64 0] ∧ l = [Hp.own FZ 1 cv (codesR (rs0 names) cs), Hp.own FN 1 chv (stR (rs0 names) cs).ch, P]) (Gx.enter (l := []) Try.func7 rfl Try.ntmps7 rfl (Sat.start W) ?_) ?_
  refine Gx.know (m' := [(0, nv), (1, sv)]) (.cons rfl (.cons rfl .nil)) ?_
  refine Gx.seq ?_
  refine Gx.region ?_
  refine Gx.eff rfl rfl rfl (eff_alloc rfl Try.ty26 (vs := [.slice none 0 0, .slice none 0 0, .int .i64 0, .int .i64 0]) rfl) ?_
  rintro _ _ ⟨b1, rfl, rfl⟩
  refine Gx.val rfl rfl rfl (val_assign rfl rfl) ?_
  refine Gx.done ?_
  refine Gx.thenN ?_
  refine Gx.seq ?_
  refine Gx.seq ?_
  refine Gx.region ?_
  refine Gx.val rfl rfl rfl (val_move rfl rfl) ?_
  refine Gx.val rfl rfl rfl (val_len rfl Try.underlying22 rfl (len_base hm)) ?_
  refine Gx.val rfl rfl rfl (val_eql rfl rfl rfl) ?_
  refine Gx.val rfl rfl rfl (val_move rfl rfl) ?_
  refine Gx.slot (t := 17) (v := .bool false) (look_decF rfl (by omega)) ?_
  refine Gx.valg rfl rfl rfl rfl rfl (val_move rfl rfl) ?_
  refine Gx.valg rfl rfl rfl rfl rfl (val_len rfl Try.underlying22 rfl (len_base hm)) ?_
  refine Gx.valg rfl rfl rfl rfl rfl (val_gtr rfl rfl rfl) ?_
  refine Gx.val rfl rfl rfl (val_pickF rfl rfl rfl) ?_
  refine Gx.val rfl rfl rfl (val_move rfl rfl) ?_
  refine Gx.slot (t := 22) (v := .bool false) (look_decF rfl (by omega)) ?_
  refine Gx.valg rfl rfl rfl rfl rfl (val_move rfl rfl) ?_
  refine Gx.valg rfl rfl rfl rfl rfl (val_len rfl Try.underlying23 rfl (len_base hs)) ?_
  refine Gx.valg rfl rfl rfl rfl rfl (val_gtr rfl rfl rfl) ?_
  refine Gx.val rfl rfl rfl (val_pickF rfl rfl rfl) ?_
  refine Gx.done ?_
  refine Gx.thenN ?_
  refine Gx.decF rfl (by omega) ?_
  refine Gx.skip ?_
  refine Gx.thenN ?_
  refine Gx.seq ?_
  refine Gx.region ?_
  refine Gx.val rfl rfl rfl (val_move rfl rfl) ?_
  refine Gx.eff rfl rfl rfl (eff_call (vs := [nv]) rfl Try.fn12 rfl (fun w H => clone_any hm (by omega) (by omega) H)) ?_
  rintro _ l3 ⟨cv2, hicv2, rfl, hl3⟩
  refine Gx.sepEq (l' := [Hp.own SZ 1 cv2 names, Hp.rec_ b1 [.slice none 0 0, .slice none 0 0, .int .i64 0, .int .i64 0]]) hl3 ?_
  refine Gx.val rfl rfl rfl (val_assign rfl rfl) ?_
  refine Gx.done ?_
  refine Gx.thenN ?_
  refine Gx.seq ?_
  refine Gx.region ?_
  refine Gx.val rfl rfl rfl (val_move rfl rfl) ?_
  refine Gx.eff rfl rfl rfl (eff_call (vs := [cv2]) rfl Try.fn13 rfl (fun w H => sort_c (by omega) (by omega) (H.at_ (k := 0) rfl))) ?_
  rintro _ l4 ⟨u9, ys, hperm, hsrt, rfl, hl4⟩
  refine Gx.sepEq (l' := [Hp.own SZ 1 cv2 ys, Hp.rec_ b1 [.slice none 0 0, .slice none 0 0, .int .i64 0, .int .i64 0]]) hl4 ?_
  refine Gx.done ?_
  refine Gx.thenN ?_
  refine Gx.seq ?_
  refine Gx.seq ?_
  have hyl := hperm.length_eq
  refine Gx.region ?_
  refine Gx.val rfl rfl rfl (val_move rfl rfl) ?_
  refine Gx.eff rfl rfl rfl (eff_call (vs := [cv2]) rfl Try.fn14 rfl (fun w H => compact_yes (by omega) hicv2 (nodup_next (hperm.nodup_iff.2 hnd)) (H.at_ (k := 0) rfl))) ?_
  rintro _ l5 ⟨rfl, hl5⟩
  refine Gx.sepEq (l' := [Hp.own SZ 1 cv2 ys, Hp.rec_ b1 [.slice none 0 0, .slice none 0 0, .int .i64 0, .int .i64 0]]) hl5 ?_
  refine Gx.val rfl rfl rfl (val_len rfl Try.underlying22 rfl (len_own (k := 0) rfl)) ?_
  refine Gx.val rfl rfl rfl (val_move rfl rfl) ?_
  refine Gx.val rfl rfl rfl (val_len rfl Try.underlying22 rfl (len_base hm)) ?_
  refine Gx.val rfl rfl rfl (val_lss rfl rfl rfl) ?_
  refine Gx.done ?_
  refine Gx.thenN ?_
  refine Gx.decF rfl (by omega) ?_
  refine Gx.skip ?_
  refine Gx.thenN ?_
  refine Gx.seq ?_
  refine Gx.region ?_
  refine Gx.val rfl rfl rfl (val_build rfl (qs := []) rfl rfl (fun w => by go_simp) (v := .agg #[.slice none 0 0, .slice none 0 0, .slice none 0 0, .int .i64 0, .int .i64 0])) ?_
  refine Gx.eff rfl rfl rfl (eff_box rfl rfl (vs := [.slice none 0 0, .slice none 0 0, .slice none 0 0, .int .i64 0, .int .i64 0]) rfl) ?_
  rintro _ _ ⟨b6, rfl, rfl⟩
  refine Gx.val rfl rfl rfl (val_assign rfl rfl) ?_
  refine Gx.done ?_
  refine Gx.thenN ?_
  refine Gx.seq ?_
  refine Gx.seq ?_
  refine Gx.drop 1 rfl ?_
  refine Gx.ownNil FP 1 ?_
  refine Gx.emp ?_
  refine Gx.norm (l' := [Hp.big seatH ([] : List Pm), Hp.own FP 1 (.slice none 0 0) ([]), Hp.rec_ b6 [.slice none 0 0, .slice none 0 0, .slice none 0 0, .int .i64 0, .int .i64 0], Hp.rec_ b1 [.slice none 0 0, .slice none 0 0, .int .i64 0, .int .i64 0]]) rfl ?_
  refine Gx.region ?_
  refine Gx.val rfl rfl rfl (val_move rfl rfl) ?_
  refine Gx.val rfl rfl rfl (val_len rfl Try.underlying22 rfl (len_base hm)) ?_
  refine Gx.val rfl rfl rfl (val_move rfl rfl) ?_
  refine Gx.done ?_
  refine Gx.thenN ?_
  refine Gx.block ?_
  refine Gx.loop (ι := Nat × Value × (List Pm)) (fun ξ => (ξ.1 ≤ names.length) ∧ (ξ.2.2.map Pm.s = (names.take ξ.1).map (fun x => (⟨x, false, []⟩ : Se))) ∧ (IsS ξ.2.1) ∧ (ξ.2.2.length = ξ.1)) (fun ξ => [(4, ptr b1 0), (7, ptr b6 0), (1, sv), (41, nv), (42, .int .i64 ((names.length : Nat) : Int)), (43, .int .i64 ((ξ.1 : Nat) : Int))]) (fun ξ => [Hp.big seatH ξ.2.2, Hp.own FP 1 ξ.2.1 (ξ.2.2.map Pm.b), Hp.rec_ b6 [ξ.2.1, .slice none 0 0, .slice none 0 0, .int .i64 0, .int .i64 0], Hp.rec_ b1 [.slice none 0 0, .slice none 0 0, .int .i64 0, .int .i64 0]]) (fun ξ => names.length - ξ.1) (0, (.slice none 0 0), ([] : List Pm)) ⟨by first | omega | (dsimp only; omega), rfl, ⟨none, 0, 0, rfl⟩, rfl⟩ ((.cons rfl (.cons rfl (.cons rfl (.cons rfl (.cons rfl (.cons rfl .nil))))))) rfl ?_
  rintro ⟨k, pv, pms⟩ ⟨hk, hpm, hipv, hpl⟩
  dsimp only at hk hpm hipv hpl
  refine Gx.know (m' := [(4, ptr b1 0), (7, ptr b6 0), (1, sv), (41, nv), (42, .int .i64 ((names.length : Nat) : Int)), (43, .int .i64 ((k : Nat) : Int))]) (.cons rfl (.cons rfl (.cons rfl (.cons rfl (.cons rfl (.cons rfl .nil)))))) (Gx.norm (l' := [Hp.big seatH pms, Hp.own FP 1 pv (pms.map Pm.b), Hp.rec_ b6 [pv, .slice none 0 0, .slice none 0 0, .int .i64 0, .int .i64 0], Hp.rec_ b1 [.slice none 0 0, .slice none 0 0, .int .i64 0, .int .i64 0]]) rfl ?_)
  refine Gx.seq ?_
  refine Gx.region ?_
  refine Gx.val rfl rfl rfl (val_lss rfl rfl rfl) ?_
  refine Gx.done ?_
  refine Gx.thenN ?_
  refine Gx.seq ?_
  refine Gx.dec rfl (fun h7 => ?_) (fun h7 => ?_)
  · refine Gx.skip ?_
    refine Gx.thenN ?_
    refine Gx.seq ?_
    refine Gx.block ?_
    refine Gx.seq ?_
    refine Gx.region ?_
    obtain ⟨x8, hx8⟩ := get_of_lt (xs := names) (k := k) (by first | omega | (simp; omega))
    refine Gx.val rfl rfl rfl (val_ixa rfl Try.underlying22 Try.ty3 rfl rfl (j := k) (rfl) (reach_base hm hx8)) ?_
    refine Gx.val rfl rfl rfl (val_load rfl Try.ty3 rfl rfl (cell_base (i := 0) hm hx8 rfl)) ?_
    refine Gx.val rfl rfl rfl (val_assign rfl rfl) ?_
    refine Gx.done ?_
    refine Gx.thenN ?_
    refine Gx.region ?_
    refine Gx.val rfl rfl rfl (val_move rfl rfl) ?_
    refine Gx.val rfl rfl rfl (val_move rfl rfl) ?_
    refine Gx.val rfl rfl rfl (val_nilCheck rfl rfl) ?_
    refine Gx.val rfl rfl rfl (Val.cast (val_fieldAddr rfl Try.underlying43 rfl Try.ty41 rfl rfl) (v' := ptr b6 0) rfl) ?_
    refine Gx.val rfl rfl rfl (val_load rfl Try.ty41 rfl rfl (cell_rec (k := 2) rfl rfl)) ?_
    refine Gx.val rfl rfl rfl (val_move rfl rfl) ?_
    refine Gx.val rfl rfl rfl (val_build rfl (qs := [(0, .int .i64 x8)]) rfl rfl (fun w => by go_simp) (v := .agg #[.int .i64 x8, .bool false, .slice none 0 0])) ?_
    refine Gx.eff rfl rfl rfl (eff_box rfl rfl (vs := [.int .i64 x8, .bool false, .slice none 0 0]) rfl) ?_
    rintro _ _ ⟨b9, rfl, rfl⟩
    refine Gx.eff rfl rfl rfl (eff_buildSlice rfl (qs := [(0, ptr b9 0)]) rfl rfl (cs := #[ptr b9 0]) (vs := [ptr b9 0]) (E := 44) rfl (fun w => by first | (go_simp; done) | (go_simp; rfl))) ?_
    rintro _ _ ⟨b10, rfl, rfl⟩
    refine Gx.eff rfl rfl rfl (eff_push (r := b9) rfl Try.eP FP_len FP_one rfl rfl (k := 0) rfl rfl (k' := 2) rfl (by rw [List.length_map]; omega) (by rw [List.length_map]; omega)) ?_
    rintro v11 _ ⟨hiv11, rfl⟩
    refine Gx.norm (l' := [Hp.rec_ b9 [.int .i64 x8, .bool false, .slice none 0 0], Hp.big seatH pms, Hp.own FP 1 v11 ((pms.map Pm.b) ++ [b9]), Hp.rec_ b6 [pv, .slice none 0 0, .slice none 0 0, .int .i64 0, .int .i64 0], Hp.rec_ b1 [.slice none 0 0, .slice none 0 0, .int .i64 0, .int .i64 0]]) rfl ?_
    refine Gx.val rfl rfl rfl (val_nilCheck rfl rfl) ?_
    refine Gx.val rfl rfl rfl (Val.cast (val_fieldAddr rfl Try.underlying43 rfl Try.ty41 rfl rfl) (v' := ptr b6 0) rfl) ?_
    refine Gx.eff0 rfl rfl (eff_store rfl Try.ty41 rfl rfl (us := [v11]) hiv11.cellsL rfl hiv11.all (k := 3) rfl (rfl) (vs' := [v11, .slice none 0 0, .slice none 0 0, .int .i64 0, .int .i64 0]) (rfl) (l' := [Hp.rec_ b9 [.int .i64 x8, .bool false, .slice none 0 0], Hp.big seatH pms, Hp.own FP 1 v11 ((pms.map Pm.b) ++ [b9]), Hp.rec_ b6 [v11, .slice none 0 0, .slice none 0 0, .int .i64 0, .int .i64 0], Hp.rec_ b1 [.slice none 0 0, .slice none 0 0, .int .i64 0, .int .i64 0]]) rfl) ?_
    rintro _ _ rfl
    refine Gx.done ?_
    refine Gx.blkN ?_
    refine Gx.thenN ?_
    refine Gx.ownNil SZ 1 ?_
    refine Gx.front 0 rfl ?_
    refine Gx.front 1 rfl ?_
    refine Gx.front 2 rfl ?_
    refine Gx.sepEq (l' := [Hp.big seatH (pms ++ [(⟨b9, .slice none 0 0, ⟨x8, false, []⟩⟩ : Pm)]), Hp.own FP 1 v11 ((pms.map Pm.b) ++ [b9]), Hp.rec_ b6 [v11, .slice none 0 0, .slice none 0 0, .int .i64 0, .int .i64 0], Hp.rec_ b1 [.slice none 0 0, .slice none 0 0, .int .i64 0, .int .i64 0]]) (by show Hp.big seatH pms * (Hp.rec_ b9 [.int .i64 x8, .bool false, .slice none 0 0] * (Hp.own SZ 1 (.slice none 0 0) ([]) * _)) = Hp.big seatH (pms ++ [(⟨b9, .slice none 0 0, ⟨x8, false, []⟩⟩ : Pm)]) * _; rw [Hp.big_append]; show _ = (_ * ((Hp.rec_ b9 [.int .i64 x8, .bool false, .slice none 0 0] * Hp.own SZ 1 (.slice none 0 0) ([])) * 1)) * _; rw [Hp.mul_one]; simp only [Hp.mul_assoc]; rfl) ?_
    refine Gx.norm (l' := [Hp.big seatH (pms ++ [(⟨b9, .slice none 0 0, ⟨x8, false, []⟩⟩ : Pm)]), Hp.own FP 1 v11 ((pms ++ [(⟨b9, .slice none 0 0, ⟨x8, false, []⟩⟩ : Pm)]).map Pm.b), Hp.rec_ b6 [v11, .slice none 0 0, .slice none 0 0, .int .i64 0, .int .i64 0], Hp.rec_ b1 [.slice none 0 0, .slice none 0 0, .int .i64 0, .int .i64 0]]) (by rw [List.map_append] <;> rfl) ?_
    refine Gx.region ?_
    refine Gx.val rfl rfl rfl (val_add rfl rfl rfl (r := ((k + 1 : Nat) : Int)) (w64 (by omega) (by omega))) ?_
    refine Gx.val rfl rfl rfl (val_move rfl rfl) ?_
    refine Gx.done ?_
    refine Gx.thenN ?_
    skip
    exact Gx.round (k + 1, v11, (pms ++ [(⟨b9, .slice none 0 0, ⟨x8, false, []⟩⟩ : Pm)])) ⟨by first | omega | (dsimp only; omega), by rw [List.map_append, hpm, take_of hx8, List.map_append]; rfl, hiv11, by simp; omega⟩ (by first | omega | (dsimp only; omega)) ((.cons rfl (.cons rfl (.cons rfl (.cons rfl (.cons rfl (.cons rfl .nil))))))) rfl
  · refine Gx.exit ?_
    refine Gx.thenE ?_
    refine Gx.thenE ?_
    refine Gx.blkE ?_
    refine Gx.thenN ?_
    refine Gx.seq ?_
    refine Gx.seq ?_
    obtain rfl : k = names.length := by omega
    rw [List.take_length] at hpm
    refine Gx.ownNil FN 1 ?_
    refine Gx.front 0 rfl ?_
    refine Gx.front 1 rfl ?_
    refine Gx.front 2 rfl ?_
    refine Gx.front 3 rfl ?_
    refine Gx.sat (l' := [worldH b6 (.slice none 0 0) (rs0 names), Hp.rec_ b1 [.slice none 0 0, .slice none 0 0, .int .i64 0, .int .i64 0]]) (fun w H => ?_) ?_
    · exact (worldH.shut (S := b6) (cv := .slice none 0 0) (s := rs0 names) (pv := pv) (chv := .slice none 0 0) (pms := pms) (R := sep [Hp.rec_ b1 [.slice none 0 0, .slice none 0 0, .int .i64 0, .int .i64 0]]) hpm (H.cast (by rw [sep4R]; rfl))).cast (by rw [sep1]; rfl)
    refine Gx.ownNil FZ 1 ?_
    refine Gx.region ?_
    refine Gx.val rfl rfl rfl (val_move rfl rfl) ?_
    refine Gx.val rfl rfl rfl (val_len rfl Try.underlying23 rfl (len_base hs)) ?_
    refine Gx.val rfl rfl rfl (val_move rfl rfl) ?_
    refine Gx.done ?_
    refine Gx.thenN ?_
    refine Gx.block ?_
    refine Gx.loop (ι := Nat × Value) (fun ξ => (ξ.1 ≤ cs.length) ∧ (IsS ξ.2)) (fun ξ => [(4, ptr b1 0), (7, ptr b6 0), (60, sv), (61, .int .i64 ((cs.length : Nat) : Int)), (62, .int .i64 ((ξ.1 : Nat) : Int))]) (fun ξ => [Hp.own FZ 1 ξ.2 (codesR (rs0 names) (cs.take ξ.1)), worldH b6 ξ.2 (stR (rs0 names) (cs.take ξ.1)), Hp.rec_ b1 [.slice none 0 0, .slice none 0 0, .int .i64 0, .int .i64 0]]) (fun ξ => cs.length - ξ.1) (0, (.slice none 0 0)) ⟨by first | omega | (dsimp only; omega), ⟨none, 0, 0, rfl⟩⟩ ((.cons rfl (.cons rfl (.cons rfl (.cons rfl (.cons rfl .nil)))))) rfl ?_
    rintro ⟨i, cv⟩ ⟨hi, hicv⟩
    dsimp only at hi hicv
    refine Gx.know (m' := [(4, ptr b1 0), (7, ptr b6 0), (60, sv), (61, .int .i64 ((cs.length : Nat) : Int)), (62, .int .i64 ((i : Nat) : Int))]) (.cons rfl (.cons rfl (.cons rfl (.cons rfl (.cons rfl .nil))))) (Gx.norm (l' := [Hp.own FZ 1 cv (codesR (rs0 names) (cs.take i)), worldH b6 cv (stR (rs0 names) (cs.take i)), Hp.rec_ b1 [.slice none 0 0, .slice none 0 0, .int .i64 0, .int .i64 0]]) rfl ?_)
    have bd : BdR 120 (stR (rs0 names) (cs.take i)) := ((BdR.zero names).run (cs.take i)).mono (by rw [List.length_take]; omega)
    have hsl : (stR (rs0 names) (cs.take i)).ss.length = names.length := by rw [stR_len]; simp [rs0]
    have hci : (codesR (rs0 names) (cs.take i)).length = i := by rw [codesR_len, List.length_take]; omega
    have hb1 := bd.sent
    have hb2 := bd.ch
    refine Gx.seq ?_
    refine Gx.region ?_
    refine Gx.val rfl rfl rfl (val_lss rfl rfl rfl) ?_
    refine Gx.done ?_
    refine Gx.thenN ?_
    refine Gx.seq ?_
    refine Gx.dec rfl (fun h12 => ?_) (fun h12 => ?_)
    · refine Gx.skip ?_
      refine Gx.thenN ?_
      refine Gx.seq ?_
      refine Gx.block ?_
      refine Gx.seq ?_
      refine Gx.region ?_
      obtain ⟨x13, hx13⟩ := get_of_lt (xs := cs) (k := i) (by first | omega | (simp; omega))
      refine Gx.val rfl rfl rfl (val_ixa rfl Try.underlying23 Try.ty34 rfl rfl (j := i) (rfl) (reach_base hs hx13)) ?_
      refine Gx.val rfl rfl rfl (Val.cast (val_loadA rfl Try.ty34 rfl rfl rfl (cells_base hs hx13)) (v' := .agg #[.int .i64 x13.kind, .int .i64 x13.who]) rfl) ?_
      refine Gx.eff rfl rfl rfl (eff_alloc rfl Try.ty34 (vs := [.int .i64 0, .int .i64 0]) rfl) ?_
      rintro _ _ ⟨b14, rfl, rfl⟩
      refine Gx.eff0 rfl rfl (eff_store rfl Try.ty34 rfl rfl (us := [.int .i64 x13.kind, .int .i64 x13.who]) rfl rfl rfl (k := 0) rfl (rfl) (vs' := [.int .i64 x13.kind, .int .i64 x13.who]) (rfl) (l' := [Hp.rec_ b14 [.int .i64 x13.kind, .int .i64 x13.who], Hp.own FZ 1 cv (codesR (rs0 names) (cs.take i)), worldH b6 cv (stR (rs0 names) (cs.take i)), Hp.rec_ b1 [.slice none 0 0, .slice none 0 0, .int .i64 0, .int .i64 0]]) rfl) ?_
      rintro _ _ rfl
      refine Gx.done ?_
      refine Gx.thenN ?_
      refine Gx.regionO (fun j => j == 8 || j == 9 || j == 10) 14 [0, 1, 2, 3, 4, 5, 6, 7, 8, 9, 10, 11, 12, 13] (fun us => match us with | [] => [Hp.rec_ b14 [.int .i64 x13.kind, .int .i64 x13.who], Hp.own FZ 1 cv (codesR (rs0 names) (cs.take i)), worldH b6 cv (stR (rs0 names) (cs.take i)), Hp.rec_ b1 [.slice none 0 0, .slice none 0 0, .int .i64 0, .int .i64 0]] | [u1] => [worldH b6 cv ((stepR (stR (rs0 names) (cs.take i)) x13).2), Hp.rec_ b14 [.int .i64 x13.kind, .int .i64 x13.who], Hp.own FZ 1 cv (codesR (rs0 names) (cs.take i)), Hp.rec_ b1 [.slice none 0 0, .slice none 0 0, .int .i64 0, .int .i64 0]] | [u1, u2] => [Hp.rec_ (sB u2) [.int .i64 ((stepR (stR (rs0 names) (cs.take i)) x13).1)], worldH b6 cv ((stepR (stR (rs0 names) (cs.take i)) x13).2), Hp.rec_ b14 [.int .i64 x13.kind, .int .i64 x13.who], Hp.own FZ 1 cv (codesR (rs0 names) (cs.take i)), Hp.rec_ b1 [.slice none 0 0, .slice none 0 0, .int .i64 0, .int .i64 0]] | u1 :: u2 :: u3 :: _ => [worldH b6 cv ((stepR (stR (rs0 names) (cs.take i)) x13).2), Hp.rec_ b14 [.int .i64 x13.kind, .int .i64 x13.who], Hp.own FZ 1 u3 ((codesR (rs0 names) (cs.take i)) ++ [(stepR (stR (rs0 names) (cs.take i)) x13).1]), Hp.rec_ b1 [.slice none 0 0, .slice none 0 0, .int .i64 0, .int .i64 0]]) Try.mixed (by kernel_rfl) rfl ?_
      refine Gw.val rfl rfl rfl rfl rfl (fun us => val_move rfl rfl) ?_
      refine Gw.val rfl rfl rfl rfl rfl (fun us => val_move rfl rfl) ?_
      refine Gw.val rfl rfl rfl rfl rfl (fun us => val_nilCheck rfl rfl) ?_
      refine Gw.val rfl rfl rfl rfl rfl (fun us => Val.cast (val_fieldAddr rfl Try.underlying43 rfl Try.ty26 rfl rfl) (v' := ptr b6 1) rfl) ?_
      refine Gw.val rfl rfl rfl rfl rfl (fun us => Val.cast (val_fieldAddr rfl Try.underlying26 rfl Try.ty24 rfl rfl) (v' := ptr b6 1) rfl) ?_
      refine Gw.val rfl rfl rfl rfl rfl (fun us => match us with | [] => val_load rfl Try.ty24 rfl rfl (cell_world (k := 2) rfl) | [u1] => val_load rfl Try.ty24 rfl rfl (cell_world (k := 0) rfl) | [u1, u2] => val_load rfl Try.ty24 rfl rfl (cell_world (k := 1) rfl) | u1 :: u2 :: u3 :: _ => val_load rfl Try.ty24 rfl rfl (cell_world (k := 0) rfl)) ?_
      refine Gw.val rfl rfl rfl rfl rfl (fun us => val_move rfl rfl) ?_
      refine Gw.val rfl rfl rfl rfl rfl (fun us => match us with | [] => Val.cast (val_loadA rfl Try.ty34 rfl rfl rfl (cells_rec (k := 0) rfl)) (v' := .agg #[.int .i64 x13.kind, .int .i64 x13.who]) rfl | [u1] => Val.cast (val_loadA rfl Try.ty34 rfl rfl rfl (cells_rec (k := 1) rfl)) (v' := .agg #[.int .i64 x13.kind, .int .i64 x13.who]) rfl | [u1, u2] => Val.cast (val_loadA rfl Try.ty34 rfl rfl rfl (cells_rec (k := 2) rfl)) (v' := .agg #[.int .i64 x13.kind, .int .i64 x13.who]) rfl | u1 :: u2 :: u3 :: _ => Val.cast (val_loadA rfl Try.ty34 rfl rfl rfl (cells_rec (k := 1) rfl)) (v' := .agg #[.int .i64 x13.kind, .int .i64 x13.who]) rfl) ?_
      refine Gw.chg rfl rfl rfl rfl rfl (fun v => v = .int .i64 ((stepR (stR (rs0 names) (cs.take i)) x13).1)) (eff_call (vs := [ptr b6 0, .agg #[.int .i64 x13.kind, .int .i64 x13.who]]) rfl Try.fn15 rfl (fun w H => step_any (c := x13) (by omega) (by omega) (by omega) (fun y hy => Nat.le_trans (bd.q y hy) (by decide)) (H.at_ (k := 2) rfl))) ?_
      rintro _ rfl
      refine Gw.chg rfl rfl rfl rfl rfl (fun v => ∃ b16, v = .slice (some ⟨b16, 0, none⟩) 1 1) (Eff.mono (eff_buildSlice rfl (qs := [(0, .int .i64 ((stepR (stR (rs0 names) (cs.take i)) x13).1))]) rfl rfl (cs := #[.int .i64 ((stepR (stR (rs0 names) (cs.take i)) x13).1)]) (vs := [.int .i64 ((stepR (stR (rs0 names) (cs.take i)) x13).1)]) (E := 27) rfl (fun w => by first | (go_simp; done) | (go_simp; rfl))) (by rintro _ _ ⟨b16, rfl, rfl⟩; exact ⟨⟨b16, rfl⟩, rfl⟩)) ?_
      rintro _ ⟨b16, rfl⟩
      refine Gw.chg rfl rfl rfl rfl rfl IsS (Eff.mono (eff_push (r := (stepR (stR (rs0 names) (cs.take i)) x13).1) rfl Try.eZ FZ_len FZ_one rfl rfl (k := 0) rfl rfl (k' := 2) rfl (by rw [hci]; omega) (by rw [hci]; omega)) (fun _ _ h => ⟨h.1, congrArg sep h.2⟩)) ?_
      intro v17 hiv17
      refine Gw.val rfl rfl rfl rfl rfl (fun us => val_nilCheck rfl rfl) ?_
      refine Gw.val rfl rfl rfl rfl rfl (fun us => Val.cast (val_fieldAddr rfl Try.underlying43 rfl Try.ty26 rfl rfl) (v' := ptr b6 1) rfl) ?_
      refine Gw.val rfl rfl rfl rfl rfl (fun us => Val.cast (val_fieldAddr rfl Try.underlying26 rfl Try.ty24 rfl rfl) (v' := ptr b6 1) rfl) ?_
      refine Gw.done ?_
      refine Gx.norm (l' := [worldH b6 cv ((stepR (stR (rs0 names) (cs.take i)) x13).2), Hp.rec_ b14 [.int .i64 x13.kind, .int .i64 x13.who], Hp.own FZ 1 v17 ((codesR (rs0 names) (cs.take i)) ++ [(stepR (stR (rs0 names) (cs.take i)) x13).1]), Hp.rec_ b1 [.slice none 0 0, .slice none 0 0, .int .i64 0, .int .i64 0]]) rfl ?_
      refine Gx.eff0 rfl rfl (eff_storeW rfl rfl rfl hiv17 (k := 0) rfl (l' := [worldH b6 v17 ((stepR (stR (rs0 names) (cs.take i)) x13).2), Hp.rec_ b14 [.int .i64 x13.kind, .int .i64 x13.who], Hp.own FZ 1 v17 ((codesR (rs0 names) (cs.take i)) ++ [(stepR (stR (rs0 names) (cs.take i)) x13).1]), Hp.rec_ b1 [.slice none 0 0, .slice none 0 0, .int .i64 0, .int .i64 0]]) rfl) ?_
      rintro _ _ rfl
      refine Gx.done ?_
      refine Gx.blkN ?_
      refine Gx.thenN ?_
      refine Gx.region ?_
      refine Gx.val rfl rfl rfl (val_add rfl rfl rfl (r := ((i + 1 : Nat) : Int)) (w64 (by omega) (by omega))) ?_
      refine Gx.val rfl rfl rfl (val_move rfl rfl) ?_
      refine Gx.done ?_
      refine Gx.thenN ?_
      refine Gx.drop 1 rfl ?_
      refine Gx.front 2 rfl ?_
      refine Gx.front 1 rfl ?_
      refine Gx.front 2 rfl ?_
      refine Gx.norm (l' := [Hp.own FZ 1 v17 (codesR (rs0 names) (cs.take (i + 1))), worldH b6 v17 (stR (rs0 names) (cs.take (i + 1))), Hp.rec_ b1 [.slice none 0 0, .slice none 0 0, .int .i64 0, .int .i64 0]]) (by rw [stR_snoc hx13, codesR_snoc hx13] <;> rfl) ?_
      exact Gx.round (i + 1, v17) ⟨by first | omega | (dsimp only; omega), hiv17⟩ (by first | omega | (dsimp only; omega)) ((.cons rfl (.cons rfl (.cons rfl (.cons rfl (.cons rfl .nil)))))) rfl
    · refine Gx.exit ?_
      refine Gx.thenE ?_
      refine Gx.thenE ?_
      refine Gx.blkE ?_
      refine Gx.thenN ?_
      refine Gx.seq ?_
      refine Gx.seq ?_
      have ei : i = cs.length := by omega
      subst ei
      rw [List.take_length] at bd hci hsl
      refine Gx.norm (l' := [Hp.own FZ 1 cv (codesR (rs0 names) cs), worldH b6 cv (stR (rs0 names) cs), Hp.rec_ b1 [.slice none 0 0, .slice none 0 0, .int .i64 0, .int .i64 0]]) (by rw [List.take_length] <;> rfl) ?_
      obtain ⟨s, hsd⟩ : ∃ s, s = stR (rs0 names) cs := ⟨_, rfl⟩
      rw [← hsd] at bd hsl
      refine Gx.norm (l' := [Hp.own FZ 1 cv (codesR (rs0 names) cs), worldH b6 cv s, Hp.rec_ b1 [.slice none 0 0, .slice none 0 0, .int .i64 0, .int .i64 0]]) (by rw [hsd] <;> rfl) ?_
      refine Gx.front 1 rfl ?_
      refine Gx.exists_ (α := {q : Value × Value × List Pm // q.2.2.map Pm.s = s.ss}) (l' := fun q => [Hp.rec_ b6 [q.1.1, cv, q.1.2.1, .int .i64 ((s.sent : Nat) : Int), .int .i64 0], Hp.own FP 1 q.1.1 (q.1.2.2.map Pm.b), Hp.big seatH q.1.2.2, Hp.own FN 1 q.1.2.1 s.ch, Hp.own FZ 1 cv (codesR (rs0 names) cs), Hp.rec_ b1 [.slice none 0 0, .slice none 0 0, .int .i64 0, .int .i64 0]]) (fun w H => ?_) ?_
      · obtain ⟨pv, chv, pms, h1, H⟩ := worldH.open_ (R := sep [Hp.own FZ 1 cv (codesR (rs0 names) cs), Hp.rec_ b1 [.slice none 0 0, .slice none 0 0, .int .i64 0, .int .i64 0]]) H
        exact ⟨⟨(pv, chv, pms), h1⟩, H.cast (by rw [sep4R]; rfl)⟩
      rintro ⟨⟨pv, chv, pms⟩, hmap⟩
      dsimp only at hmap
      refine Gx.norm (l' := [Hp.rec_ b6 [pv, cv, chv, .int .i64 ((s.sent : Nat) : Int), .int .i64 0], Hp.own FP 1 pv (pms.map Pm.b), Hp.big seatH pms, Hp.own FN 1 chv s.ch, Hp.own FZ 1 cv (codesR (rs0 names) cs), Hp.rec_ b1 [.slice none 0 0, .slice none 0 0, .int .i64 0, .int .i64 0]]) rfl ?_
      have hpl : pms.length = names.length := by rw [← hsl, ← hmap, List.length_map]
      have hbl : (pms.map Pm.b).length = names.length := by rw [List.length_map, hpl]
      obtain ⟨sa18, sn19, sc20, rfl⟩ := hicv
      refine Gx.fact (p := IsS chv) (fun w H => isS_own (H.at_ (k := 3) rfl)) (fun hich => ?_)
      obtain ⟨sa21, sn22, sc23, rfl⟩ := hich
      refine Gx.region ?_
      refine Gx.val rfl rfl rfl (val_move rfl rfl) ?_
      refine Gx.val rfl rfl rfl (val_nilCheck rfl rfl) ?_
      refine Gx.val rfl rfl rfl (Val.cast (val_fieldAddr rfl Try.underlying43 rfl Try.ty41 rfl rfl) (v' := ptr b6 0) rfl) ?_
      refine Gx.val rfl rfl rfl (val_load rfl Try.ty41 rfl rfl (cell_rec (k := 0) rfl rfl)) ?_
      refine Gx.val rfl rfl rfl (val_len rfl Try.underlying41 rfl (len_own (k := 1) rfl)) ?_
      refine Gx.val rfl rfl rfl (val_move rfl rfl) ?_
      refine Gx.done ?_
      refine Gx.thenN ?_
      refine Gx.block ?_
      refine Gx.loop (ι := Nat × Nat) (fun ξ => (ξ.1 ≤ names.length) ∧ (ξ.2 = awayR s.ss ξ.1)) (fun ξ => [(4, ptr b1 0), (7, ptr b6 0), (84, pv), (85, .int .i64 (((pms.map Pm.b).length : Nat) : Int)), (86, .int .i64 ((ξ.1 : Nat) : Int))]) (fun ξ => [Hp.rec_ b6 [pv, .slice sa18 sn19 sc20, .slice sa21 sn22 sc23, .int .i64 ((s.sent : Nat) : Int), .int .i64 ((ξ.2 : Nat) : Int)], Hp.own FP 1 pv (pms.map Pm.b), Hp.big seatH pms, Hp.own FN 1 (.slice sa21 sn22 sc23) s.ch, Hp.own FZ 1 (.slice sa18 sn19 sc20) (codesR (rs0 names) cs), Hp.rec_ b1 [.slice none 0 0, .slice none 0 0, .int .i64 0, .int .i64 0]]) (fun ξ => names.length - ξ.1) (0, 0) ⟨by first | omega | (dsimp only; omega), rfl⟩ ((.cons rfl (.cons rfl (.cons rfl (.cons rfl (.cons rfl .nil)))))) rfl ?_
      rintro ⟨j, aw⟩ ⟨hj, haw⟩
      dsimp only at hj haw
      refine Gx.know (m' := [(4, ptr b1 0), (7, ptr b6 0), (84, pv), (85, .int .i64 (((pms.map Pm.b).length : Nat) : Int)), (86, .int .i64 ((j : Nat) : Int))]) (.cons rfl (.cons rfl (.cons rfl (.cons rfl (.cons rfl .nil))))) (Gx.norm (l' := [Hp.rec_ b6 [pv, .slice sa18 sn19 sc20, .slice sa21 sn22 sc23, .int .i64 ((s.sent : Nat) : Int), .int .i64 ((aw : Nat) : Int)], Hp.own FP 1 pv (pms.map Pm.b), Hp.big seatH pms, Hp.own FN 1 (.slice sa21 sn22 sc23) s.ch, Hp.own FZ 1 (.slice sa18 sn19 sc20) (codesR (rs0 names) cs), Hp.rec_ b1 [.slice none 0 0, .slice none 0 0, .int .i64 0, .int .i64 0]]) rfl ?_)
      refine Gx.seq ?_
      refine Gx.region ?_
      refine Gx.val rfl rfl rfl (val_lss rfl rfl rfl) ?_
      refine Gx.done ?_
      refine Gx.thenN ?_
      refine Gx.seq ?_
      refine Gx.dec rfl (fun h24 => ?_) (fun h24 => ?_)
      · refine Gx.skip ?_
        refine Gx.thenN ?_
        refine Gx.seq ?_
        refine Gx.block ?_
        refine Gx.seq ?_
        obtain ⟨m, hmj⟩ := get_of_lt (xs := pms) (k := j) (by omega)
        have hbj : (pms.map Pm.b)[j]? = some m.b := by rw [List.getElem?_map, hmj]; rfl
        have hrowj := row_of hmap hmj
        have hqj := bd.q m.s (List.mem_of_getElem? hrowj)
        have hawb := awayR_le bd.q j
        have hawc : j * 120 ≤ 6 * 120 := Nat.mul_le_mul_right 120 (by omega)
        refine Gx.region ?_
        refine Gx.val rfl rfl rfl (val_ixa rfl Try.underlying41 Try.ty44 rfl rfl (j := j) (rfl) (reach_own (k := 1) rfl hbj)) ?_
        refine Gx.val rfl rfl rfl (val_load rfl Try.ty44 rfl rfl (cell_own (i := 0) (k := 1) rfl hbj rfl)) ?_
        refine Gx.val rfl rfl rfl (val_assign rfl rfl) ?_
        refine Gx.done ?_
        refine Gx.thenN ?_
        refine Gx.focus (n := 2) (k := j) rfl hmj (fun R25 hf26 hg27 => ?_)
        refine Gx.norm (l' := [Hp.rec_ b6 [pv, .slice sa18 sn19 sc20, .slice sa21 sn22 sc23, .int .i64 ((s.sent : Nat) : Int), .int .i64 ((aw : Nat) : Int)], Hp.own FP 1 pv (pms.map Pm.b), seatH m, Hp.own FN 1 (.slice sa21 sn22 sc23) s.ch, Hp.own FZ 1 (.slice sa18 sn19 sc20) (codesR (rs0 names) cs), Hp.rec_ b1 [.slice none 0 0, .slice none 0 0, .int .i64 0, .int .i64 0], R25]) rfl ?_
        refine Gx.cleave 2 (p := Hp.rec_ m.b [.int .i64 m.s.nm, .bool m.s.pt, m.v]) (q := Hp.own SZ 1 m.v m.s.q) rfl rfl rfl ?_
        refine Gx.norm (l' := [Hp.rec_ m.b [.int .i64 m.s.nm, .bool m.s.pt, m.v], Hp.own SZ 1 m.v m.s.q, Hp.rec_ b6 [pv, .slice sa18 sn19 sc20, .slice sa21 sn22 sc23, .int .i64 ((s.sent : Nat) : Int), .int .i64 ((aw : Nat) : Int)], Hp.own FP 1 pv (pms.map Pm.b), Hp.own FN 1 (.slice sa21 sn22 sc23) s.ch, Hp.own FZ 1 (.slice sa18 sn19 sc20) (codesR (rs0 names) cs), Hp.rec_ b1 [.slice none 0 0, .slice none 0 0, .int .i64 0, .int .i64 0], R25]) rfl ?_
        refine Gx.regionO (fun j => false) 14 [0, 1, 2, 3, 4, 5, 6, 7, 8, 9, 10, 11, 12, 13] (fun _ => [Hp.rec_ m.b [.int .i64 m.s.nm, .bool m.s.pt, m.v], Hp.own SZ 1 m.v m.s.q, Hp.rec_ b6 [pv, .slice sa18 sn19 sc20, .slice sa21 sn22 sc23, .int .i64 ((s.sent : Nat) : Int), .int .i64 ((aw : Nat) : Int)], Hp.own FP 1 pv (pms.map Pm.b), Hp.own FN 1 (.slice sa21 sn22 sc23) s.ch, Hp.own FZ 1 (.slice sa18 sn19 sc20) (codesR (rs0 names) cs), Hp.rec_ b1 [.slice none 0 0, .slice none 0 0, .int .i64 0, .int .i64 0], R25]) Try.mixed (by kernel_rfl) rfl ?_
        refine Gw.val rfl rfl rfl rfl rfl (fun us => val_move rfl rfl) ?_
        refine Gw.val rfl rfl rfl rfl rfl (fun us => val_nilCheck rfl rfl) ?_
        refine Gw.val rfl rfl rfl rfl rfl (fun us => Val.cast (val_fieldAddr rfl Try.underlying43 rfl Try.ty26 rfl rfl) (v' := ptr b6 1) rfl) ?_
        refine Gw.val rfl rfl rfl rfl rfl (fun us => Val.cast (val_fieldAddr rfl Try.underlying26 rfl Try.ty3 rfl rfl) (v' := ptr b6 4) rfl) ?_
        refine Gw.val0 rfl rfl rfl (by kernel_rfl) rfl rfl (val_load rfl Try.ty3 rfl rfl (cell_rec (k := 2) rfl rfl)) ?_
        refine Gw.val rfl rfl rfl rfl rfl (fun us => val_move rfl rfl) ?_
        refine Gw.val rfl rfl rfl rfl rfl (fun us => val_nilCheck rfl rfl) ?_
        refine Gw.val rfl rfl rfl rfl rfl (fun us => Val.cast (val_fieldAddr rfl Try.underlying46 rfl Try.ty22 rfl rfl) (v' := ptr m.b 2) rfl) ?_
        refine Gw.val0 rfl rfl rfl (by kernel_rfl) rfl rfl (val_load rfl Try.ty22 rfl rfl (cell_rec (k := 0) rfl rfl)) ?_
        refine Gw.val0 rfl rfl rfl (by kernel_rfl) rfl rfl (val_len rfl Try.underlying22 rfl (len_own (k := 1) rfl)) ?_
        refine Gw.val rfl rfl rfl rfl rfl (fun us => val_add rfl rfl rfl (r := ((aw + m.s.q.length : Nat) : Int)) (w64 (by omega) (by omega))) ?_
        refine Gw.val rfl rfl rfl rfl rfl (fun us => val_nilCheck rfl rfl) ?_
        refine Gw.val rfl rfl rfl rfl rfl (fun us => Val.cast (val_fieldAddr rfl Try.underlying43 rfl Try.ty26 rfl rfl) (v' := ptr b6 1) rfl) ?_
        refine Gw.val rfl rfl rfl rfl rfl (fun us => Val.cast (val_fieldAddr rfl Try.underlying26 rfl Try.ty3 rfl rfl) (v' := ptr b6 4) rfl) ?_
        refine Gw.done ?_
        refine Gx.norm (l' := [Hp.rec_ m.b [.int .i64 m.s.nm, .bool m.s.pt, m.v], Hp.own SZ 1 m.v m.s.q, Hp.rec_ b6 [pv, .slice sa18 sn19 sc20, .slice sa21 sn22 sc23, .int .i64 ((s.sent : Nat) : Int), .int .i64 ((aw : Nat) : Int)], Hp.own FP 1 pv (pms.map Pm.b), Hp.own FN 1 (.slice sa21 sn22 sc23) s.ch, Hp.own FZ 1 (.slice sa18 sn19 sc20) (codesR (rs0 names) cs), Hp.rec_ b1 [.slice none 0 0, .slice none 0 0, .int .i64 0, .int .i64 0], R25]) rfl ?_
        refine Gx.eff0 rfl rfl (eff_store rfl Try.ty3 rfl rfl (us := [.int .i64 ((aw + m.s.q.length : Nat) : Int)]) rfl rfl rfl (k := 2) rfl (rfl) (vs' := [pv, .slice sa18 sn19 sc20, .slice sa21 sn22 sc23, .int .i64 ((s.sent : Nat) : Int), .int .i64 ((aw + m.s.q.length : Nat) : Int)]) (rfl) (l' := [Hp.rec_ m.b [.int .i64 m.s.nm, .bool m.s.pt, m.v], Hp.own SZ 1 m.v m.s.q, Hp.rec_ b6 [pv, .slice sa18 sn19 sc20, .slice sa21 sn22 sc23, .int .i64 ((s.sent : Nat) : Int), .int .i64 ((aw + m.s.q.length : Nat) : Int)], Hp.own FP 1 pv (pms.map Pm.b), Hp.own FN 1 (.slice sa21 sn22 sc23) s.ch, Hp.own FZ 1 (.slice sa18 sn19 sc20) (codesR (rs0 names) cs), Hp.rec_ b1 [.slice none 0 0, .slice none 0 0, .int .i64 0, .int .i64 0], R25]) rfl) ?_
        rintro _ _ rfl
        refine Gx.done ?_
        refine Gx.blkN ?_
        refine Gx.thenN ?_
        refine Gx.front 7 rfl ?_
        refine Gx.front 2 rfl ?_
        refine Gx.front 2 rfl ?_
        refine Gx.sepEq (l' := [Hp.big seatH pms, Hp.rec_ b6 [pv, .slice sa18 sn19 sc20, .slice sa21 sn22 sc23, .int .i64 ((s.sent : Nat) : Int), .int .i64 ((aw + m.s.q.length : Nat) : Int)], Hp.own FP 1 pv (pms.map Pm.b), Hp.own FN 1 (.slice sa21 sn22 sc23) s.ch, Hp.own FZ 1 (.slice sa18 sn19 sc20) (codesR (rs0 names) cs), Hp.rec_ b1 [.slice none 0 0, .slice none 0 0, .int .i64 0, .int .i64 0]]) (by show Hp.rec_ m.b [.int .i64 m.s.nm, .bool m.s.pt, m.v] * (Hp.own SZ 1 m.v m.s.q * (R25 * _)) = Hp.big seatH pms * _; rw [hf26]; show _ = (Hp.rec_ m.b [.int .i64 m.s.nm, .bool m.s.pt, m.v] * Hp.own SZ 1 m.v m.s.q * R25) * _; simp only [Hp.mul_assoc] <;> rfl) ?_
        refine Gx.region ?_
        refine Gx.val rfl rfl rfl (val_add rfl rfl rfl (r := ((j + 1 : Nat) : Int)) (w64 (by omega) (by omega))) ?_
        refine Gx.val rfl rfl rfl (val_move rfl rfl) ?_
        refine Gx.done ?_
        refine Gx.thenN ?_
        refine Gx.front 5 rfl ?_
        refine Gx.front 5 rfl ?_
        refine Gx.front 5 rfl ?_
        refine Gx.front 3 rfl ?_
        refine Gx.front 5 rfl ?_
        refine Gx.front 5 rfl ?_
        exact Gx.round (j + 1, aw + m.s.q.length) ⟨by first | omega | (dsimp only; omega), by rw [awayR_succ hrowj, haw]⟩ (by first | omega | (dsimp only; omega)) ((.cons rfl (.cons rfl (.cons rfl (.cons rfl (.cons rfl .nil)))))) rfl
      · refine Gx.exit ?_
        refine Gx.thenE ?_
        refine Gx.thenE ?_
        refine Gx.blkE ?_
        refine Gx.thenN ?_
        refine Gx.seq ?_
        refine Gx.region ?_
        refine Gx.val rfl rfl rfl (val_move rfl rfl) ?_
        refine Gx.val rfl rfl rfl (val_nilCheck rfl rfl) ?_
        refine Gx.val rfl rfl rfl (Val.cast (val_fieldAddr rfl Try.underlying43 rfl Try.ty26 rfl rfl) (v' := ptr b6 1) rfl) ?_
        refine Gx.val rfl rfl rfl (Val.cast (val_loadA rfl Try.ty26 rfl rfl (us := [.slice sa18 sn19 sc20, .slice sa21 sn22 sc23, .int .i64 ((s.sent : Nat) : Int), .int .i64 ((aw : Nat) : Int)]) rfl (cells_rec_at (k := 0) (i := 1) (n := 4) rfl rfl)) (v' := .agg #[.slice sa18 sn19 sc20, .slice sa21 sn22 sc23, .int .i64 ((s.sent : Nat) : Int), .int .i64 ((aw : Nat) : Int)]) rfl) ?_
        refine Gx.eff0 rfl rfl (eff_store rfl Try.ty26 rfl rfl (us := [.slice sa18 sn19 sc20, .slice sa21 sn22 sc23, .int .i64 ((s.sent : Nat) : Int), .int .i64 ((aw : Nat) : Int)]) rfl rfl rfl (k := 5) rfl (rfl) (vs' := [.slice sa18 sn19 sc20, .slice sa21 sn22 sc23, .int .i64 ((s.sent : Nat) : Int), .int .i64 ((aw : Nat) : Int)]) (rfl) (l' := [Hp.rec_ b6 [pv, .slice sa18 sn19 sc20, .slice sa21 sn22 sc23, .int .i64 ((s.sent : Nat) : Int), .int .i64 ((aw : Nat) : Int)], Hp.own FP 1 pv (pms.map Pm.b), Hp.big seatH pms, Hp.own FN 1 (.slice sa21 sn22 sc23) s.ch, Hp.own FZ 1 (.slice sa18 sn19 sc20) (codesR (rs0 names) cs), Hp.rec_ b1 [.slice sa18 sn19 sc20, .slice sa21 sn22 sc23, .int .i64 ((s.sent : Nat) : Int), .int .i64 ((aw : Nat) : Int)]]) rfl) ?_
        rintro _ _ rfl
        refine Gx.val rfl rfl rfl (val_assign rfl rfl) ?_
        refine Gx.done ?_
        refine Gx.thenN ?_
        refine Gx.ret ?_
        obtain rfl : j = names.length := by omega
        refine Gx.drop 2 rfl ?_
        refine Gx.drop 1 rfl ?_
        refine Gx.drop 0 rfl ?_
        refine Gx.front 2 rfl ?_
        refine Gx.front 1 rfl ?_
        refine Gx.front 2 rfl ?_
        refine Gx.retC2 Try.results7 Try.ty26 rfl rfl (us := [.slice sa18 sn19 sc20, .slice sa21 sn22 sc23, .int .i64 ((s.sent : Nat) : Int), .int .i64 ((aw : Nat) : Int)]) rfl (k := 2) rfl rfl ?_
        subst hsd
        subst haw
        exact ⟨_, _, _, rfl, rfl⟩
  rintro v l w ⟨cv, chv, P, rfl, rfl⟩ H
  have bd := (BdR.zero names).run cs
  have := bd.ch
  exact ⟨cv, chv, rfl, (H.at_ (k := 0) rfl).sls (by rw [codesR_len]; omega), (H.at_ (k := 1) rfl).sls (by omega)⟩
end Go.Proofs.Yteejbaindbiimaa
