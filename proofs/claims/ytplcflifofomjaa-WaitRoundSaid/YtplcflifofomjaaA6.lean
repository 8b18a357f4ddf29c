/- Does one wait for itself: the search. The walks. No condition. -/
import Derived.Test.YtplcflifofomjaaA5
namespace Go.Proofs.Ytplcflifofomjaa
open Go.RowKit
set_option linter.unusedVariables false
set_option linter.unusedSimpArgs false
set_option maxRecDepth 100000

theorem gone_skip {l : List Nd} {j a k : Nat} {x : Nd} (hx : l[a]? = some x) (hne : x.who.toNat ≠ j) (h : Gone l j (a + 1) 0 k) : Gone l j a 0 k := by
  rcases h with ⟨y, hy, h1, h2⟩ | ⟨y, _, _, z, hz, _⟩
  · rcases (mem_take_succ hx).1 hy with q | rfl
    · exact .inl ⟨y, q, h1, h2⟩
    · exact absurd h1 hne
  · simp at hz
theorem gone_next {l : List Nd} {j a k : Nat} {x : Nd} (hx : l[a]? = some x) (hj : x.who.toNat = j) (h : Gone l j (a + 1) 0 k) : Gone l j a x.fr.length k := by
  rcases h with ⟨y, hy, h1, z, hz, h2⟩ | ⟨y, _, _, z, hz, _⟩
  · rcases (mem_take_succ hx).1 hy with q | rfl
    · exact .inl ⟨y, q, h1, z, hz, h2⟩
    · exact .inr ⟨y, hx, hj, z, by rw [List.take_length]; exact hz, h2⟩
  · simp at hz
theorem gone_one {l : List Nd} {j a b k : Nat} {x : Nd} {z : Int} (hx : l[a]? = some x) (hz : x.fr[b]? = some z) (h : Gone l j a (b + 1) k) : Gone l j a b k ∨ k = z.toNat := by
  rcases h with h | ⟨y, hy, h1, w, hw, h2⟩
  · exact .inl (.inl h)
  · rw [hx] at hy; cases hy
    rcases (mem_take_succ hz).1 hw with q | rfl
    · exact .inl (.inr ⟨x, hx, h1, w, q, h2⟩)
    · exact .inr h2.symm
theorem gone_all {l : List Nd} {j k : Nat} (h : Edge l j k) : Gone l j l.length 0 k := by
  obtain ⟨x, hx, h1, h2⟩ := h
  exact .inl ⟨x, by rw [List.take_length]; exact hx, h1, h2⟩
theorem gone_zero {l : List Nd} {j k : Nat} : ¬ Gone l j 0 0 k := by
  rintro (⟨x, hx, _⟩ | ⟨x, _, _, z, hz, _⟩)
  · simp at hx
  · simp at hz
theorem unm_mono {n : Nat} {ms ms' : List (Nat × Nat)} (h : ∀ k, mkd ms k → mkd ms' k) : unm n ms' ≤ unm n ms := by
  unfold unm
  refine List.countP_mono_left fun k _ hk => ?_
  have := h k
  unfold mkd at this
  cases e : (getM ms k).isSome with
  | false => rfl
  | true => rw [this e] at hk; cases hk
theorem probe_any {W : World} {n i : Nat} {nv : Value} {l : List Nd} {pa pb pc pd mb : Nat} (h : NdS W nv l) (hk : OkN (n : Int) l) (hi : i < n) : ∀ (u : Nat) {w : World} {ms : List (Nat × Nat)} {R : Hp} {j c : Nat}, unm n ms = u → BdS n ms c → c ≤ 10000 → j < n → Sat W w (Hp.rec_ pa [nv] * (Hp.rec_ pb [.map (some mb)] * (Hp.rec_ pc [.int .i64 ((i : Nat) : Int)] * (Hp.rec_ pd [.func (.func 23) #[] #[ptr pa 0, ptr pb 0, ptr pc 0, ptr pd 0]] * (Hp.map Try.prog 3 natL natV mb ms * (R)))))) →
    Calls Try.prog 23 #[.int .i64 ((j : Nat) : Int), ptr pa 0, ptr pb 0, ptr pc 0, ptr pd 0] w (Ret W fun v l' => ∃ (r : Bool) (ms' : List (Nat × Nat)), BdS n ms' (c + 144) ∧ DfsR n l i j ms ms' r ∧ v = .bool r ∧ sep l' = Hp.rec_ pa [nv] * (Hp.rec_ pb [.map (some mb)] * (Hp.rec_ pc [.int .i64 ((i : Nat) : Int)] * (Hp.rec_ pd [.func (.func 23) #[] #[ptr pa 0, ptr pb 0, ptr pc 0, ptr pd 0]] * (Hp.map Try.prog 3 natL natV mb ms' * (R)))))) := by
  intro u
  induction u using Nat.strongRecOn with
  | _ u ih =>
  intro w ms R j c hu hb0 hc hj H
  have m1 := sls_bd h.sl
  have hn12 := hk.n12
  have hkl := hk.len
  refine Gx.enter (l := [Hp.rec_ pa [nv], Hp.rec_ pb [.map (some mb)], Hp.rec_ pc [.int .i64 ((i : Nat) : Int)], Hp.rec_ pd [.func (.func 23) #[] #[ptr pa 0, ptr pb 0, ptr pc 0, ptr pd 0]], Hp.map Try.prog 3 natL natV mb ms, R]) Try.func23 rfl Try.ntmps23 rfl ((H.cast (by show _ = _ * (_ * (_ * (_ * (_ * (_ * 1))))); rw [Hp.mul_one]))) ?_
  refine Gx.know (m' := [(0, .int .i64 ((j : Nat) : Int)), (1, ptr pa 0), (2, ptr pb 0), (3, ptr pc 0), (4, ptr pd 0)]) (.cons rfl (.cons rfl (.cons rfl (.cons rfl (.cons rfl .nil))))) ?_
  refine Gx.seq ?_
  refine Gx.region ?_
  refine Gx.val rfl rfl rfl (val_assign rfl rfl) ?_
  refine Gx.done ?_
  refine Gx.thenN ?_
  refine Gx.seq ?_
  refine Gx.seq ?_
  refine Gx.region ?_
  refine Gx.val rfl rfl rfl (val_load rfl Try.ty22 rfl rfl (cell_rec (k := 0) rfl rfl)) ?_
  refine Gx.val rfl rfl rfl (val_len rfl Try.underlying22 rfl (len_base h.sl)) ?_
  refine Gx.val rfl rfl rfl (val_move rfl rfl) ?_
  refine Gx.done ?_
  refine Gx.thenN ?_
  refine Gx.block ?_
  refine Gx.loop (ι := Nat × (List (Nat × Nat))) (fun ξ => (ξ.1 ≤ l.length) ∧ (DfsI l i j ms ξ.2 (Gone l j ξ.1 0)) ∧ (BdS n ξ.2 (c + 12 * ξ.1))) (fun ξ => [(0, .int .i64 ((j : Nat) : Int)), (1, ptr pa 0), (2, ptr pb 0), (3, ptr pc 0), (4, ptr pd 0), (11, nv), (12, .int .i64 ((l.length : Nat) : Int)), (13, .int .i64 ((ξ.1 : Nat) : Int))]) (fun ξ => [Hp.rec_ pa [nv], Hp.rec_ pb [.map (some mb)], Hp.rec_ pc [.int .i64 ((i : Nat) : Int)], Hp.rec_ pd [.func (.func 23) #[] #[ptr pa 0, ptr pb 0, ptr pc 0, ptr pd 0]], Hp.map Try.prog 3 natL natV mb ξ.2, R]) (fun ξ => l.length - ξ.1) (0, ms) ⟨by first | omega | (dsimp only; omega), DfsI.zero l i j ms (fun k => gone_zero), hb0⟩ ((.cons rfl (.cons rfl (.cons rfl (.cons rfl (.cons rfl (.cons rfl (.cons rfl (.cons rfl .nil))))))))) rfl ?_
  rintro ⟨a, mc⟩ ⟨ha, hI, hB⟩
  dsimp only at ha hI hB
  refine Gx.know (m' := [(0, .int .i64 ((j : Nat) : Int)), (1, ptr pa 0), (2, ptr pb 0), (3, ptr pc 0), (4, ptr pd 0), (11, nv), (12, .int .i64 ((l.length : Nat) : Int)), (13, .int .i64 ((a : Nat) : Int))]) (.cons rfl (.cons rfl (.cons rfl (.cons rfl (.cons rfl (.cons rfl (.cons rfl (.cons rfl .nil)))))))) (Gx.norm (l' := [Hp.rec_ pa [nv], Hp.rec_ pb [.map (some mb)], Hp.rec_ pc [.int .i64 ((i : Nat) : Int)], Hp.rec_ pd [.func (.func 23) #[] #[ptr pa 0, ptr pb 0, ptr pc 0, ptr pd 0]], Hp.map Try.prog 3 natL natV mb mc, R]) rfl ?_)
  refine Gx.seq ?_
  refine Gx.region ?_
  refine Gx.val rfl rfl rfl (val_lss rfl rfl rfl) ?_
  refine Gx.done ?_
  refine Gx.thenN ?_
  refine Gx.seq ?_
  refine Gx.dec rfl (fun h1 => ?_) (fun h1 => ?_)
  · refine Gx.skip ?_
    refine Gx.thenN ?_
    refine Gx.seq ?_
    refine Gx.block ?_
    refine Gx.seq ?_
    refine Gx.region ?_
    obtain ⟨x2, hx2⟩ := get_of_lt (xs := l) (k := a) (by omega)
    refine Gx.val rfl rfl rfl (val_ixa rfl Try.underlying22 Try.ty38 rfl rfl (j := a) (rfl) (reach_base h.sl hx2)) ?_
    refine Gx.val rfl rfl rfl (Val.cast (val_loadA rfl Try.ty38 rfl rfl rfl (cells_base h.sl hx2)) (v' := .agg #[.int .i64 x2.who, .bool x2.all, .slice x2.a x2.n x2.c]) rfl) ?_
    refine Gx.eff rfl rfl rfl (eff_alloc rfl Try.ty38 (vs := [.int .i64 0, .bool false, .slice none 0 0]) rfl) ?_
    rintro _ _ ⟨b3, rfl, rfl⟩
    refine Gx.eff0 rfl rfl (eff_store rfl Try.ty38 rfl rfl (us := [.int .i64 x2.who, .bool x2.all, .slice x2.a x2.n x2.c]) rfl rfl rfl (k := 0) rfl (rfl) (vs' := [.int .i64 x2.who, .bool x2.all, .slice x2.a x2.n x2.c]) (rfl) (l' := [Hp.rec_ b3 [.int .i64 x2.who, .bool x2.all, .slice x2.a x2.n x2.c], Hp.rec_ pa [nv], Hp.rec_ pb [.map (some mb)], Hp.rec_ pc [.int .i64 ((i : Nat) : Int)], Hp.rec_ pd [.func (.func 23) #[] #[ptr pa 0, ptr pb 0, ptr pc 0, ptr pd 0]], Hp.map Try.prog 3 natL natV mb mc, R]) rfl) ?_
    rintro _ _ rfl
    refine Gx.done ?_
    refine Gx.thenN ?_
    refine Gx.seq ?_
    refine Gx.seq ?_
    have hmem := List.mem_of_getElem? hx2
    have hfx := h.fr x2 hmem
    have hxk := hk.el x2 hmem
    have hxl := hxk.lt
    have hx0 := hxk.w0
    refine Gx.region ?_
    refine Gx.val rfl rfl rfl (Val.cast (val_fieldAddr rfl Try.underlying38 rfl Try.ty3 rfl rfl) (v' := ptr b3 0) rfl) ?_
    refine Gx.val rfl rfl rfl (val_load rfl Try.ty3 rfl rfl (cell_rec (k := 0) rfl rfl)) ?_
    refine Gx.val rfl rfl rfl (val_move rfl rfl) ?_
    refine Gx.val rfl rfl rfl (val_neq rfl rfl rfl) ?_
    refine Gx.done ?_
    refine Gx.thenN ?_
    refine Gx.dec rfl (fun h4 => ?_) (fun h4 => ?_)
    · have hne : x2.who.toNat ≠ j := by omega
      refine Gx.exit ?_
      refine Gx.thenE ?_
      refine Gx.blkE ?_
      refine Gx.thenN ?_
      refine Gx.region ?_
      refine Gx.val rfl rfl rfl (val_add rfl rfl rfl (r := ((a + 1 : Nat) : Int)) (w64 (by omega) (by omega))) ?_
      refine Gx.val rfl rfl rfl (val_move rfl rfl) ?_
      refine Gx.done ?_
      refine Gx.thenN ?_
      refine Gx.drop 0 rfl ?_
      exact Gx.round (a + 1, mc) ⟨by first | omega | (dsimp only; omega), hI.mono' fun k => gone_skip hx2 hne, hB.mono (by dsimp only; omega)⟩ (by first | omega | (dsimp only; omega)) ((.cons rfl (.cons rfl (.cons rfl (.cons rfl (.cons rfl (.cons rfl (.cons rfl (.cons rfl .nil))))))))) rfl
    · refine Gx.skip ?_
      refine Gx.thenN ?_
      refine Gx.seq ?_
      have hwj : x2.who.toNat = j := by omega
      refine Gx.region ?_
      refine Gx.val rfl rfl rfl (Val.cast (val_fieldAddr rfl Try.underlying38 rfl Try.ty24 rfl rfl) (v' := ptr b3 2) rfl) ?_
      refine Gx.val rfl rfl rfl (val_load rfl Try.ty24 rfl rfl (cell_rec (k := 0) rfl rfl)) ?_
      refine Gx.val rfl rfl rfl (val_len rfl Try.underlying24 rfl (len_base hfx)) ?_
      refine Gx.val rfl rfl rfl (val_move rfl rfl) ?_
      refine Gx.done ?_
      refine Gx.thenN ?_
      refine Gx.block ?_
      refine Gx.front 0 rfl ?_
      refine Gx.front 6 rfl ?_
      refine Gx.front 6 rfl ?_
      refine Gx.front 6 rfl ?_
      refine Gx.front 6 rfl ?_
      refine Gx.front 6 rfl ?_
      refine Gx.front 6 rfl ?_
      refine Gx.loop (ι := Nat × (List (Nat × Nat))) (fun ξ => (ξ.1 ≤ x2.fr.length) ∧ (DfsI l i j ms ξ.2 (Gone l j a ξ.1)) ∧ (BdS n ξ.2 (c + 12 * a + ξ.1))) (fun ξ => [(0, .int .i64 ((j : Nat) : Int)), (1, ptr pa 0), (2, ptr pb 0), (3, ptr pc 0), (4, ptr pd 0), (8, ptr b3 0), (11, nv), (12, .int .i64 ((l.length : Nat) : Int)), (13, .int .i64 ((a : Nat) : Int)), (22, .slice x2.a x2.n x2.c), (23, .int .i64 ((x2.fr.length : Nat) : Int)), (24, .int .i64 ((ξ.1 : Nat) : Int))]) (fun ξ => [Hp.rec_ pa [nv], Hp.rec_ pb [.map (some mb)], Hp.rec_ pc [.int .i64 ((i : Nat) : Int)], Hp.rec_ pd [.func (.func 23) #[] #[ptr pa 0, ptr pb 0, ptr pc 0, ptr pd 0]], Hp.map Try.prog 3 natL natV mb ξ.2, R, Hp.rec_ b3 [.int .i64 x2.who, .bool x2.all, .slice x2.a x2.n x2.c]]) (fun ξ => x2.fr.length - ξ.1) (0, mc) ⟨by first | omega | (dsimp only; omega), hI, hB⟩ ((.cons rfl (.cons rfl (.cons rfl (.cons rfl (.cons rfl (.cons rfl (.cons rfl (.cons rfl (.cons rfl (.cons rfl (.cons rfl (.cons rfl .nil))))))))))))) rfl ?_
      rintro ⟨b, mc⟩ ⟨hb9, hI2, hB2⟩
      dsimp only at hb9 hI2 hB2
      refine Gx.know (m' := [(0, .int .i64 ((j : Nat) : Int)), (1, ptr pa 0), (2, ptr pb 0), (3, ptr pc 0), (4, ptr pd 0), (8, ptr b3 0), (11, nv), (12, .int .i64 ((l.length : Nat) : Int)), (13, .int .i64 ((a : Nat) : Int)), (22, .slice x2.a x2.n x2.c), (23, .int .i64 ((x2.fr.length : Nat) : Int)), (24, .int .i64 ((b : Nat) : Int))]) (.cons rfl (.cons rfl (.cons rfl (.cons rfl (.cons rfl (.cons rfl (.cons rfl (.cons rfl (.cons rfl (.cons rfl (.cons rfl (.cons rfl .nil)))))))))))) (Gx.norm (l' := [Hp.rec_ pa [nv], Hp.rec_ pb [.map (some mb)], Hp.rec_ pc [.int .i64 ((i : Nat) : Int)], Hp.rec_ pd [.func (.func 23) #[] #[ptr pa 0, ptr pb 0, ptr pc 0, ptr pd 0]], Hp.map Try.prog 3 natL natV mb mc, R, Hp.rec_ b3 [.int .i64 x2.who, .bool x2.all, .slice x2.a x2.n x2.c]]) rfl ?_)
      refine Gx.seq ?_
      refine Gx.region ?_
      refine Gx.val rfl rfl rfl (val_lss rfl rfl rfl) ?_
      refine Gx.done ?_
      refine Gx.thenN ?_
      refine Gx.seq ?_
      refine Gx.dec rfl (fun h5 => ?_) (fun h5 => ?_)
      · refine Gx.skip ?_
        refine Gx.thenN ?_
        refine Gx.seq ?_
        refine Gx.block ?_
        refine Gx.seq ?_
        refine Gx.region ?_
        obtain ⟨x6, hx6⟩ := get_of_lt (xs := x2.fr) (k := b) (by omega)
        refine Gx.val rfl rfl rfl (val_ixa rfl Try.underlying24 Try.ty3 rfl rfl (j := b) (rfl) (reach_base hfx hx6)) ?_
        refine Gx.val rfl rfl rfl (val_load rfl Try.ty3 rfl rfl (cell_base (i := 0) hfx hx6 rfl)) ?_
        refine Gx.val rfl rfl rfl (val_assign rfl rfl) ?_
        refine Gx.done ?_
        refine Gx.thenN ?_
        refine Gx.seq ?_
        have hzm := List.mem_of_getElem? hx6
        have hzk := hxk.fr x6 hzm
        obtain ⟨kq, hkq⟩ : ∃ kq : Nat, x6 = (kq : Int) := ⟨x6.toNat, by omega⟩
        have hkt : x6.toNat = kq := by omega
        have hkn : kq < n := by omega
        have hed : Edge l j kq := ⟨x2, hmem, hwj, x6, hzm, hkt⟩
        obtain ⟨cw, hcw⟩ : ∃ cw, cw = (getM mc kq).getD 0 := ⟨_, rfl⟩
        have hcb : cw ≤ 20000 := by
          rw [hcw]; cases e : getM mc kq with
          | none => simp
          | some v => have := (hB2.el kq v e).2.2; simp; omega
        have hln := hB2.ln
        refine Gx.slot (t := 10) (v := .int .i64 ((kq : Nat) : Int)) (congrArg some (congrArg (Value.int .i64) hkq)) ?_
        refine Gx.region ?_
        refine Gx.val rfl rfl rfl (val_load rfl Try.ty48 rfl rfl (cell_rec (k := 1) rfl rfl)) ?_
        refine Gx.val rfl rfl rfl (val_move rfl rfl) ?_
        refine Gx.val rfl rfl rfl (val_lookup1 rfl Try.underlying48 Try.kN Try.ty3 rfl rfl (i := kq) (by omega) (k := 4) rfl (r := .int .i64 ((cw : Nat) : Int)) (by rw [hcw]; exact lk_val mc kq)) ?_
        refine Gx.val rfl rfl rfl (val_add rfl rfl rfl (r := ((cw + 1 : Nat) : Int)) (w64 (by omega) (by omega))) ?_
        refine Gx.eff0 rfl rfl (eff_mapUpdate (vf := natV) rfl Try.underlying48 Try.kN natK rfl rfl rfl (i := kq) (r := (cw + 1)) (by omega) (k := 4) rfl (by unfold maxLen; omega) (l' := [Hp.rec_ pa [nv], Hp.rec_ pb [.map (some mb)], Hp.rec_ pc [.int .i64 ((i : Nat) : Int)], Hp.rec_ pd [.func (.func 23) #[] #[ptr pa 0, ptr pb 0, ptr pc 0, ptr pd 0]], Hp.map Try.prog 3 natL natV mb (putM mc kq (cw + 1)), R, Hp.rec_ b3 [.int .i64 x2.who, .bool x2.all, .slice x2.a x2.n x2.c]]) rfl) ?_
        rintro _ _ rfl
        refine Gx.done ?_
        refine Gx.thenN ?_
        refine Gx.seq ?_
        have hdec : (cw = 0 ∧ ¬ mkd mc kq) ∨ (1 ≤ cw ∧ mkd mc kq ∧ BdS n (putM mc kq (cw + 1)) (c + 12 * a + b + 1)) := by
          cases e : getM mc kq with
          | none => exact .inl ⟨by rw [hcw, e]; rfl, by unfold mkd; rw [e]; decide⟩
          | some v =>
            have e2 : cw = v := by rw [hcw, e]; rfl
            have h1 := (hB2.el kq v e).2.1
            exact .inr ⟨by omega, by unfold mkd; rw [e]; rfl, by rw [e2]; exact hB2.old e⟩
        refine Gx.region ?_
        refine Gx.val rfl rfl rfl (val_move rfl rfl) ?_
        refine Gx.val rfl rfl rfl (val_load rfl Try.ty3 rfl rfl (cell_rec (k := 2) rfl rfl)) ?_
        refine Gx.val rfl rfl rfl (val_eql rfl rfl rfl) ?_
        refine Gx.val rfl rfl rfl (val_move rfl rfl) ?_
        refine Gx.cases (t := 35) rfl (fun h7 => ?_) (fun h7 => ?_)
        · refine Gx.skipg rfl rfl rfl rfl rfl rfl ?_
          refine Gx.skipg rfl rfl rfl rfl rfl rfl ?_
          refine Gx.skipg rfl rfl rfl rfl rfl rfl ?_
          refine Gx.skipg rfl rfl rfl rfl rfl rfl ?_
          refine Gx.skipg rfl rfl rfl rfl rfl rfl ?_
          refine Gx.skipu rfl rfl rfl rfl rfl ?_
          refine Gx.skipu rfl rfl rfl rfl rfl ?_
          refine Gx.skipu rfl rfl rfl rfl rfl ?_
          refine Gx.skipg rfl rfl rfl rfl rfl rfl ?_
          refine Gx.val rfl rfl rfl (val_pickT rfl rfl rfl) ?_
          refine Gx.done ?_
          refine Gx.thenN ?_
          refine Gx.t rfl ?_
          refine Gx.seq ?_
          refine Gx.region ?_
          refine Gx.val rfl rfl rfl (val_assign rfl rfl) ?_
          refine Gx.done ?_
          refine Gx.thenN ?_
          refine Gx.ret ?_
          refine Gx.blkR ?_
          refine Gx.thenR ?_
          refine Gx.thenR ?_
          refine Gx.blkR ?_
          refine Gx.blkR ?_
          refine Gx.thenR ?_
          refine Gx.thenR ?_
          refine Gx.blkR ?_
          refine Gx.thenR ?_
          refine Gx.drop 6 rfl ?_
          refine Gx.ret1 Try.results23 rfl ?_
          have hki : kq = i := by omega
          have hB8 : BdS n (putM mc kq (cw + 1)) (c + 144) := by
            rcases hdec with ⟨q1, q2⟩ | ⟨_, _, q3⟩
            · rw [q1]; exact (hB2.new q2 hkn).2.mono (by omega)
            · exact q3.mono (by omega)
          exact ⟨true, _, hB8, ⟨fun k hk7 => mkd_put.2 (.inr (hI2.mono k hk7)), fun _ => .one (hki ▸ hed), fun h => (by cases h)⟩, rfl, by show _ * (_ * (_ * (_ * (_ * (_ * 1))))) = _; rw [Hp.mul_one]⟩
        · have hki : kq ≠ i := by omega
          refine Gx.valg rfl rfl rfl rfl rfl (val_load rfl Try.ty48 rfl rfl (cell_rec (k := 1) rfl rfl)) ?_
          refine Gx.valg rfl rfl rfl rfl rfl (val_move rfl rfl) ?_
          refine Gx.valg rfl rfl rfl rfl rfl (val_lookup1 rfl Try.underlying48 Try.kN Try.ty3 rfl rfl (i := kq) (by omega) (k := 4) rfl (r := .int .i64 ((cw + 1 : Nat) : Int)) (by rw [getM_put, if_pos rfl]; rfl)) ?_
          refine Gx.valg rfl rfl rfl rfl rfl (val_eql rfl rfl rfl) ?_
          refine Gx.valg rfl rfl rfl rfl rfl (val_move rfl rfl) ?_
          refine Gx.cases (t := 40) rfl (fun h8 => ?_) (fun h8 => ?_)
          · obtain ⟨hc0, hnm⟩ : cw = 0 ∧ ¬ mkd mc kq := by rcases hdec with q | ⟨q, _⟩; (exact q); (exfalso; omega)
            obtain ⟨hc144, hBn⟩ := hB2.new hnm hkn
            have hun := (unm_put (n := n) (x := 1)).2 hnm hkn
            refine Gx.valg rfl rfl rfl rfl rfl (val_load rfl Try.ty45 rfl rfl (cell_rec (k := 3) rfl rfl)) ?_
            refine Gx.valg rfl rfl rfl rfl rfl (val_move rfl rfl) ?_
            refine Gx.front 4 rfl ?_
            refine Gx.front 4 rfl ?_
            refine Gx.front 4 rfl ?_
            refine Gx.front 4 rfl ?_
            refine Gx.front 4 rfl ?_
            refine Gx.norm (l' := [Hp.rec_ pa [nv], Hp.rec_ pb [.map (some mb)], Hp.rec_ pc [.int .i64 ((i : Nat) : Int)], Hp.rec_ pd [.func (.func 23) #[] #[ptr pa 0, ptr pb 0, ptr pc 0, ptr pd 0]], Hp.map Try.prog 3 natL natV mb (putM mc kq 1), R, Hp.rec_ b3 [.int .i64 x2.who, .bool x2.all, .slice x2.a x2.n x2.c]]) (by rw [hc0] <;> rfl) ?_
            refine Gx.effg rfl rfl rfl rfl rfl (eff_callV (vs := [.int .i64 ((kq : Nat) : Int)]) (fs := []) (cs := [ptr pa 0, ptr pb 0, ptr pc 0, ptr pd 0]) rfl Try.fn23 rfl rfl (fun w H => ih (unm n (putM mc kq 1)) (by have := unm_mono (n := n) hI2.mono; omega) (c := c + 12 * a + b + 1 - 144) rfl hBn (by omega) hkn H)) ?_
            rintro _ l9 ⟨r9, ms9, hB9, hD9, rfl, hl9⟩
            refine Gx.sepEq (l' := [Hp.rec_ pa [nv], Hp.rec_ pb [.map (some mb)], Hp.rec_ pc [.int .i64 ((i : Nat) : Int)], Hp.rec_ pd [.func (.func 23) #[] #[ptr pa 0, ptr pb 0, ptr pc 0, ptr pd 0]], Hp.map Try.prog 3 natL natV mb ms9, R, Hp.rec_ b3 [.int .i64 x2.who, .bool x2.all, .slice x2.a x2.n x2.c]]) hl9 ?_
            refine Gx.valg rfl rfl rfl rfl rfl (val_pickT rfl rfl rfl) ?_
            refine Gx.val rfl rfl rfl (val_pickF rfl rfl rfl) ?_
            refine Gx.done ?_
            refine Gx.thenN ?_
            refine Gx.bool rfl (fun h9 => ?_) (fun h9 => ?_)
            · refine Gx.seq ?_
              refine Gx.region ?_
              refine Gx.val rfl rfl rfl (val_assign rfl rfl) ?_
              refine Gx.done ?_
              refine Gx.thenN ?_
              refine Gx.ret ?_
              refine Gx.blkR ?_
              refine Gx.thenR ?_
              refine Gx.thenR ?_
              refine Gx.blkR ?_
              refine Gx.blkR ?_
              refine Gx.thenR ?_
              refine Gx.thenR ?_
              refine Gx.blkR ?_
              refine Gx.thenR ?_
              refine Gx.drop 6 rfl ?_
              refine Gx.ret1 Try.results23 rfl ?_
              have hr9 : r9 = true := h9
              subst hr9
              exact ⟨true, ms9, hB9.mono (by omega), ⟨fun k hk7 => hD9.mono k (mkd_put.2 (.inr (hI2.mono k hk7))), fun _ => .step hed (hD9.yes rfl), fun h => (by cases h)⟩, rfl, by show _ * (_ * (_ * (_ * (_ * (_ * 1))))) = _; rw [Hp.mul_one]⟩
            · refine Gx.skip ?_
              refine Gx.blkN ?_
              refine Gx.thenN ?_
              have hr9 : r9 = false := h9
              subst hr9
              refine Gx.region ?_
              refine Gx.val rfl rfl rfl (val_add rfl rfl rfl (r := ((b + 1 : Nat) : Int)) (w64 (by omega) (by omega))) ?_
              refine Gx.val rfl rfl rfl (val_move rfl rfl) ?_
              refine Gx.done ?_
              refine Gx.thenN ?_
              exact Gx.round (b + 1, ms9) ⟨by first | omega | (dsimp only; omega), hI2.new hki hD9 (fun k hk7 => by have h8 := gone_one hx2 hx6 hk7; rw [hkt] at h8; exact h8), hB9.mono (by dsimp only; omega)⟩ (by first | omega | (dsimp only; omega)) ((.cons rfl (.cons rfl (.cons rfl (.cons rfl (.cons rfl (.cons rfl (.cons rfl (.cons rfl (.cons rfl (.cons rfl (.cons rfl (.cons rfl .nil))))))))))))) rfl
          · obtain ⟨hc0, hmk, hBo⟩ : 1 ≤ cw ∧ mkd mc kq ∧ BdS n (putM mc kq (cw + 1)) (c + 12 * a + b + 1) := by rcases hdec with ⟨q, _⟩ | q; (exfalso; omega); (exact q)
            refine Gx.skipg rfl rfl rfl rfl rfl rfl ?_
            refine Gx.skipg rfl rfl rfl rfl rfl rfl ?_
            refine Gx.skipg rfl rfl rfl rfl rfl rfl ?_
            refine Gx.valg rfl rfl rfl rfl rfl (val_pickF rfl rfl rfl) ?_
            refine Gx.val rfl rfl rfl (val_pickF rfl rfl rfl) ?_
            refine Gx.done ?_
            refine Gx.thenN ?_
            refine Gx.f rfl ?_
            refine Gx.skip ?_
            refine Gx.blkN ?_
            refine Gx.thenN ?_
            refine Gx.region ?_
            refine Gx.val rfl rfl rfl (val_add rfl rfl rfl (r := ((b + 1 : Nat) : Int)) (w64 (by omega) (by omega))) ?_
            refine Gx.val rfl rfl rfl (val_move rfl rfl) ?_
            refine Gx.done ?_
            refine Gx.thenN ?_
            exact Gx.round (b + 1, putM mc kq (cw + 1)) ⟨by first | omega | (dsimp only; omega), hI2.old (x := cw + 1) hmk hki (fun k hk7 => by have h8 := gone_one hx2 hx6 hk7; rw [hkt] at h8; exact h8), hBo.mono (by dsimp only; omega)⟩ (by first | omega | (dsimp only; omega)) ((.cons rfl (.cons rfl (.cons rfl (.cons rfl (.cons rfl (.cons rfl (.cons rfl (.cons rfl (.cons rfl (.cons rfl (.cons rfl (.cons rfl .nil))))))))))))) rfl
      · refine Gx.exit ?_
        refine Gx.thenE ?_
        refine Gx.thenE ?_
        refine Gx.blkE ?_
        refine Gx.blkN ?_
        refine Gx.thenN ?_
        refine Gx.region ?_
        refine Gx.val rfl rfl rfl (val_add rfl rfl rfl (r := ((a + 1 : Nat) : Int)) (w64 (by omega) (by omega))) ?_
        refine Gx.val rfl rfl rfl (val_move rfl rfl) ?_
        refine Gx.done ?_
        refine Gx.thenN ?_
        refine Gx.drop 6 rfl ?_
        exact Gx.round (a + 1, mc) ⟨by first | omega | (dsimp only; omega), hI2.mono' fun k hk7 => by obtain rfl : b = x2.fr.length := (by omega); exact gone_next hx2 hwj hk7, hB2.mono (by dsimp only; omega)⟩ (by first | omega | (dsimp only; omega)) ((.cons rfl (.cons rfl (.cons rfl (.cons rfl (.cons rfl (.cons rfl (.cons rfl (.cons rfl .nil))))))))) rfl
  · refine Gx.exit ?_
    refine Gx.thenE ?_
    refine Gx.thenE ?_
    refine Gx.blkE ?_
    refine Gx.thenN ?_
    refine Gx.seq ?_
    refine Gx.region ?_
    refine Gx.val rfl rfl rfl (val_assign rfl rfl) ?_
    refine Gx.done ?_
    refine Gx.thenN ?_
    refine Gx.ret ?_
    refine Gx.ret1 Try.results23 rfl ?_
    obtain rfl : a = l.length := by omega
    exact ⟨false, mc, hB.mono (by omega), hI.fin fun k => gone_all, rfl, by show _ * (_ * (_ * (_ * (_ * (_ * 1))))) = _; rw [Hp.mul_one]⟩

theorem round_no {W : World} {n i : Int} {nv : Value} {l : List Nd} (h : NdS W nv l) (hk : ¬ OkN n l) : Calls Try.prog 16 #[.int .i64 n, nv, .int .i64 i] W fun e w' => ∃ v, e = .returned v ∧ (∃ c : Int, v = .tuple #[.bool false, .int .i64 c] ∧ c ≠ 0) ∧ Below W.heap.size W w' := by
  refine calls_rel (R := fun v => ∃ c : Int, v = .tuple #[.bool false, .int .i64 c] ∧ c ≠ 0) (Gx.enter (l := []) Try.func16 rfl Try.ntmps16 rfl (Sat.start W) ?_)
  refine Gx.know (m' := [(0, .int .i64 n), (1, nv), (2, .int .i64 i)]) (.cons rfl (.cons rfl (.cons rfl .nil))) ?_
  refine Gx.seq ?_
  refine Gx.region ?_
  refine Gx.eff rfl rfl rfl (eff_box rfl rfl (vs := [nv]) h.sl.isS.cellsL) ?_
  rintro _ _ ⟨b1, rfl, rfl⟩
  refine Gx.eff rfl rfl rfl (eff_box rfl rfl (vs := [.int .i64 i]) rfl) ?_
  rintro _ _ ⟨b2, rfl, rfl⟩
  refine Gx.val rfl rfl rfl (val_assign rfl rfl) ?_
  refine Gx.val rfl rfl rfl (val_assign rfl rfl) ?_
  refine Gx.done ?_
  refine Gx.thenN ?_
  refine Gx.seq ?_
  refine Gx.seq ?_
  refine Gx.region ?_
  refine Gx.val rfl rfl rfl (val_move rfl rfl) ?_
  refine Gx.val rfl rfl rfl (val_load rfl Try.ty22 rfl rfl (cell_rec (k := 1) rfl rfl)) ?_
  refine Gx.eff rfl rfl rfl (eff_callE (vs := [.int .i64 n, nv]) rfl Try.fn17 rfl (R := fun v => ∃ c : Int, v = .int .i64 c ∧ c ≠ 0) (fun w H => check_no (h.below H.below) hk)) ?_
  rintro _ _ ⟨⟨c, rfl, hc⟩, rfl⟩
  refine Gx.val rfl rfl rfl (val_assign rfl rfl) ?_
  refine Gx.done ?_
  refine Gx.thenN ?_
  refine Gx.seq ?_
  refine Gx.region ?_
  refine Gx.val rfl rfl rfl (val_move rfl rfl) ?_
  refine Gx.val rfl rfl rfl (val_neq rfl rfl rfl) ?_
  refine Gx.done ?_
  refine Gx.thenN ?_
  refine Gx.decT rfl (by exact hc) ?_
  refine Gx.seq ?_
  refine Gx.region ?_
  refine Gx.val rfl rfl rfl (val_move rfl rfl) ?_
  refine Gx.val rfl rfl rfl (val_assign rfl rfl) ?_
  refine Gx.val rfl rfl rfl (val_assign rfl rfl) ?_
  refine Gx.done ?_
  refine Gx.thenN ?_
  refine Gx.ret ?_
  refine Gx.thenR ?_
  refine Gx.ret2 Try.results16 rfl rfl ?_
  exact ⟨_, rfl, hc⟩

theorem round_out {W : World} {n i : Int} {nv : Value} {l : List Nd} (h : NdS W nv l) (hk : OkN n l) (hi : i < 0 ∨ n ≤ i) : Calls Try.prog 16 #[.int .i64 n, nv, .int .i64 i] W fun e w' => ∃ v, e = .returned v ∧ (∃ c : Int, v = .tuple #[.bool false, .int .i64 c] ∧ c ≠ 0) ∧ Below W.heap.size W w' := by
  refine calls_rel (R := fun v => ∃ c : Int, v = .tuple #[.bool false, .int .i64 c] ∧ c ≠ 0) (Gx.enter (l := []) Try.func16 rfl Try.ntmps16 rfl (Sat.start W) ?_)
  refine Gx.know (m' := [(0, .int .i64 n), (1, nv), (2, .int .i64 i)]) (.cons rfl (.cons rfl (.cons rfl .nil))) ?_
  refine Gx.seq ?_
  refine Gx.region ?_
  refine Gx.eff rfl rfl rfl (eff_box rfl rfl (vs := [nv]) h.sl.isS.cellsL) ?_
  rintro _ _ ⟨b1, rfl, rfl⟩
  refine Gx.eff rfl rfl rfl (eff_box rfl rfl (vs := [.int .i64 i]) rfl) ?_
  rintro _ _ ⟨b2, rfl, rfl⟩
  refine Gx.val rfl rfl rfl (val_assign rfl rfl) ?_
  refine Gx.val rfl rfl rfl (val_assign rfl rfl) ?_
  refine Gx.done ?_
  refine Gx.thenN ?_
  refine Gx.seq ?_
  refine Gx.seq ?_
  refine Gx.region ?_
  refine Gx.val rfl rfl rfl (val_move rfl rfl) ?_
  refine Gx.val rfl rfl rfl (val_load rfl Try.ty22 rfl rfl (cell_rec (k := 1) rfl rfl)) ?_
  refine Gx.val rfl rfl rfl (val_call (vs := [.int .i64 n, nv]) rfl Try.fn17 rfl (fun w H => check_ok (h.below H.below) hk)) ?_
  refine Gx.val rfl rfl rfl (val_assign rfl rfl) ?_
  refine Gx.done ?_
  refine Gx.thenN ?_
  refine Gx.seq ?_
  refine Gx.region ?_
  refine Gx.val rfl rfl rfl (val_move rfl rfl) ?_
  refine Gx.val rfl rfl rfl (Val.cast (val_neq rfl rfl rfl) (v' := .bool false) rfl) ?_
  refine Gx.done ?_
  refine Gx.thenN ?_
  refine Gx.f rfl ?_
  refine Gx.skip ?_
  refine Gx.thenN ?_
  refine Gx.seq ?_
  refine Gx.seq ?_
  refine Gx.region ?_
  refine Gx.val rfl rfl rfl (val_load rfl Try.ty3 rfl rfl (cell_rec (k := 0) rfl rfl)) ?_
  refine Gx.val rfl rfl rfl (val_lss rfl rfl rfl) ?_
  refine Gx.val rfl rfl rfl (val_move rfl rfl) ?_
  refine Gx.cases (t := 19) rfl (fun h3 => ?_) (fun h3 => ?_)
  · refine Gx.skipg rfl rfl rfl rfl rfl rfl ?_
    refine Gx.skipg rfl rfl rfl rfl rfl rfl ?_
    refine Gx.skipg rfl rfl rfl rfl rfl rfl ?_
    refine Gx.val rfl rfl rfl (val_pickT rfl rfl rfl) ?_
    refine Gx.done ?_
    refine Gx.thenN ?_
    refine Gx.t rfl ?_
    refine Gx.seq ?_
    refine Gx.region ?_
    refine Gx.val rfl rfl rfl (val_assign rfl rfl) ?_
    refine Gx.val rfl rfl rfl (val_assign rfl rfl) ?_
    refine Gx.done ?_
    refine Gx.thenN ?_
    refine Gx.ret ?_
    refine Gx.thenR ?_
    refine Gx.ret2 Try.results16 rfl rfl ?_
    exact ⟨_, rfl, by decide⟩
  · refine Gx.valg rfl rfl rfl rfl rfl (val_load rfl Try.ty3 rfl rfl (cell_rec (k := 0) rfl rfl)) ?_
    refine Gx.valg rfl rfl rfl rfl rfl (val_move rfl rfl) ?_
    refine Gx.valg rfl rfl rfl rfl rfl (val_geq rfl rfl rfl) ?_
    refine Gx.val rfl rfl rfl (val_pickF rfl rfl rfl) ?_
    refine Gx.done ?_
    refine Gx.thenN ?_
    refine Gx.decT rfl (by omega) ?_
    refine Gx.seq ?_
    refine Gx.region ?_
    refine Gx.val rfl rfl rfl (val_assign rfl rfl) ?_
    refine Gx.val rfl rfl rfl (val_assign rfl rfl) ?_
    refine Gx.done ?_
    refine Gx.thenN ?_
    refine Gx.ret ?_
    refine Gx.thenR ?_
    refine Gx.ret2 Try.results16 rfl rfl ?_
    exact ⟨_, rfl, by decide⟩

theorem round_ok {W : World} {n i : Nat} {nv : Value} {l : List Nd} (h : NdS W nv l) (hk : OkN (n : Int) l) (hi : i < n) : Calls Try.prog 16 #[.int .i64 ((n : Nat) : Int), nv, .int .i64 ((i : Nat) : Int)] W fun e w' => ∃ v, e = .returned v ∧ (∃ b : Bool, v = .tuple #[.bool b, .int .i64 0] ∧ (b = true ↔ Rch l i i)) ∧ Below W.heap.size W w' := by
  have hn12 := hk.n12
  refine calls_rel (R := fun v => ∃ b : Bool, v = .tuple #[.bool b, .int .i64 0] ∧ (b = true ↔ Rch l i i)) (Gx.enter (l := []) Try.func16 rfl Try.ntmps16 rfl (Sat.start W) ?_)
  refine Gx.know (m' := [(0, .int .i64 ((n : Nat) : Int)), (1, nv), (2, .int .i64 ((i : Nat) : Int))]) (.cons rfl (.cons rfl (.cons rfl .nil))) ?_
  refine Gx.seq ?_
  refine Gx.region ?_
  refine Gx.eff rfl rfl rfl (eff_box rfl rfl (vs := [nv]) h.sl.isS.cellsL) ?_
  rintro _ _ ⟨b1, rfl, rfl⟩
  refine Gx.eff rfl rfl rfl (eff_box rfl rfl (vs := [.int .i64 ((i : Nat) : Int)]) rfl) ?_
  rintro _ _ ⟨b2, rfl, rfl⟩
  refine Gx.val rfl rfl rfl (val_assign rfl rfl) ?_
  refine Gx.val rfl rfl rfl (val_assign rfl rfl) ?_
  refine Gx.done ?_
  refine Gx.thenN ?_
  refine Gx.seq ?_
  refine Gx.seq ?_
  refine Gx.region ?_
  refine Gx.val rfl rfl rfl (val_move rfl rfl) ?_
  refine Gx.val rfl rfl rfl (val_load rfl Try.ty22 rfl rfl (cell_rec (k := 1) rfl rfl)) ?_
  refine Gx.val rfl rfl rfl (val_call (vs := [.int .i64 ((n : Nat) : Int), nv]) rfl Try.fn17 rfl (fun w H => check_ok (h.below H.below) hk)) ?_
  refine Gx.val rfl rfl rfl (val_assign rfl rfl) ?_
  refine Gx.done ?_
  refine Gx.thenN ?_
  refine Gx.seq ?_
  refine Gx.region ?_
  refine Gx.val rfl rfl rfl (val_move rfl rfl) ?_
  refine Gx.val rfl rfl rfl (Val.cast (val_neq rfl rfl rfl) (v' := .bool false) rfl) ?_
  refine Gx.done ?_
  refine Gx.thenN ?_
  refine Gx.f rfl ?_
  refine Gx.skip ?_
  refine Gx.thenN ?_
  refine Gx.seq ?_
  refine Gx.seq ?_
  refine Gx.region ?_
  refine Gx.val rfl rfl rfl (val_load rfl Try.ty3 rfl rfl (cell_rec (k := 0) rfl rfl)) ?_
  refine Gx.val rfl rfl rfl (val_lss rfl rfl rfl) ?_
  refine Gx.val rfl rfl rfl (val_move rfl rfl) ?_
  refine Gx.slot (t := 19) (v := .bool false) (look_decF rfl (by omega)) ?_
  refine Gx.valg rfl rfl rfl rfl rfl (val_load rfl Try.ty3 rfl rfl (cell_rec (k := 0) rfl rfl)) ?_
  refine Gx.valg rfl rfl rfl rfl rfl (val_move rfl rfl) ?_
  refine Gx.valg rfl rfl rfl rfl rfl (val_geq rfl rfl rfl) ?_
  refine Gx.val rfl rfl rfl (val_pickF rfl rfl rfl) ?_
  refine Gx.done ?_
  refine Gx.thenN ?_
  refine Gx.decF rfl (by omega) ?_
  refine Gx.skip ?_
  refine Gx.thenN ?_
  refine Gx.seq ?_
  refine Gx.region ?_
  refine Gx.eff rfl rfl rfl (eff_makeMap 3 natL natV rfl) ?_
  rintro _ _ ⟨b3, rfl, rfl⟩
  refine Gx.eff rfl rfl rfl (eff_alloc rfl Try.ty48 (vs := [.map none]) rfl) ?_
  rintro _ _ ⟨b4, rfl, rfl⟩
  refine Gx.eff0 rfl rfl (eff_store rfl Try.ty48 rfl rfl (us := [.map (some b3)]) rfl rfl rfl (k := 0) rfl (rfl) (vs' := [.map (some b3)]) (rfl) (l' := [Hp.rec_ b4 [.map (some b3)], Hp.map Try.prog 3 natL natV b3 ([]), Hp.rec_ b2 [.int .i64 ((i : Nat) : Int)], Hp.rec_ b1 [nv]]) rfl) ?_
  rintro _ _ rfl
  refine Gx.done ?_
  refine Gx.thenN ?_
  refine Gx.seq ?_
  refine Gx.region ?_
  refine Gx.eff rfl rfl rfl (eff_alloc rfl Try.ty45 (vs := [.nilFunc]) rfl) ?_
  rintro _ _ ⟨b5, rfl, rfl⟩
  refine Gx.done ?_
  refine Gx.thenN ?_
  refine Gx.seq ?_
  refine Gx.region ?_
  refine Gx.val rfl rfl rfl (Val.cast (val_makeFunc (us := []) (vs := [ptr b1 0, ptr b4 0, ptr b2 0, ptr b5 0]) rfl rfl rfl) (v' := .func (.func 23) #[] #[ptr b1 0, ptr b4 0, ptr b2 0, ptr b5 0]) rfl) ?_
  refine Gx.eff0 rfl rfl (eff_store rfl Try.ty45 rfl rfl (us := [.func (.func 23) #[] #[ptr b1 0, ptr b4 0, ptr b2 0, ptr b5 0]]) rfl rfl rfl (k := 0) rfl (rfl) (vs' := [.func (.func 23) #[] #[ptr b1 0, ptr b4 0, ptr b2 0, ptr b5 0]]) (rfl) (l' := [Hp.rec_ b5 [.func (.func 23) #[] #[ptr b1 0, ptr b4 0, ptr b2 0, ptr b5 0]], Hp.rec_ b4 [.map (some b3)], Hp.map Try.prog 3 natL natV b3 ([]), Hp.rec_ b2 [.int .i64 ((i : Nat) : Int)], Hp.rec_ b1 [nv]]) rfl) ?_
  rintro _ _ rfl
  refine Gx.done ?_
  refine Gx.thenN ?_
  refine Gx.seq ?_
  refine Gx.region ?_
  refine Gx.val rfl rfl rfl (val_load rfl Try.ty45 rfl rfl (cell_rec (k := 0) rfl rfl)) ?_
  refine Gx.val rfl rfl rfl (val_load rfl Try.ty3 rfl rfl (cell_rec (k := 3) rfl rfl)) ?_
  refine Gx.front 2 rfl ?_
  refine Gx.front 1 rfl ?_
  refine Gx.front 3 rfl ?_
  refine Gx.front 3 rfl ?_
  refine Gx.front 4 rfl ?_
  refine Gx.eff rfl rfl rfl (eff_callV (vs := [.int .i64 ((i : Nat) : Int)]) (fs := []) (cs := [ptr b1 0, ptr b4 0, ptr b2 0, ptr b5 0]) rfl Try.fn23 rfl rfl (fun w H => probe_any h hk hi (unm n []) (c := 144 * n) rfl (BdS.zero n) (by omega) hi H)) ?_
  rintro _ l9 ⟨r9, ms9, hB9, hD9, rfl, hl9⟩
  refine Gx.sepEq (l' := [Hp.rec_ b1 [nv], Hp.rec_ b4 [.map (some b3)], Hp.rec_ b2 [.int .i64 ((i : Nat) : Int)], Hp.rec_ b5 [.func (.func 23) #[] #[ptr b1 0, ptr b4 0, ptr b2 0, ptr b5 0]], Hp.map Try.prog 3 natL natV b3 ms9]) hl9 ?_
  refine Gx.val rfl rfl rfl (val_assign rfl rfl) ?_
  refine Gx.val rfl rfl rfl (val_assign rfl rfl) ?_
  refine Gx.done ?_
  refine Gx.thenN ?_
  refine Gx.ret ?_
  refine Gx.ret2 Try.results16 rfl rfl ?_
  exact ⟨r9, rfl, ⟨fun e => hD9.yes e, fun hr => by cases r9 with | true => rfl | false => exact absurd hr hD9.none⟩⟩

end Go.Proofs.Ytplcflifofomjaa
