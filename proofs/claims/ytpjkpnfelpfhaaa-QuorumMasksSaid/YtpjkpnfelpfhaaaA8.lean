/- Masks. The walk. No condition. -/
import Derived.Test.YtpjkpnfelpfhaaaA5
import Derived.Test.YtpjkpnfelpfhaaaA7
import Derived.Test.YtpjkpnfelpfhaaaW2
namespace Go.Proofs.Ytpjkpnfelpfhaaa
open Go.RowKit
set_option linter.unusedVariables false
set_option linter.unusedSimpArgs false
set_option maxRecDepth 100000

theorem any_no (k : Nat) (bl : List Nat) : (!(bl.any fun w => decide (sizeF w ≤ k))) = true ↔ ∀ w ∈ bl, k < sizeF w := by
  rw [Bool.not_eq_true', List.any_eq_false]
  simp only [decide_eq_true_eq, Nat.not_le]
theorem masks_ret {W : World} {n : Int} {k : Nat} {qv : Value} {xs : List Nat} {ok : Bool} (hs : SlS FU 1 W qv xs) (hlt : ∀ x ∈ xs, x < 4294967296) (hf : Sysm n xs) (hk : (k : Int) ≤ n) (hok : ok = true ↔ ∀ p, Two xs p → (fun p : Nat × Nat => decide (2 * k + 1 ≤ sizeF (p.1 &&& p.2))) p = true) :
    Calls Try.prog 15 #[.int .i64 n, qv, .int .i64 ((k : Nat) : Int)] W (Ret W fun u l' => ∃ r : Bool, u = .tuple #[.bool r, .int .i64 0] ∧ (r = true → ∃ bl, IsBlk xs bl ∧ (∀ p, Two xs p → 2 * k + 1 ≤ sizeF (p.1 &&& p.2)) ∧ ∀ w ∈ bl, k < sizeF w) ∧ ((∀ p, Two xs p → 2 * k + 1 ≤ sizeF (p.1 &&& p.2)) → (∀ bl, IsBlk xs bl → ∀ w ∈ bl, k < sizeF w) → r = true)) := by
  have h12 : ∀ x ∈ xs, x < 4096 := fun x hx => (hf.1.lt12 hx).2
  have hn12 := hf.1.hi
  refine Gx.enterM (l := []) Try.func15 rfl Try.ntmps15 rfl (Sat.start W) ?_
  refine Gx.know (m' := [(0, .int .i64 n), (1, qv), (2, .int .i64 ((k : Nat) : Int))]) (.cons rfl (.cons rfl (.cons rfl .nil))) ?_
  refine Gx.seq ?_
  refine Gx.region ?_
  refine Gx.eff rfl rfl rfl (eff_box rfl rfl (vs := [.int .i64 ((k : Nat) : Int)]) rfl) ?_
  rintro _ _ ⟨b1, rfl, rfl⟩
  refine Gx.eff rfl rfl rfl (eff_alloc rfl Try.ty4 (vs := [.bool false]) rfl) ?_
  rintro _ _ ⟨b2, rfl, rfl⟩
  refine Gx.eff rfl rfl rfl (eff_alloc rfl Try.ty23 (vs := [.int .i64 0]) rfl) ?_
  rintro _ _ ⟨b3, rfl, rfl⟩
  refine Gx.done ?_
  refine Gx.thenN ?_
  refine Gx.seq ?_
  refine Gx.seq ?_
  refine Gx.region ?_
  refine Gx.val rfl rfl rfl (val_move rfl rfl) ?_
  refine Gx.val rfl rfl rfl (val_move rfl rfl) ?_
  refine Gx.eff rfl rfl rfl (eff_callE (vs := [.int .i64 n, qv]) rfl Try.fn22 rfl (R := fun v => ∃ c : Int, v = .int .i64 c ∧ (c = 0 ↔ Sysm n xs)) (fun w H => check_any (hs.below H.below) hlt)) ?_
  rintro _ _ ⟨⟨cc, rfl, hcc⟩, rfl⟩
  refine Gx.val rfl rfl rfl (val_assign rfl rfl) ?_
  refine Gx.done ?_
  refine Gx.thenN ?_
  refine Gx.seq ?_
  have hc0 : cc = 0 := hcc.2 hf
  refine Gx.region ?_
  refine Gx.val rfl rfl rfl (val_move rfl rfl) ?_
  refine Gx.val rfl rfl rfl (val_neq rfl rfl rfl) ?_
  refine Gx.done ?_
  refine Gx.thenN ?_
  refine Gx.decF rfl (by omega) ?_
  refine Gx.skip ?_
  refine Gx.thenN ?_
  refine Gx.seq ?_
  refine Gx.seq ?_
  refine Gx.region ?_
  refine Gx.val rfl rfl rfl (val_load rfl Try.ty3 rfl rfl (cell_rec (k := 2) rfl rfl)) ?_
  refine Gx.val rfl rfl rfl (val_lss rfl rfl rfl) ?_
  refine Gx.val rfl rfl rfl (val_move rfl rfl) ?_
  refine Gx.slot (t := 19) (v := .bool false) (look_decF rfl (by omega)) ?_
  refine Gx.valg rfl rfl rfl rfl rfl (val_load rfl Try.ty3 rfl rfl (cell_rec (k := 2) rfl rfl)) ?_
  refine Gx.valg rfl rfl rfl rfl rfl (val_move rfl rfl) ?_
  refine Gx.valg rfl rfl rfl rfl rfl (val_gtr rfl rfl rfl) ?_
  refine Gx.val rfl rfl rfl (val_pickF rfl rfl rfl) ?_
  refine Gx.done ?_
  refine Gx.thenN ?_
  refine Gx.decF rfl (by omega) ?_
  refine Gx.skip ?_
  refine Gx.thenN ?_
  refine Gx.seq ?_
  refine Gx.seq ?_
  refine Gx.region ?_
  refine Gx.val rfl rfl rfl (val_move rfl rfl) ?_
  refine Gx.eff rfl rfl rfl (eff_callN (vs := [qv]) rfl Try.fn25 rfl (fun w H => pairs_any (qv := qv) (hs.below H.below))) ?_
  rintro _ _ ⟨_, ⟨bx, rfl, rfl⟩, rfl⟩
  refine Gx.norm (l' := [Hp.rec_ bx [qv], Hp.rec_ b3 [.int .i64 0], Hp.rec_ b2 [.bool false], Hp.rec_ b1 [.int .i64 ((k : Nat) : Int)]]) rfl ?_
  refine Gx.done ?_
  refine Gx.thenN ?_
  refine Gx.block ?_
  refine Gx.front 0 rfl ?_
  refine Gx.front 1 rfl ?_
  refine Gx.front 2 rfl ?_
  refine Gx.front 3 rfl ?_
  refine Gx.know (m' := [(0, .int .i64 n), (1, qv), (5, ptr b1 0), (6, ptr b2 0), (7, ptr b3 0), (25, .func (.func 37) #[] #[ptr bx 0])]) (.cons rfl (.cons rfl (.cons rfl (.cons rfl (.cons rfl (.cons rfl .nil)))))) ?_
  refine Gx.rangeC (lb := #[ptr bx 0]) (B := sep [Hp.rec_ b1 [.int .i64 ((k : Nat) : Int)], Hp.rec_ b2 [.bool false], Hp.rec_ b3 [.int .i64 0]]) (Z := sep [Hp.rec_ b1 [.int .i64 ((k : Nat) : Int)], Hp.rec_ b2 [.bool false], Hp.rec_ b3 [.int .i64 0]]) (R0 := sep [Hp.rec_ bx [qv]]) (R1 := sep [Hp.rec_ bx [qv]]) (lB := [Hp.rec_ b1 [.int .i64 ((k : Nat) : Int)], Hp.rec_ b2 [.bool false], Hp.rec_ b3 [.int .i64 0]]) (lZ := [Hp.rec_ b1 [.int .i64 ((k : Nat) : Int)], Hp.rec_ b2 [.bool false], Hp.rec_ b3 [.int .i64 0]]) (S := Two xs) (good := fun p => decide (2 * k + 1 ≤ sizeF (p.1 &&& p.2))) (ok := ok) (enc := encT) (fun p => (27, .int .u32 ((p.2 : Nat) : Int)) :: (26, .int .u32 ((p.1 : Nat) : Int)) :: [(0, .int .i64 n), (1, qv), (5, ptr b1 0), (6, ptr b2 0), (7, ptr b3 0), (25, .func (.func 37) #[] #[ptr bx 0])]) rfl Try.fn37 (fun p => rfl) (sep_app [Hp.rec_ b1 [.int .i64 ((k : Nat) : Int)], Hp.rec_ b2 [.bool false], Hp.rec_ b3 [.int .i64 0]] [Hp.rec_ bx [qv]]) (fun R => (sep_snoc [Hp.rec_ b1 [.int .i64 ((k : Nat) : Int)], Hp.rec_ b2 [.bool false], Hp.rec_ b3 [.int .i64 0]] R).symm) (fun R => (sep_snoc [Hp.rec_ b1 [.int .i64 ((k : Nat) : Int)], Hp.rec_ b2 [.bool false], Hp.rec_ b3 [.int .i64 0]] R).symm) (pairs_it hs hok) (fun p a s => s.two rfl rfl) (fun p => (10, .int .u32 ((p.2 : Nat) : Int)) :: (9, .int .u32 ((p.1 : Nat) : Int)) :: (27, .int .u32 ((p.2 : Nat) : Int)) :: (26, .int .u32 ((p.1 : Nat) : Int)) :: [(0, .int .i64 n), (1, qv), (5, ptr b1 0), (6, ptr b2 0), (7, ptr b3 0), (25, .func (.func 37) #[] #[ptr bx 0])]) ?_ ?_ ?_ ?_ ?_
  · intro lp p R K hS h
    refine Rx.seq ?_
    refine Rx.region ?_
    refine Rx.val (fun c' h => by cases h) rfl rfl rfl (val_assign rfl rfl) ?_
    refine Rx.done ?_
    refine Gx.thenN ?_
    refine Rx.region ?_
    refine Rx.val (fun c' h => by cases h) rfl rfl rfl (val_assign rfl rfl) ?_
    refine Rx.done ?_
    refine Gx.thenN ?_
    exact Gx.know (.cons rfl (.cons rfl (.cons rfl (.cons rfl (.cons rfl (.cons rfl (.cons rfl (.cons rfl (.cons rfl (.cons rfl .nil)))))))))) h
  · intro lp p R hS hgd
    obtain ⟨i, j, _, hp1, hp2⟩ := hS
    have hl1 := h12 _ (List.mem_of_getElem? hp1)
    have hl2 := h12 _ (List.mem_of_getElem? hp2)
    have hl3 : p.1 &&& p.2 < 4096 := Nat.lt_of_le_of_lt Nat.and_le_left hl1
    have hgn := of_decide_eq_true hgd
    refine Rx.block ?_
    refine Rx.seq ?_
    refine Rx.regionQ rfl Try.mixed (by kernel_rfl) ?_
    refine Gq.val rfl rfl rfl (val_move rfl rfl) ?_
    refine Gq.val rfl rfl rfl (val_move rfl rfl) ?_
    refine Gq.val rfl rfl rfl (val_and rfl rfl rfl (and32 (by omega) (by omega))) ?_
    refine Gq.val rfl rfl rfl (val_call (vs := [.int .u32 (((p.1 &&& p.2) : Nat) : Int)]) rfl Try.fn26 rfl (fun w H => pop_any hl3)) ?_
    refine Gq.val rfl rfl rfl (val_load rfl Try.ty3 rfl rfl (cell_rec (k := 0) rfl rfl)) ?_
    refine Gq.val rfl rfl rfl (val_mul rfl rfl rfl (r := ((2 * k : Nat) : Int)) (w64 (by omega) (by omega))) ?_
    refine Gq.val rfl rfl rfl (val_add rfl rfl rfl (r := ((2 * k + 1 : Nat) : Int)) (w64 (by omega) (by omega))) ?_
    refine Gq.val rfl rfl rfl (val_lss rfl rfl rfl) ?_
    refine Gq.done ?_
    refine Gx.thenN ?_
    refine Rx.decF rfl (by omega) ?_
    refine Rx.skip ?_
    refine Gx.blkN ?_
    exact fun a w s H => H
  · intro lp p R hS hgd
    obtain ⟨i, j, _, hp1, hp2⟩ := hS
    have hl1 := h12 _ (List.mem_of_getElem? hp1)
    have hl2 := h12 _ (List.mem_of_getElem? hp2)
    have hl3 : p.1 &&& p.2 < 4096 := Nat.lt_of_le_of_lt Nat.and_le_left hl1
    have hgn := of_decide_eq_false hgd
    refine Rx.block ?_
    refine Rx.seq ?_
    refine Rx.regionQ rfl Try.mixed (by kernel_rfl) ?_
    refine Gq.val rfl rfl rfl (val_move rfl rfl) ?_
    refine Gq.val rfl rfl rfl (val_move rfl rfl) ?_
    refine Gq.val rfl rfl rfl (val_and rfl rfl rfl (and32 (by omega) (by omega))) ?_
    refine Gq.val rfl rfl rfl (val_call (vs := [.int .u32 (((p.1 &&& p.2) : Nat) : Int)]) rfl Try.fn26 rfl (fun w H => pop_any hl3)) ?_
    refine Gq.val rfl rfl rfl (val_load rfl Try.ty3 rfl rfl (cell_rec (k := 0) rfl rfl)) ?_
    refine Gq.val rfl rfl rfl (val_mul rfl rfl rfl (r := ((2 * k : Nat) : Int)) (w64 (by omega) (by omega))) ?_
    refine Gq.val rfl rfl rfl (val_add rfl rfl rfl (r := ((2 * k + 1 : Nat) : Int)) (w64 (by omega) (by omega))) ?_
    refine Gq.val rfl rfl rfl (val_lss rfl rfl rfl) ?_
    refine Gq.done ?_
    refine Gx.thenN ?_
    refine Rx.decT rfl (by omega) ?_
    refine Rx.seq ?_
    refine Rx.region ?_
    refine Rx.eff0 (fun c' h => by cases h) rfl rfl (eff_store rfl Try.ty4 rfl rfl (us := [.bool false]) rfl rfl rfl (k := 1) rfl (rfl) (vs' := [.bool false]) (rfl) (l' := [Hp.rec_ b1 [.int .i64 ((k : Nat) : Int)], Hp.rec_ b2 [.bool false], Hp.rec_ b3 [.int .i64 0], R]) rfl) ?_
    rintro _ _ rfl
    refine Rx.eff0 (fun c' h => by cases h) rfl rfl (eff_store rfl Try.ty23 rfl rfl (us := [.int .i64 0]) rfl rfl rfl (k := 2) rfl (rfl) (vs' := [.int .i64 0]) (rfl) (l' := [Hp.rec_ b1 [.int .i64 ((k : Nat) : Int)], Hp.rec_ b2 [.bool false], Hp.rec_ b3 [.int .i64 0], R]) rfl) ?_
    rintro _ _ rfl
    refine Rx.done ?_
    refine Gx.thenN ?_
    refine Rx.ret ?_
    refine Gx.blkR ?_
    exact fun a w s H => H
  · intro hokT D
    refine Gx.blkN ?_
    refine Gx.thenN ?_
    refine Gx.seq ?_
    refine Gx.region ?_
    refine Gx.val rfl rfl rfl (val_move rfl rfl) ?_
    refine Gx.eff rfl rfl rfl (eff_callN (vs := [qv]) rfl Try.fn21 rfl (fun w H => blocks_any (hs.below H.below) hf.1.some (by have := hf.1.few; omega) (fun x hx => hf.1.lt12 hx))) ?_
    rintro bv _ ⟨_, ⟨bl, hbv, hbl, rfl⟩, rfl⟩
    refine Gx.norm (l' := [Hp.own FU 1 bv bl, Hp.obj D (.deferred (some [])), Hp.rec_ b1 [.int .i64 ((k : Nat) : Int)], Hp.rec_ b2 [.bool false], Hp.rec_ b3 [.int .i64 0], sep [Hp.rec_ bx [qv]]]) rfl ?_
    refine Gx.val rfl rfl rfl (Val.cast (val_makeFunc (us := []) (vs := [ptr b1 0]) rfl rfl rfl) (v' := .func (.func 28) #[] #[ptr b1 0]) rfl) ?_
    refine Gx.val rfl rfl rfl (val_call (vs := [bv, .func (.func 28) #[] #[ptr b1 0]]) rfl Try.fn27 rfl (fun w H => contains_any28 (q := fun w => decide (sizeF w ≤ k)) ((H.at_ (k := 0) rfl).sls (by have := (hbl.len hf.1).2.1; omega)) (fun w' hb' y hy' => masks1_any (Nat.lt_of_lt_of_le ((hbl.len hf.1).2.2 y hy').2 (show 2 ^ n.toNat ≤ 2 ^ 12 from Nat.pow_le_pow_right (by decide) (by have := hf.1.hi; omega))) (Nat.lt_of_lt_of_le (H.at_ (k := 2) rfl).rec_.1 hb'.size) ((hb'.cell (p := ⟨b1, 0, none⟩) (H.at_ (k := 2) rfl).rec_.1).trans ((H.at_ (k := 2) rfl).cell 0 (u := .int .i64 ((k : Nat) : Int)) rfl))))) ?_
    refine Gx.val rfl rfl rfl (val_not rfl rfl) ?_
    refine Gx.eff0 rfl rfl (eff_store rfl Try.ty4 rfl rfl (us := [.bool (!(bl.any fun w => decide (sizeF w ≤ k)))]) rfl rfl rfl (k := 3) rfl (rfl) (vs' := [.bool (!(bl.any fun w => decide (sizeF w ≤ k)))]) (rfl) (l' := [Hp.own FU 1 bv bl, Hp.obj D (.deferred (some [])), Hp.rec_ b1 [.int .i64 ((k : Nat) : Int)], Hp.rec_ b2 [.bool (!(bl.any fun w => decide (sizeF w ≤ k)))], Hp.rec_ b3 [.int .i64 0], sep [Hp.rec_ bx [qv]]]) rfl) ?_
    rintro _ _ rfl
    refine Gx.eff0 rfl rfl (eff_store rfl Try.ty23 rfl rfl (us := [.int .i64 0]) rfl rfl rfl (k := 4) rfl (rfl) (vs' := [.int .i64 0]) (rfl) (l' := [Hp.own FU 1 bv bl, Hp.obj D (.deferred (some [])), Hp.rec_ b1 [.int .i64 ((k : Nat) : Int)], Hp.rec_ b2 [.bool (!(bl.any fun w => decide (sizeF w ≤ k)))], Hp.rec_ b3 [.int .i64 0], sep [Hp.rec_ bx [qv]]]) rfl) ?_
    rintro _ _ rfl
    refine Gx.done ?_
    refine Gx.thenN ?_
    refine Gx.ret ?_
    refine Gx.front 1 rfl ?_
    refine Gx.retM1 ?_
    refine Gx.retCell2 Try.results15 Try.ty4 rfl Try.ty23 rfl rfl rfl (k := 3) (k' := 4) rfl rfl ?_
    exact ⟨_, rfl, fun h => ⟨bl, hbl, fun p hp => of_decide_eq_true (hok.1 hokT p hp), (any_no k bl).1 h⟩, fun _ h => (any_no k bl).2 (h bl hbl)⟩
  · intro hokF D
    refine Gx.blkR ?_
    refine Gx.thenR ?_
    refine Gx.front 0 rfl ?_
    refine Gx.retM1 ?_
    refine Gx.retCell2 Try.results15 Try.ty4 rfl Try.ty23 rfl rfl rfl (k := 2) (k' := 3) rfl rfl ?_
    exact ⟨_, rfl, fun h => absurd h (by decide), fun h _ => absurd (hok.2 fun p hp => decide_eq_true (h p hp)) (by rw [hokF]; decide)⟩

theorem masks_yes {W : World} {n : Int} {k : Nat} {qv : Value} {xs : List Nat} (hs : SlS FU 1 W qv xs) (hlt : ∀ x ∈ xs, x < 4294967296) (hf : Sysm n xs) (hk : (k : Int) ≤ n) :
    Calls Try.prog 15 #[.int .i64 n, qv, .int .i64 ((k : Nat) : Int)] W fun e w' => ∃ v, e = .returned v ∧ (∃ r : Bool, v = .tuple #[.bool r, .int .i64 0] ∧ (r = true → ∃ bl, IsBlk xs bl ∧ (∀ p, Two xs p → 2 * k + 1 ≤ sizeF (p.1 &&& p.2)) ∧ ∀ w ∈ bl, k < sizeF w) ∧ ((∀ p, Two xs p → 2 * k + 1 ≤ sizeF (p.1 &&& p.2)) → (∀ bl, IsBlk xs bl → ∀ w ∈ bl, k < sizeF w) → r = true)) ∧ Below W.heap.size W w' := by
  refine (masks_ret (ok := @decide (∀ p, Two xs p → (fun p : Nat × Nat => decide (2 * k + 1 ≤ sizeF (p.1 &&& p.2))) p = true) (Classical.propDecidable _)) hs hlt hf hk (@decide_eq_true_iff _ (Classical.propDecidable _))).mono ?_
  rintro e w' ⟨v, l', rfl, hc, h⟩
  exact ⟨v, rfl, hc, h.below⟩
theorem masks_no {W : World} {n b : Int} {qv : Value} {xs : List Nat} (hs : SlS FU 1 W qv xs) (hlt : ∀ x ∈ xs, x < 4294967296) (hf : ¬ (Sysm n xs ∧ 0 ≤ b ∧ b ≤ n)) :
    Calls Try.prog 15 #[.int .i64 n, qv, .int .i64 b] W fun e w' => ∃ v, e = .returned v ∧ (∃ c : Int, v = .tuple #[.bool false, .int .i64 c] ∧ c ≠ 0) ∧ Below W.heap.size W w' := by
  suffices h : Calls Try.prog 15 #[.int .i64 n, qv, .int .i64 b] W (Ret W fun u l' => ∃ c : Int, u = .tuple #[.bool false, .int .i64 c] ∧ c ≠ 0) by
    refine h.mono ?_
    rintro e w' ⟨v, l', rfl, hc, h⟩
    exact ⟨v, rfl, hc, h.below⟩
  refine Gx.enterM (l := []) Try.func15 rfl Try.ntmps15 rfl (Sat.start W) ?_
  refine Gx.know (m' := [(0, .int .i64 n), (1, qv), (2, .int .i64 b)]) (.cons rfl (.cons rfl (.cons rfl .nil))) ?_
  refine Gx.seq ?_
  refine Gx.region ?_
  refine Gx.eff rfl rfl rfl (eff_box rfl rfl (vs := [.int .i64 b]) rfl) ?_
  rintro _ _ ⟨b1, rfl, rfl⟩
  refine Gx.eff rfl rfl rfl (eff_alloc rfl Try.ty4 (vs := [.bool false]) rfl) ?_
  rintro _ _ ⟨b2, rfl, rfl⟩
  refine Gx.eff rfl rfl rfl (eff_alloc rfl Try.ty23 (vs := [.int .i64 0]) rfl) ?_
  rintro _ _ ⟨b3, rfl, rfl⟩
  refine Gx.done ?_
  refine Gx.thenN ?_
  refine Gx.seq ?_
  refine Gx.seq ?_
  refine Gx.region ?_
  refine Gx.val rfl rfl rfl (val_move rfl rfl) ?_
  refine Gx.val rfl rfl rfl (val_move rfl rfl) ?_
  refine Gx.eff rfl rfl rfl (eff_callE (vs := [.int .i64 n, qv]) rfl Try.fn22 rfl (R := fun v => ∃ c : Int, v = .int .i64 c ∧ (c = 0 ↔ Sysm n xs)) (fun w H => check_any (hs.below H.below) hlt)) ?_
  rintro _ _ ⟨⟨cc, rfl, hcc⟩, rfl⟩
  refine Gx.val rfl rfl rfl (val_assign rfl rfl) ?_
  refine Gx.done ?_
  refine Gx.thenN ?_
  refine Gx.seq ?_
  refine Gx.region ?_
  refine Gx.val rfl rfl rfl (val_move rfl rfl) ?_
  refine Gx.val rfl rfl rfl (val_neq rfl rfl rfl) ?_
  refine Gx.done ?_
  refine Gx.thenN ?_
  refine Gx.dec rfl (fun h4 => ?_) (fun h4 => ?_)
  · refine Gx.seq ?_
    refine Gx.region ?_
    refine Gx.val rfl rfl rfl (val_move rfl rfl) ?_
    refine Gx.eff0 rfl rfl (eff_store rfl Try.ty4 rfl rfl (us := [.bool false]) rfl rfl rfl (k := 1) rfl (rfl) (vs' := [.bool false]) (rfl) (l' := [Hp.rec_ b3 [.int .i64 0], Hp.rec_ b2 [.bool false], Hp.rec_ b1 [.int .i64 b]]) rfl) ?_
    rintro _ _ rfl
    refine Gx.eff0 rfl rfl (eff_store rfl Try.ty23 rfl rfl (us := [.int .i64 cc]) rfl rfl rfl (k := 0) rfl (rfl) (vs' := [.int .i64 cc]) (rfl) (l' := [Hp.rec_ b3 [.int .i64 cc], Hp.rec_ b2 [.bool false], Hp.rec_ b1 [.int .i64 b]]) rfl) ?_
    rintro _ _ rfl
    refine Gx.done ?_
    refine Gx.thenN ?_
    refine Gx.ret ?_
    refine Gx.thenR ?_
    refine Gx.retM0 ?_
    refine Gx.retCell2 Try.results15 Try.ty4 rfl Try.ty23 rfl rfl rfl (k := 1) (k' := 0) rfl rfl ?_
    exact ⟨_, rfl, by omega⟩
  · refine Gx.skip ?_
    refine Gx.thenN ?_
    refine Gx.seq ?_
    refine Gx.seq ?_
    refine Gx.region ?_
    refine Gx.val rfl rfl rfl (val_load rfl Try.ty3 rfl rfl (cell_rec (k := 2) rfl rfl)) ?_
    refine Gx.val rfl rfl rfl (val_lss rfl rfl rfl) ?_
    refine Gx.val rfl rfl rfl (val_move rfl rfl) ?_
    refine Gx.cases (t := 19) rfl (fun h5 => ?_) (fun h5 => ?_)
    · refine Gx.skipg rfl rfl rfl rfl rfl rfl ?_
      refine Gx.skipg rfl rfl rfl rfl rfl rfl ?_
      refine Gx.skipg rfl rfl rfl rfl rfl rfl ?_
      refine Gx.val rfl rfl rfl (val_pickT rfl rfl rfl) ?_
      refine Gx.done ?_
      refine Gx.thenN ?_
      refine Gx.t rfl ?_
      refine Gx.seq ?_
      refine Gx.region ?_
      refine Gx.eff0 rfl rfl (eff_store rfl Try.ty4 rfl rfl (us := [.bool false]) rfl rfl rfl (k := 1) rfl (rfl) (vs' := [.bool false]) (rfl) (l' := [Hp.rec_ b3 [.int .i64 0], Hp.rec_ b2 [.bool false], Hp.rec_ b1 [.int .i64 b]]) rfl) ?_
      rintro _ _ rfl
      refine Gx.eff0 rfl rfl (eff_store rfl Try.ty23 rfl rfl (us := [.int .i64 2]) rfl rfl rfl (k := 0) rfl (rfl) (vs' := [.int .i64 2]) (rfl) (l' := [Hp.rec_ b3 [.int .i64 2], Hp.rec_ b2 [.bool false], Hp.rec_ b1 [.int .i64 b]]) rfl) ?_
      rintro _ _ rfl
      refine Gx.done ?_
      refine Gx.thenN ?_
      refine Gx.ret ?_
      refine Gx.thenR ?_
      refine Gx.retM0 ?_
      refine Gx.retCell2 Try.results15 Try.ty4 rfl Try.ty23 rfl rfl rfl (k := 1) (k' := 0) rfl rfl ?_
      exact ⟨_, rfl, by omega⟩
    · refine Gx.valg rfl rfl rfl rfl rfl (val_load rfl Try.ty3 rfl rfl (cell_rec (k := 2) rfl rfl)) ?_
      refine Gx.valg rfl rfl rfl rfl rfl (val_move rfl rfl) ?_
      refine Gx.valg rfl rfl rfl rfl rfl (val_gtr rfl rfl rfl) ?_
      refine Gx.val rfl rfl rfl (val_pickF rfl rfl rfl) ?_
      refine Gx.done ?_
      refine Gx.thenN ?_
      refine Gx.dec rfl (fun h6 => ?_) (fun h6 => ?_)
      · refine Gx.seq ?_
        refine Gx.region ?_
        refine Gx.eff0 rfl rfl (eff_store rfl Try.ty4 rfl rfl (us := [.bool false]) rfl rfl rfl (k := 1) rfl (rfl) (vs' := [.bool false]) (rfl) (l' := [Hp.rec_ b3 [.int .i64 0], Hp.rec_ b2 [.bool false], Hp.rec_ b1 [.int .i64 b]]) rfl) ?_
        rintro _ _ rfl
        refine Gx.eff0 rfl rfl (eff_store rfl Try.ty23 rfl rfl (us := [.int .i64 2]) rfl rfl rfl (k := 0) rfl (rfl) (vs' := [.int .i64 2]) (rfl) (l' := [Hp.rec_ b3 [.int .i64 2], Hp.rec_ b2 [.bool false], Hp.rec_ b1 [.int .i64 b]]) rfl) ?_
        rintro _ _ rfl
        refine Gx.done ?_
        refine Gx.thenN ?_
        refine Gx.ret ?_
        refine Gx.thenR ?_
        refine Gx.retM0 ?_
        refine Gx.retCell2 Try.results15 Try.ty4 rfl Try.ty23 rfl rfl rfl (k := 1) (k' := 0) rfl rfl ?_
        exact ⟨_, rfl, by omega⟩
      · refine Gx.skip ?_
        refine Gx.thenN ?_
        refine Gx.seq ?_
        refine Gx.seq ?_
        exact absurd ⟨hcc.1 (by omega), by omega, by omega⟩ hf

end Go.Proofs.Ytpjkpnfelpfhaaa
