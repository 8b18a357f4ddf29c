/- What may be a system. The walks. No condition. -/
import Derived.Test.YtpjkpnfelpfhaaaA4
import Derived.Test.YtpjkpnfelpfhaaaW2
namespace Go.Proofs.Ytpjkpnfelpfhaaa
open Go.RowKit
set_option linter.unusedVariables false
set_option linter.unusedSimpArgs false
set_option maxRecDepth 100000

theorem sep_app (l l' : List Hp) : sep (l ++ l') = sep l * sep l' := by
  induction l with
  | nil => show sep l' = 1 * sep l'; rw [Hp.one_mul]
  | cons p l ih => show p * sep (l ++ l') = p * sep l * sep l'; rw [ih, Hp.mul_assoc]
theorem pairs_it {W : World} {qv : Value} {q : List Nat} {bx : Nat} {good : Nat × Nat → Bool} {ok : Bool} {R : Hp} (hs : SlS FU 1 W qv q) (hok : ok = true ↔ ∀ p, Two q p → good p = true)
    (lp : Nat) (B' Z' : Hp) (w1 : World) (hY : YieldsC Try.prog W lp encT (Two q) good B' Z') (H : Sat W w1 (B' * (Hp.rec_ bx [qv] * R))) :
    Calls Try.prog 37 (#[.func (.yield lp) #[] #[]] ++ #[ptr bx 0]) w1 fun e w' => (∃ v, e = .returned v) ∧ ((ok = true ∧ Sat W w' (B' * (Hp.rec_ bx [qv] * R))) ∨ (ok = false ∧ Sat W w' (Z' * (Hp.rec_ bx [qv] * R)))) := by
  refine (pairs1_any hs hY.1 hY.2 hok H).mono ?_
  rintro e w' ⟨v, l', rfl, ⟨_, _, hc⟩, h⟩
  exact ⟨⟨v, rfl⟩, hc.imp (fun q => ⟨q.1, by rw [q.2] at h; exact h⟩) (fun q => ⟨q.1, by rw [q.2] at h; exact h⟩)⟩
theorem pairs_any {W : World} {qv : Value} {q : List Nat} (hs : SlS FU 1 W qv q) :
    Calls Try.prog 25 #[qv] W (Ret W fun u l' => ∃ b : Nat, u = .func (.func 37) #[] #[ptr b 0] ∧ l' = [Hp.rec_ b [qv]]) := by
  refine Gx.enter (l := []) Try.func25 rfl Try.ntmps25 rfl (Sat.start W) ?_
  refine Gx.know (m' := [(0, qv)]) (.cons rfl .nil) ?_
  refine Gx.seq ?_
  refine Gx.region ?_
  refine Gx.eff rfl rfl rfl (eff_box rfl rfl (vs := [qv]) hs.isS.cellsL) ?_
  rintro _ _ ⟨b1, rfl, rfl⟩
  refine Gx.val rfl rfl rfl (val_assign rfl rfl) ?_
  refine Gx.done ?_
  refine Gx.thenN ?_
  refine Gx.seq ?_
  refine Gx.region ?_
  refine Gx.val rfl rfl rfl (Val.cast (val_makeFunc (us := []) (vs := [ptr b1 0]) rfl rfl rfl) (v' := .func (.func 37) #[] #[ptr b1 0]) rfl) ?_
  refine Gx.val rfl rfl rfl (val_assign rfl rfl) ?_
  refine Gx.done ?_
  refine Gx.thenN ?_
  refine Gx.ret ?_
  refine Gx.ret1 Try.results25 rfl ?_
  exact ⟨b1, rfl, rfl⟩

/-- a system -/
def Sysm (n : Int) (q : List Nat) : Prop := Fmly n q ∧ ∀ p, Two q p → p.1 &&& p.2 ≠ 0
theorem check_ret {W : World} {n : Int} {qv : Value} {xs : List Nat} {ok : Bool} (hs : SlS FU 1 W qv xs) (hlt : ∀ x ∈ xs, x < 4294967296) (hok : ok = true ↔ ∀ p, Two xs p → (fun p : Nat × Nat => decide (p.1 &&& p.2 ≠ 0)) p = true) :
    Calls Try.prog 22 #[.int .i64 n, qv] W (Ret W fun u l' => ∃ c : Int, u = .int .i64 c ∧ (c = 0 ↔ Sysm n xs)) := by
  refine Gx.enterM (l := []) Try.func22 rfl Try.ntmps22 rfl (Sat.start W) ?_
  refine Gx.know (m' := [(0, .int .i64 n), (1, qv)]) (.cons rfl (.cons rfl .nil)) ?_
  refine Gx.seq ?_
  refine Gx.region ?_
  refine Gx.eff rfl rfl rfl (eff_alloc rfl Try.ty23 (vs := [.int .i64 0]) rfl) ?_
  rintro _ _ ⟨b1, rfl, rfl⟩
  refine Gx.done ?_
  refine Gx.thenN ?_
  refine Gx.seq ?_
  refine Gx.seq ?_
  refine Gx.region ?_
  refine Gx.val rfl rfl rfl (val_move rfl rfl) ?_
  refine Gx.val rfl rfl rfl (val_move rfl rfl) ?_
  refine Gx.eff rfl rfl rfl (eff_callE (vs := [.int .i64 n, qv]) rfl Try.fn18 rfl (R := fun v => ∃ c : Int, v = .int .i64 c ∧ (c = 0 ↔ Fmly n xs)) (fun w H => family_any (hs.below H.below))) ?_
  rintro _ _ ⟨⟨cc, rfl, hcc⟩, rfl⟩
  refine Gx.val rfl rfl rfl (val_assign rfl rfl) ?_
  refine Gx.done ?_
  refine Gx.thenN ?_
  refine Gx.seq ?_
  refine Gx.region ?_
  refine Gx.val rfl rfl rfl (val_move rfl rfl) ?_
  refine Gx.val rfl rfl rfl (val_neq rfl rfl rfl) ?_
  refine Gx.done ?_
  refine Gx.thenN ?_
  refine Gx.dec rfl (fun h2 => ?_) (fun h2 => ?_)
  · refine Gx.seq ?_
    refine Gx.region ?_
    refine Gx.val rfl rfl rfl (val_move rfl rfl) ?_
    refine Gx.eff0 rfl rfl (eff_store rfl Try.ty23 rfl rfl (us := [.int .i64 cc]) rfl rfl rfl (k := 0) rfl (rfl) (vs' := [.int .i64 cc]) (rfl) (l' := [Hp.rec_ b1 [.int .i64 cc]]) rfl) ?_
    rintro _ _ rfl
    refine Gx.done ?_
    refine Gx.thenN ?_
    refine Gx.ret ?_
    refine Gx.thenR ?_
    refine Gx.retM0 ?_
    refine Gx.retCell Try.results22 Try.ty23 rfl rfl (k := 0) rfl ?_
    exact ⟨_, rfl, ⟨fun h => by omega, fun h => by have := hcc.2 h.1; omega⟩⟩
  · refine Gx.skip ?_
    refine Gx.thenN ?_
    refine Gx.seq ?_
    refine Gx.seq ?_
    have hfm : Fmly n xs := hcc.1 (by omega)
    refine Gx.region ?_
    refine Gx.val rfl rfl rfl (val_move rfl rfl) ?_
    refine Gx.eff rfl rfl rfl (eff_callN (vs := [qv]) rfl Try.fn25 rfl (fun w H => pairs_any (qv := qv) (hs.below H.below))) ?_
    rintro _ _ ⟨_, ⟨bx, rfl, rfl⟩, rfl⟩
    refine Gx.norm (l' := [Hp.rec_ bx [qv], Hp.rec_ b1 [.int .i64 0]]) rfl ?_
    refine Gx.done ?_
    refine Gx.thenN ?_
    refine Gx.block ?_
    refine Gx.front 0 rfl ?_
    refine Gx.front 1 rfl ?_
    refine Gx.know (m' := [(0, .int .i64 n), (1, qv), (4, ptr b1 0), (15, .func (.func 37) #[] #[ptr bx 0])]) (.cons rfl (.cons rfl (.cons rfl (.cons rfl .nil)))) ?_
    refine Gx.rangeC (lb := #[ptr bx 0]) (B := sep [Hp.rec_ b1 [.int .i64 0]]) (Z := sep [Hp.rec_ b1 [.int .i64 3]]) (R0 := sep [Hp.rec_ bx [qv]]) (R1 := sep [Hp.rec_ bx [qv]]) (lB := [Hp.rec_ b1 [.int .i64 0]]) (lZ := [Hp.rec_ b1 [.int .i64 3]]) (S := Two xs) (good := fun p => decide (p.1 &&& p.2 ≠ 0)) (ok := ok) (enc := encT) (fun p => (17, .int .u32 ((p.2 : Nat) : Int)) :: (16, .int .u32 ((p.1 : Nat) : Int)) :: [(0, .int .i64 n), (1, qv), (4, ptr b1 0), (15, .func (.func 37) #[] #[ptr bx 0])]) rfl Try.fn37 (fun p => rfl) (sep_app [Hp.rec_ b1 [.int .i64 0]] [Hp.rec_ bx [qv]]) (fun R => (sep_snoc [Hp.rec_ b1 [.int .i64 0]] R).symm) (fun R => (sep_snoc [Hp.rec_ b1 [.int .i64 3]] R).symm) (pairs_it hs hok) (fun p a s => s.two rfl rfl) (fun p => (7, .int .u32 ((p.2 : Nat) : Int)) :: (6, .int .u32 ((p.1 : Nat) : Int)) :: (17, .int .u32 ((p.2 : Nat) : Int)) :: (16, .int .u32 ((p.1 : Nat) : Int)) :: [(0, .int .i64 n), (1, qv), (4, ptr b1 0), (15, .func (.func 37) #[] #[ptr bx 0])]) ?_ ?_ ?_ ?_ ?_
    · intro lp p R K hS h
      refine Rx.seq ?_
      refine Rx.region ?_
      refine Rx.val (fun c' h => by cases h) rfl rfl rfl (val_assign rfl rfl) ?_
      refine Rx.done ?_
      refine Gx.thenN ?_
      refine Rx.region ?_
      refine Rx.val (fun c' h => by cases h) rfl rfl rfl (val_assign rfl rfl) ?_
      refine Rx.done ?_
      refine Gx.thenN ?_
      exact Gx.know (.cons rfl (.cons rfl (.cons rfl (.cons rfl (.cons rfl (.cons rfl (.cons rfl (.cons rfl .nil)))))))) h
    · intro lp p R hS hgd
      obtain ⟨i, j, _, hp1, hp2⟩ := hS
      have hl1 := hlt _ (List.mem_of_getElem? hp1)
      have hl2 := hlt _ (List.mem_of_getElem? hp2)
      have hgn := of_decide_eq_true hgd
      refine Rx.block ?_
      refine Rx.seq ?_
      refine Rx.region ?_
      refine Rx.val (fun c' h => by cases h) rfl rfl rfl (val_move rfl rfl) ?_
      refine Rx.val (fun c' h => by cases h) rfl rfl rfl (val_move rfl rfl) ?_
      refine Rx.val (fun c' h => by cases h) rfl rfl rfl (val_and rfl rfl rfl (and32 hl1 hl2)) ?_
      refine Rx.val (fun c' h => by cases h) rfl rfl rfl (val_eql rfl rfl rfl) ?_
      refine Rx.done ?_
      refine Gx.thenN ?_
      refine Rx.decF rfl (by omega) ?_
      refine Rx.skip ?_
      refine Gx.blkN ?_
      exact fun a w s H => H
    · intro lp p R hS hgd
      obtain ⟨i, j, _, hp1, hp2⟩ := hS
      have hl1 := hlt _ (List.mem_of_getElem? hp1)
      have hl2 := hlt _ (List.mem_of_getElem? hp2)
      have hgn := of_decide_eq_false hgd
      refine Rx.block ?_
      refine Rx.seq ?_
      refine Rx.region ?_
      refine Rx.val (fun c' h => by cases h) rfl rfl rfl (val_move rfl rfl) ?_
      refine Rx.val (fun c' h => by cases h) rfl rfl rfl (val_move rfl rfl) ?_
      refine Rx.val (fun c' h => by cases h) rfl rfl rfl (val_and rfl rfl rfl (and32 hl1 hl2)) ?_
      refine Rx.val (fun c' h => by cases h) rfl rfl rfl (val_eql rfl rfl rfl) ?_
      refine Rx.done ?_
      refine Gx.thenN ?_
      refine Rx.decT rfl (by have := Classical.not_not.1 hgn; omega) ?_
      refine Rx.seq ?_
      refine Rx.region ?_
      refine Rx.eff0 (fun c' h => by cases h) rfl rfl (eff_store rfl Try.ty23 rfl rfl (us := [.int .i64 3]) rfl rfl rfl (k := 0) rfl (rfl) (vs' := [.int .i64 3]) (rfl) (l' := [Hp.rec_ b1 [.int .i64 3], R]) rfl) ?_
      rintro _ _ rfl
      refine Rx.done ?_
      refine Gx.thenN ?_
      refine Rx.ret ?_
      refine Gx.blkR ?_
      exact fun a w s H => H
    · intro hokT D
      refine Gx.blkN ?_
      refine Gx.thenN ?_
      refine Gx.seq ?_
      refine Gx.region ?_
      refine Gx.eff0 rfl rfl (eff_store rfl Try.ty23 rfl rfl (us := [.int .i64 0]) rfl rfl rfl (k := 1) rfl (rfl) (vs' := [.int .i64 0]) (rfl) (l' := [Hp.obj D (.deferred (some [])), Hp.rec_ b1 [.int .i64 0], sep [Hp.rec_ bx [qv]]]) rfl) ?_
      rintro _ _ rfl
      refine Gx.done ?_
      refine Gx.thenN ?_
      refine Gx.ret ?_
      refine Gx.retM1 ?_
      refine Gx.retCell Try.results22 Try.ty23 rfl rfl (k := 1) rfl ?_
      exact ⟨_, rfl, ⟨fun _ => ⟨hfm, fun p hp => of_decide_eq_true (hok.1 hokT p hp)⟩, fun _ => rfl⟩⟩
    · intro hokF D
      refine Gx.blkR ?_
      refine Gx.thenR ?_
      refine Gx.retM1 ?_
      refine Gx.retCell Try.results22 Try.ty23 rfl rfl (k := 1) rfl ?_
      exact ⟨_, rfl, ⟨fun h => absurd h (by decide), fun h => by
        exfalso
        have := hok.2 fun p hp => decide_eq_true (h.2 p hp)
        rw [hokF] at this; cases this⟩⟩

theorem check_any {W : World} {n : Int} {qv : Value} {xs : List Nat} (hs : SlS FU 1 W qv xs) (hlt : ∀ x ∈ xs, x < 4294967296) :
    Calls Try.prog 22 #[.int .i64 n, qv] W fun e w' => ∃ v, e = .returned v ∧ (∃ c : Int, v = .int .i64 c ∧ (c = 0 ↔ Sysm n xs)) ∧ Below W.heap.size W w' := by
  refine (check_ret (ok := @decide (∀ p, Two xs p → (fun p : Nat × Nat => decide (p.1 &&& p.2 ≠ 0)) p = true) (Classical.propDecidable _)) hs hlt (@decide_eq_true_iff _ (Classical.propDecidable _))).mono ?_
  rintro e w' ⟨v, l', rfl, hc, h⟩
  exact ⟨v, rfl, hc, h.below⟩
end Go.Proofs.Ytpjkpnfelpfhaaa
