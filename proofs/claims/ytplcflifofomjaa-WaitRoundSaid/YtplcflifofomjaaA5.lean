/- Who waits for whom: the table. The walk. No condition. -/
import Derived.Test.YtplcflifofomjaaA4
import Derived.Test.YtplcflifofomjaaM2
namespace Go.Proofs.Ytplcflifofomjaa
open Go.RowKit
set_option linter.unusedVariables false
set_option linter.unusedSimpArgs false
set_option maxRecDepth 100000

theorem waits_own {W : World} {n : Nat} {nv : Value} {l : List Nd} (h : NdS W nv l) (hk : OkN (n : Int) l) : Calls Try.prog 15 #[.int .i64 ((n : Nat) : Int), nv] W (Ret W fun v l' => IsS v ∧ ∃ w, l' = [Hp.own FB 1 v w] ∧ WR n l w) := by
  have m1 := sls_bd h.sl
  have hn1 := hk.n1
  have hn12 := hk.n12
  have hnn : n * n ≤ 12 * 12 := Nat.mul_le_mul (by omega) (by omega)
  refine Gx.enter (l := []) Try.func15 rfl Try.ntmps15 rfl (Sat.start W) ?_
  refine Gx.know (m' := [(0, .int .i64 ((n : Nat) : Int)), (1, nv)]) (.cons rfl (.cons rfl .nil)) ?_
  refine Gx.seq ?_
  refine Gx.region ?_
  refine Gx.val rfl rfl rfl (val_assign rfl rfl) ?_
  refine Gx.done ?_
  refine Gx.thenN ?_
  refine Gx.seq ?_
  refine Gx.region ?_
  refine Gx.val rfl rfl rfl (val_move rfl rfl) ?_
  refine Gx.val rfl rfl rfl (val_move rfl rfl) ?_
  refine Gx.val rfl rfl rfl (val_mul rfl rfl rfl (r := ((n * n : Nat) : Int)) (w64 (by rw [Int.natCast_mul]) (by omega))) ?_
  refine Gx.eff rfl rfl rfl (eff_makeSlice (n := (n * n)) (f := FB) rfl Try.underlying36 Try.ty4 rfl rfl (rfl) (rfl) FB_len false rfl (by omega) (by omega)) ?_
  rintro v1 _ ⟨hiv1, rfl⟩
  refine Gx.val rfl rfl rfl (val_assign rfl rfl) ?_
  refine Gx.done ?_
  refine Gx.thenN ?_
  refine Gx.seq ?_
  refine Gx.seq ?_
  refine Gx.region ?_
  refine Gx.val rfl rfl rfl (val_move rfl rfl) ?_
  refine Gx.val rfl rfl rfl (val_len rfl Try.underlying22 rfl (len_base h.sl)) ?_
  refine Gx.val rfl rfl rfl (val_move rfl rfl) ?_
  refine Gx.done ?_
  refine Gx.thenN ?_
  refine Gx.block ?_
  refine Gx.loop (ι := Nat × (List Bool)) (fun ξ => (ξ.1 ≤ l.length) ∧ (WRel n l ξ.2) ∧ (∀ x ∈ l.take ξ.1, ∀ z ∈ x.fr, onF ξ.2 (x.who.toNat * n + z.toNat))) (fun ξ => [(0, .int .i64 ((n : Nat) : Int)), (1, nv), (5, v1), (17, nv), (18, .int .i64 ((l.length : Nat) : Int)), (19, .int .i64 ((ξ.1 : Nat) : Int))]) (fun ξ => [Hp.own FB 1 v1 ξ.2]) (fun ξ => l.length - ξ.1) (0, (List.replicate (n * n) false)) ⟨by first | omega | (dsimp only; omega), WRel.zero n l, fun x hx => by simp at hx⟩ ((.cons rfl (.cons rfl (.cons rfl (.cons rfl (.cons rfl (.cons rfl .nil))))))) rfl ?_
  rintro ⟨a, w⟩ ⟨ha, hw, hed⟩
  dsimp only at ha hw hed
  refine Gx.know (m' := [(0, .int .i64 ((n : Nat) : Int)), (1, nv), (5, v1), (17, nv), (18, .int .i64 ((l.length : Nat) : Int)), (19, .int .i64 ((a : Nat) : Int))]) (.cons rfl (.cons rfl (.cons rfl (.cons rfl (.cons rfl (.cons rfl .nil)))))) (Gx.norm (l' := [Hp.own FB 1 v1 w]) rfl ?_)
  refine Gx.seq ?_
  refine Gx.region ?_
  refine Gx.val rfl rfl rfl (val_lss rfl rfl rfl) ?_
  refine Gx.done ?_
  refine Gx.thenN ?_
  refine Gx.seq ?_
  refine Gx.dec rfl (fun h2 => ?_) (fun h2 => ?_)
  · refine Gx.skip ?_
    refine Gx.thenN ?_
    refine Gx.seq ?_
    refine Gx.block ?_
    refine Gx.seq ?_
    refine Gx.region ?_
    obtain ⟨x3, hx3⟩ := get_of_lt (xs := l) (k := a) (by omega)
    refine Gx.val rfl rfl rfl (val_ixa rfl Try.underlying22 Try.ty38 rfl rfl (j := a) (rfl) (reach_base h.sl hx3)) ?_
    refine Gx.val rfl rfl rfl (Val.cast (val_loadA rfl Try.ty38 rfl rfl rfl (cells_base h.sl hx3)) (v' := .agg #[.int .i64 x3.who, .bool x3.all, .slice x3.a x3.n x3.c]) rfl) ?_
    refine Gx.eff rfl rfl rfl (eff_alloc rfl Try.ty38 (vs := [.int .i64 0, .bool false, .slice none 0 0]) rfl) ?_
    rintro _ _ ⟨b4, rfl, rfl⟩
    refine Gx.eff0 rfl rfl (eff_store rfl Try.ty38 rfl rfl (us := [.int .i64 x3.who, .bool x3.all, .slice x3.a x3.n x3.c]) rfl rfl rfl (k := 0) rfl (rfl) (vs' := [.int .i64 x3.who, .bool x3.all, .slice x3.a x3.n x3.c]) (rfl) (l' := [Hp.rec_ b4 [.int .i64 x3.who, .bool x3.all, .slice x3.a x3.n x3.c], Hp.own FB 1 v1 w]) rfl) ?_
    rintro _ _ rfl
    refine Gx.done ?_
    refine Gx.thenN ?_
    refine Gx.seq ?_
    have hmem := List.mem_of_getElem? hx3
    have hfx := h.fr x3 hmem
    have hxk := hk.el x3 hmem
    have hxl := hxk.lt
    obtain ⟨wq, hwq⟩ : ∃ wq : Nat, x3.who = (wq : Int) := ⟨x3.who.toNat, by have := hxk.w0; omega⟩
    have hwt : x3.who.toNat = wq := by omega
    have hwn : wq < n := by have := hxk.w1; omega
    have hmul : wq * n + n ≤ n * n := by rw [← Nat.succ_mul]; exact Nat.mul_le_mul_right n hwn
    refine Gx.norm (l' := [Hp.rec_ b4 [.int .i64 ((wq : Nat) : Int), .bool x3.all, .slice x3.a x3.n x3.c], Hp.own FB 1 v1 w]) (by rw [hwq] <;> rfl) ?_
    refine Gx.region ?_
    refine Gx.val rfl rfl rfl (Val.cast (val_fieldAddr rfl Try.underlying38 rfl Try.ty24 rfl rfl) (v' := ptr b4 2) rfl) ?_
    refine Gx.val rfl rfl rfl (val_load rfl Try.ty24 rfl rfl (cell_rec (k := 0) rfl rfl)) ?_
    refine Gx.val rfl rfl rfl (val_len rfl Try.underlying24 rfl (len_base hfx)) ?_
    refine Gx.val rfl rfl rfl (val_move rfl rfl) ?_
    refine Gx.done ?_
    refine Gx.thenN ?_
    refine Gx.block ?_
    refine Gx.front 0 rfl ?_
    refine Gx.front 1 rfl ?_
    refine Gx.loop (ι := Nat × (List Bool)) (fun ξ => (ξ.1 ≤ x3.fr.length) ∧ (WRel n l ξ.2) ∧ (∀ x ∈ l.take a, ∀ z ∈ x.fr, onF ξ.2 (x.who.toNat * n + z.toNat)) ∧ (∀ z ∈ x3.fr.take ξ.1, onF ξ.2 (x3.who.toNat * n + z.toNat))) (fun ξ => [(0, .int .i64 ((n : Nat) : Int)), (1, nv), (5, v1), (7, ptr b4 0), (17, nv), (18, .int .i64 ((l.length : Nat) : Int)), (19, .int .i64 ((a : Nat) : Int)), (24, .slice x3.a x3.n x3.c), (25, .int .i64 ((x3.fr.length : Nat) : Int)), (26, .int .i64 ((ξ.1 : Nat) : Int))]) (fun ξ => [Hp.own FB 1 v1 ξ.2, Hp.rec_ b4 [.int .i64 ((wq : Nat) : Int), .bool x3.all, .slice x3.a x3.n x3.c]]) (fun ξ => x3.fr.length - ξ.1) (0, w) ⟨by first | omega | (dsimp only; omega), hw, hed, fun z hz => by simp at hz⟩ ((.cons rfl (.cons rfl (.cons rfl (.cons rfl (.cons rfl (.cons rfl (.cons rfl (.cons rfl (.cons rfl (.cons rfl .nil))))))))))) rfl ?_
    rintro ⟨b, w⟩ ⟨hb, hw2, hed2, hfb⟩
    dsimp only at hb hw2 hed2 hfb
    refine Gx.know (m' := [(0, .int .i64 ((n : Nat) : Int)), (1, nv), (5, v1), (7, ptr b4 0), (17, nv), (18, .int .i64 ((l.length : Nat) : Int)), (19, .int .i64 ((a : Nat) : Int)), (24, .slice x3.a x3.n x3.c), (25, .int .i64 ((x3.fr.length : Nat) : Int)), (26, .int .i64 ((b : Nat) : Int))]) (.cons rfl (.cons rfl (.cons rfl (.cons rfl (.cons rfl (.cons rfl (.cons rfl (.cons rfl (.cons rfl (.cons rfl .nil)))))))))) (Gx.norm (l' := [Hp.own FB 1 v1 w, Hp.rec_ b4 [.int .i64 ((wq : Nat) : Int), .bool x3.all, .slice x3.a x3.n x3.c]]) rfl ?_)
    refine Gx.seq ?_
    refine Gx.region ?_
    refine Gx.val rfl rfl rfl (val_lss rfl rfl rfl) ?_
    refine Gx.done ?_
    refine Gx.thenN ?_
    refine Gx.seq ?_
    refine Gx.dec rfl (fun h5 => ?_) (fun h5 => ?_)
    · refine Gx.skip ?_
      refine Gx.thenN ?_
      refine Gx.seq ?_
      refine Gx.block ?_
      refine Gx.seq ?_
      refine Gx.region ?_
      obtain ⟨x6, hx6⟩ := get_of_lt (xs := x3.fr) (k := b) (by omega)
      refine Gx.val rfl rfl rfl (val_ixa rfl Try.underlying24 Try.ty3 rfl rfl (j := b) (rfl) (reach_base hfx hx6)) ?_
      refine Gx.val rfl rfl rfl (val_load rfl Try.ty3 rfl rfl (cell_base (i := 0) hfx hx6 rfl)) ?_
      refine Gx.val rfl rfl rfl (val_assign rfl rfl) ?_
      refine Gx.done ?_
      refine Gx.thenN ?_
      have hzm := List.mem_of_getElem? hx6
      have hzk := hxk.fr x6 hzm
      obtain ⟨kq, hkq⟩ : ∃ kq : Nat, x6 = (kq : Int) := ⟨x6.toNat, by omega⟩
      have hkt : x6.toNat = kq := by omega
      have hkn : kq < n := by omega
      have hwl := hw2.len
      refine Gx.slot (t := 9) (v := .int .i64 ((kq : Nat) : Int)) (congrArg some (congrArg (Value.int .i64) hkq)) ?_
      refine Gx.region ?_
      refine Gx.val rfl rfl rfl (val_move rfl rfl) ?_
      refine Gx.val rfl rfl rfl (Val.cast (val_fieldAddr rfl Try.underlying38 rfl Try.ty3 rfl rfl) (v' := ptr b4 0) rfl) ?_
      refine Gx.val rfl rfl rfl (val_load rfl Try.ty3 rfl rfl (cell_rec (k := 1) rfl rfl)) ?_
      refine Gx.val rfl rfl rfl (val_move rfl rfl) ?_
      refine Gx.val rfl rfl rfl (val_mul rfl rfl rfl (r := ((wq * n : Nat) : Int)) (w64 (by rw [Int.natCast_mul]) (by omega))) ?_
      refine Gx.val rfl rfl rfl (val_move rfl rfl) ?_
      refine Gx.val rfl rfl rfl (val_add rfl rfl rfl (r := ((wq * n + kq : Nat) : Int)) (w64 (by omega) (by omega))) ?_
      obtain ⟨x7, hx7⟩ := get_of_lt (xs := w) (k := wq * n + kq) (by omega)
      refine Gx.val rfl rfl rfl (val_ixa rfl Try.underlying36 Try.ty4 rfl rfl (j := wq * n + kq) (rfl) (reach_own (k := 0) rfl hx7)) ?_
      refine Gx.eff0 rfl rfl (eff_storeElA true rfl Try.ty4 rfl rfl rfl FB_one (k := 0) rfl FB_len hx7 (l' := [Hp.own FB 1 v1 (w.set (wq * n + kq) true), Hp.rec_ b4 [.int .i64 ((wq : Nat) : Int), .bool x3.all, .slice x3.a x3.n x3.c]]) rfl) ?_
      rintro _ _ rfl
      refine Gx.done ?_
      refine Gx.blkN ?_
      refine Gx.thenN ?_
      refine Gx.region ?_
      refine Gx.val rfl rfl rfl (val_add rfl rfl rfl (r := ((b + 1 : Nat) : Int)) (w64 (by omega) (by omega))) ?_
      refine Gx.val rfl rfl rfl (val_move rfl rfl) ?_
      refine Gx.done ?_
      refine Gx.thenN ?_
      exact Gx.round (b + 1, w.set (wq * n + kq) true) ⟨by first | omega | (dsimp only; omega), hw2.set hwn hkn (.one ⟨x3, hmem, hwt, x6, hzm, hkt⟩), fun y hy z hz => on_set (hed2 y hy z hz), fun y hy => by
          rcases (mem_take_succ hx6).1 hy with q | hyx
          · exact on_set (hfb y q)
          · rw [hyx, hkt, hwt]; exact on_self (by rw [hw2.len]; omega)⟩ (by first | omega | (dsimp only; omega)) ((.cons rfl (.cons rfl (.cons rfl (.cons rfl (.cons rfl (.cons rfl (.cons rfl (.cons rfl (.cons rfl (.cons rfl .nil))))))))))) rfl
    · refine Gx.exit ?_
      refine Gx.thenE ?_
      refine Gx.thenE ?_
      refine Gx.blkE ?_
      refine Gx.blkN ?_
      refine Gx.thenN ?_
      refine Gx.region ?_
      refine Gx.val rfl rfl rfl (val_add rfl rfl rfl (r := ((a + 1 : Nat) : Int)) (w64 (by omega) (by omega))) ?_
      refine Gx.val rfl rfl rfl (val_move rfl rfl) ?_
      refine Gx.done ?_
      refine Gx.thenN ?_
      refine Gx.drop 1 rfl ?_
      exact Gx.round (a + 1, w) ⟨by first | omega | (dsimp only; omega), by first | omega | (dsimp only; omega), fun y hy => by
          rcases (mem_take_succ hx3).1 hy with q | hyx
          · exact hed2 y q
          · obtain rfl : b = x3.fr.length := by omega
            rw [List.take_length] at hfb; rw [hyx]; exact hfb⟩ (by first | omega | (dsimp only; omega)) ((.cons rfl (.cons rfl (.cons rfl (.cons rfl (.cons rfl (.cons rfl .nil))))))) rfl
  · refine Gx.exit ?_
    refine Gx.thenE ?_
    refine Gx.thenE ?_
    refine Gx.blkE ?_
    refine Gx.thenN ?_
    refine Gx.seq ?_
    refine Gx.seq ?_
    refine Gx.region ?_
    refine Gx.val rfl rfl rfl (val_assign rfl rfl) ?_
    refine Gx.done ?_
    refine Gx.thenN ?_
    refine Gx.block ?_
    obtain rfl : a = l.length := by omega
    rw [List.take_length] at hed
    have hp0 : ∀ p q, p < n → q < n → Pk l 0 p q → onF w (p * n + q) := fun p q _ _ ⟨x, hx, e1, z, hz, e2⟩ => by rw [← e1, ← e2]; exact hed x hx z hz
    refine Gx.loop (ι := Nat × (List Bool)) (fun ξ => (ξ.1 ≤ n) ∧ (WRel n l ξ.2) ∧ (∀ p q, p < n → q < n → Pk l ξ.1 p q → onF ξ.2 (p * n + q))) (fun ξ => [(0, .int .i64 ((n : Nat) : Int)), (1, nv), (5, v1), (10, .int .i64 ((ξ.1 : Nat) : Int))]) (fun ξ => [Hp.own FB 1 v1 ξ.2]) (fun ξ => n - ξ.1) (0, w) ⟨by first | omega | (dsimp only; omega), hw, hp0⟩ ((.cons rfl (.cons rfl (.cons rfl (.cons rfl .nil))))) rfl ?_
    rintro ⟨k, w⟩ ⟨hk9, hw3, hpk⟩
    dsimp only at hk9 hw3 hpk
    refine Gx.know (m' := [(0, .int .i64 ((n : Nat) : Int)), (1, nv), (5, v1), (10, .int .i64 ((k : Nat) : Int))]) (.cons rfl (.cons rfl (.cons rfl (.cons rfl .nil)))) (Gx.norm (l' := [Hp.own FB 1 v1 w]) rfl ?_)
    refine Gx.seq ?_
    refine Gx.seq ?_
    refine Gx.region ?_
    refine Gx.val rfl rfl rfl (val_move rfl rfl) ?_
    refine Gx.val rfl rfl rfl (val_move rfl rfl) ?_
    refine Gx.val rfl rfl rfl (val_lss rfl rfl rfl) ?_
    refine Gx.done ?_
    refine Gx.thenN ?_
    refine Gx.dec rfl (fun h8 => ?_) (fun h8 => ?_)
    · refine Gx.skip ?_
      refine Gx.thenN ?_
      refine Gx.seq ?_
      refine Gx.block ?_
      refine Gx.seq ?_
      refine Gx.region ?_
      refine Gx.val rfl rfl rfl (val_assign rfl rfl) ?_
      refine Gx.done ?_
      refine Gx.thenN ?_
      refine Gx.block ?_
      refine Gx.loop (ι := Nat × (List Bool)) (fun ξ => (ξ.1 ≤ n) ∧ (WRel n l ξ.2) ∧ (∀ p q, p < n → q < n → Pk l k p q → onF ξ.2 (p * n + q)) ∧ (∀ p q, p < ξ.1 → q < n → Pk l (k + 1) p q → onF ξ.2 (p * n + q))) (fun ξ => [(0, .int .i64 ((n : Nat) : Int)), (1, nv), (5, v1), (10, .int .i64 ((k : Nat) : Int)), (11, .int .i64 ((ξ.1 : Nat) : Int))]) (fun ξ => [Hp.own FB 1 v1 ξ.2]) (fun ξ => n - ξ.1) (0, w) ⟨by first | omega | (dsimp only; omega), hw3, hpk, fun p q hp => absurd hp (Nat.not_lt_zero _)⟩ ((.cons rfl (.cons rfl (.cons rfl (.cons rfl (.cons rfl .nil)))))) rfl ?_
      rintro ⟨i, w⟩ ⟨hi, hw4, hpk4, hi4⟩
      dsimp only at hi hw4 hpk4 hi4
      refine Gx.know (m' := [(0, .int .i64 ((n : Nat) : Int)), (1, nv), (5, v1), (10, .int .i64 ((k : Nat) : Int)), (11, .int .i64 ((i : Nat) : Int))]) (.cons rfl (.cons rfl (.cons rfl (.cons rfl (.cons rfl .nil))))) (Gx.norm (l' := [Hp.own FB 1 v1 w]) rfl ?_)
      refine Gx.seq ?_
      refine Gx.seq ?_
      refine Gx.region ?_
      refine Gx.val rfl rfl rfl (val_move rfl rfl) ?_
      refine Gx.val rfl rfl rfl (val_move rfl rfl) ?_
      refine Gx.val rfl rfl rfl (val_lss rfl rfl rfl) ?_
      refine Gx.done ?_
      refine Gx.thenN ?_
      refine Gx.dec rfl (fun h9 => ?_) (fun h9 => ?_)
      · refine Gx.skip ?_
        refine Gx.thenN ?_
        refine Gx.seq ?_
        refine Gx.block ?_
        refine Gx.seq ?_
        refine Gx.region ?_
        refine Gx.val rfl rfl rfl (val_assign rfl rfl) ?_
        refine Gx.done ?_
        refine Gx.thenN ?_
        refine Gx.block ?_
        refine Gx.loop (ι := Nat × (List Bool)) (fun ξ => (ξ.1 ≤ n) ∧ (WRel n l ξ.2) ∧ (∀ p q, p < n → q < n → Pk l k p q → onF ξ.2 (p * n + q)) ∧ (∀ p q, p < i → q < n → Pk l (k + 1) p q → onF ξ.2 (p * n + q)) ∧ (∀ q, q < ξ.1 → Pk l (k + 1) i q → onF ξ.2 (i * n + q))) (fun ξ => [(0, .int .i64 ((n : Nat) : Int)), (1, nv), (5, v1), (10, .int .i64 ((k : Nat) : Int)), (11, .int .i64 ((i : Nat) : Int)), (12, .int .i64 ((ξ.1 : Nat) : Int))]) (fun ξ => [Hp.own FB 1 v1 ξ.2]) (fun ξ => n - ξ.1) (0, w) ⟨by first | omega | (dsimp only; omega), hw4, hpk4, hi4, fun q hq => absurd hq (Nat.not_lt_zero _)⟩ ((.cons rfl (.cons rfl (.cons rfl (.cons rfl (.cons rfl (.cons rfl .nil))))))) rfl ?_
        rintro ⟨j, w⟩ ⟨hj, hw5, hpk5, hi5, hj5⟩
        dsimp only at hj hw5 hpk5 hi5 hj5
        refine Gx.know (m' := [(0, .int .i64 ((n : Nat) : Int)), (1, nv), (5, v1), (10, .int .i64 ((k : Nat) : Int)), (11, .int .i64 ((i : Nat) : Int)), (12, .int .i64 ((j : Nat) : Int))]) (.cons rfl (.cons rfl (.cons rfl (.cons rfl (.cons rfl (.cons rfl .nil)))))) (Gx.norm (l' := [Hp.own FB 1 v1 w]) rfl ?_)
        refine Gx.seq ?_
        refine Gx.seq ?_
        refine Gx.region ?_
        refine Gx.val rfl rfl rfl (val_move rfl rfl) ?_
        refine Gx.val rfl rfl rfl (val_move rfl rfl) ?_
        refine Gx.val rfl rfl rfl (val_lss rfl rfl rfl) ?_
        refine Gx.done ?_
        refine Gx.thenN ?_
        refine Gx.dec rfl (fun h10 => ?_) (fun h10 => ?_)
        · refine Gx.skip ?_
          refine Gx.thenN ?_
          refine Gx.seq ?_
          refine Gx.block ?_
          refine Gx.seq ?_
          have hwl := hw5.len
          have hin : i * n + n ≤ n * n := by rw [← Nat.succ_mul]; exact Nat.mul_le_mul_right n (by omega)
          have hkn : k * n + n ≤ n * n := by rw [← Nat.succ_mul]; exact Nat.mul_le_mul_right n (by omega)
          refine Gx.region ?_
          refine Gx.val rfl rfl rfl (val_move rfl rfl) ?_
          refine Gx.val rfl rfl rfl (val_move rfl rfl) ?_
          refine Gx.val rfl rfl rfl (val_move rfl rfl) ?_
          refine Gx.val rfl rfl rfl (val_mul rfl rfl rfl (r := ((i * n : Nat) : Int)) (w64 (by rw [Int.natCast_mul]) (by omega))) ?_
          refine Gx.val rfl rfl rfl (val_move rfl rfl) ?_
          refine Gx.val rfl rfl rfl (val_add rfl rfl rfl (r := ((i * n + k : Nat) : Int)) (w64 (by omega) (by omega))) ?_
          obtain ⟨x11, hx11⟩ := get_of_lt (xs := w) (k := i * n + k) (by omega)
          refine Gx.val rfl rfl rfl (val_ixa rfl Try.underlying36 Try.ty4 rfl rfl (j := i * n + k) (rfl) (reach_own (k := 0) rfl hx11)) ?_
          refine Gx.val rfl rfl rfl (val_load rfl Try.ty4 rfl rfl (cell_own (i := 0) (sz := 1) (j := i * n + k) (k := 0) rfl hx11 rfl)) ?_
          refine Gx.val rfl rfl rfl (val_move rfl rfl) ?_
          refine Gx.casesB (t := 63) rfl (fun h12 => ?_) (fun h12 => ?_)
          · refine Gx.valg rfl rfl rfl rfl rfl (val_move rfl rfl) ?_
            refine Gx.valg rfl rfl rfl rfl rfl (val_move rfl rfl) ?_
            refine Gx.valg rfl rfl rfl rfl rfl (val_move rfl rfl) ?_
            refine Gx.valg rfl rfl rfl rfl rfl (val_mul rfl rfl rfl (r := ((k * n : Nat) : Int)) (w64 (by rw [Int.natCast_mul]) (by omega))) ?_
            refine Gx.valg rfl rfl rfl rfl rfl (val_move rfl rfl) ?_
            refine Gx.valg rfl rfl rfl rfl rfl (val_add rfl rfl rfl (r := ((k * n + j : Nat) : Int)) (w64 (by omega) (by omega))) ?_
            obtain ⟨x13, hx13⟩ := get_of_lt (xs := w) (k := k * n + j) (by omega)
            refine Gx.valg rfl rfl rfl rfl rfl (val_ixa rfl Try.underlying36 Try.ty4 rfl rfl (j := k * n + j) (rfl) (reach_own (k := 0) rfl hx13)) ?_
            refine Gx.valg rfl rfl rfl rfl rfl (val_load rfl Try.ty4 rfl rfl (cell_own (i := 0) (sz := 1) (j := k * n + j) (k := 0) rfl hx13 rfl)) ?_
            refine Gx.val rfl rfl rfl (val_pickT rfl rfl rfl) ?_
            refine Gx.done ?_
            refine Gx.thenN ?_
            refine Gx.bool rfl (fun h14 => ?_) (fun h14 => ?_)
            · refine Gx.region ?_
              refine Gx.val rfl rfl rfl (val_move rfl rfl) ?_
              refine Gx.val rfl rfl rfl (val_move rfl rfl) ?_
              refine Gx.val rfl rfl rfl (val_move rfl rfl) ?_
              refine Gx.val rfl rfl rfl (val_mul rfl rfl rfl (r := ((i * n : Nat) : Int)) (w64 (by rw [Int.natCast_mul]) (by omega))) ?_
              refine Gx.val rfl rfl rfl (val_move rfl rfl) ?_
              refine Gx.val rfl rfl rfl (val_add rfl rfl rfl (r := ((i * n + j : Nat) : Int)) (w64 (by omega) (by omega))) ?_
              obtain ⟨x15, hx15⟩ := get_of_lt (xs := w) (k := i * n + j) (by omega)
              refine Gx.val rfl rfl rfl (val_ixa rfl Try.underlying36 Try.ty4 rfl rfl (j := i * n + j) (rfl) (reach_own (k := 0) rfl hx15)) ?_
              refine Gx.eff0 rfl rfl (eff_storeElA true rfl Try.ty4 rfl rfl rfl FB_one (k := 0) rfl FB_len hx15 (l' := [Hp.own FB 1 v1 (w.set (i * n + j) true)]) rfl) ?_
              rintro _ _ rfl
              refine Gx.done ?_
              refine Gx.blkN ?_
              refine Gx.thenN ?_
              refine Gx.region ?_
              refine Gx.val rfl rfl rfl (val_move rfl rfl) ?_
              refine Gx.val rfl rfl rfl (val_add rfl rfl rfl (r := ((j + 1 : Nat) : Int)) (w64 (by omega) (by omega))) ?_
              refine Gx.val rfl rfl rfl (val_assign rfl rfl) ?_
              refine Gx.done ?_
              refine Gx.thenN ?_
              have hik : onF w (i * n + k) := (on_of hx11).2 (by simp_all)
              have hkj : onF w (k * n + j) := (on_of hx13).2 (by simp_all)
              have hr1 := hw5.get (by omega) hik
              have hr2 := hw5.get (by omega) hkj
              exact Gx.round (j + 1, w.set (i * n + j) true) ⟨by first | omega | (dsimp only; omega), hw5.set (by omega) (by omega) (hr1.trans hr2), fun p q hp hq hh => on_set (hpk5 p q hp hq hh), fun p q hp hq hh => on_set (hi5 p q hp hq hh), fun q hq hh => by
                  rcases Nat.lt_or_eq_of_le (Nat.le_of_lt_succ hq) with z | rfl
                  · exact on_set (hj5 q z hh)
                  · exact on_self (by omega)⟩ (by first | omega | (dsimp only; omega)) ((.cons rfl (.cons rfl (.cons rfl (.cons rfl (.cons rfl (.cons rfl .nil))))))) rfl
            · refine Gx.skip ?_
              refine Gx.blkN ?_
              refine Gx.thenN ?_
              refine Gx.region ?_
              refine Gx.val rfl rfl rfl (val_move rfl rfl) ?_
              refine Gx.val rfl rfl rfl (val_add rfl rfl rfl (r := ((j + 1 : Nat) : Int)) (w64 (by omega) (by omega))) ?_
              refine Gx.val rfl rfl rfl (val_assign rfl rfl) ?_
              refine Gx.done ?_
              refine Gx.thenN ?_
              exact Gx.round (j + 1, w) ⟨by first | omega | (dsimp only; omega), by first | omega | (dsimp only; omega), by first | omega | (dsimp only; omega), by first | omega | (dsimp only; omega), fun q hq hh => by
                  rcases Nat.lt_or_eq_of_le (Nat.le_of_lt_succ hq) with z | rfl
                  · exact hj5 q z hh
                  · rcases hh with h1 | ⟨h1, h2⟩
                    · exact hpk5 i q (by omega) (by omega) h1
                    · exact absurd ((on_of hx13).1 (hpk5 k q (by omega) (by omega) h2)) (by simp_all)⟩ (by first | omega | (dsimp only; omega)) ((.cons rfl (.cons rfl (.cons rfl (.cons rfl (.cons rfl (.cons rfl .nil))))))) rfl
          · refine Gx.skipg rfl rfl rfl rfl rfl rfl ?_
            refine Gx.skipg rfl rfl rfl rfl rfl rfl ?_
            refine Gx.skipg rfl rfl rfl rfl rfl rfl ?_
            refine Gx.skipg rfl rfl rfl rfl rfl rfl ?_
            refine Gx.skipg rfl rfl rfl rfl rfl rfl ?_
            refine Gx.skipg rfl rfl rfl rfl rfl rfl ?_
            refine Gx.skipg rfl rfl rfl rfl rfl rfl ?_
            refine Gx.skipg rfl rfl rfl rfl rfl rfl ?_
            refine Gx.val rfl rfl rfl (val_pickF rfl rfl rfl) ?_
            refine Gx.done ?_
            refine Gx.thenN ?_
            refine Gx.f rfl ?_
            refine Gx.skip ?_
            refine Gx.blkN ?_
            refine Gx.thenN ?_
            refine Gx.region ?_
            refine Gx.val rfl rfl rfl (val_move rfl rfl) ?_
            refine Gx.val rfl rfl rfl (val_add rfl rfl rfl (r := ((j + 1 : Nat) : Int)) (w64 (by omega) (by omega))) ?_
            refine Gx.val rfl rfl rfl (val_assign rfl rfl) ?_
            refine Gx.done ?_
            refine Gx.thenN ?_
            exact Gx.round (j + 1, w) ⟨by first | omega | (dsimp only; omega), by first | omega | (dsimp only; omega), by first | omega | (dsimp only; omega), by first | omega | (dsimp only; omega), fun q hq hh => by
                rcases Nat.lt_or_eq_of_le (Nat.le_of_lt_succ hq) with z | rfl
                · exact hj5 q z hh
                · rcases hh with h1 | ⟨h1, h2⟩
                  · exact hpk5 i q (by omega) (by omega) h1
                  · exact absurd ((on_of hx11).1 (hpk5 i k (by omega) (by omega) h1)) (by simp_all)⟩ (by first | omega | (dsimp only; omega)) ((.cons rfl (.cons rfl (.cons rfl (.cons rfl (.cons rfl (.cons rfl .nil))))))) rfl
        · refine Gx.exit ?_
          refine Gx.thenE ?_
          refine Gx.thenE ?_
          refine Gx.blkE ?_
          refine Gx.blkN ?_
          refine Gx.thenN ?_
          refine Gx.region ?_
          refine Gx.val rfl rfl rfl (val_move rfl rfl) ?_
          refine Gx.val rfl rfl rfl (val_add rfl rfl rfl (r := ((i + 1 : Nat) : Int)) (w64 (by omega) (by omega))) ?_
          refine Gx.val rfl rfl rfl (val_assign rfl rfl) ?_
          refine Gx.done ?_
          refine Gx.thenN ?_
          exact Gx.round (i + 1, w) ⟨by first | omega | (dsimp only; omega), hw5, hpk5, fun p q hp hq hh => by
              rcases Nat.lt_or_eq_of_le (Nat.le_of_lt_succ hp) with z | rfl
              · exact hi5 p q z hq hh
              · obtain rfl : j = n := (by omega)
                exact hj5 q hq hh⟩ (by first | omega | (dsimp only; omega)) ((.cons rfl (.cons rfl (.cons rfl (.cons rfl (.cons rfl .nil)))))) rfl
      · refine Gx.exit ?_
        refine Gx.thenE ?_
        refine Gx.thenE ?_
        refine Gx.blkE ?_
        refine Gx.blkN ?_
        refine Gx.thenN ?_
        refine Gx.region ?_
        refine Gx.val rfl rfl rfl (val_move rfl rfl) ?_
        refine Gx.val rfl rfl rfl (val_add rfl rfl rfl (r := ((k + 1 : Nat) : Int)) (w64 (by omega) (by omega))) ?_
        refine Gx.val rfl rfl rfl (val_assign rfl rfl) ?_
        refine Gx.done ?_
        refine Gx.thenN ?_
        exact Gx.round (k + 1, w) ⟨by first | omega | (dsimp only; omega), hw4, fun p q hp hq hh => by obtain rfl : i = n := (by omega); exact hi4 p q hp hq hh⟩ (by first | omega | (dsimp only; omega)) ((.cons rfl (.cons rfl (.cons rfl (.cons rfl .nil))))) rfl
    · refine Gx.exit ?_
      refine Gx.thenE ?_
      refine Gx.thenE ?_
      refine Gx.blkE ?_
      refine Gx.thenN ?_
      refine Gx.seq ?_
      refine Gx.region ?_
      refine Gx.val rfl rfl rfl (val_move rfl rfl) ?_
      refine Gx.val rfl rfl rfl (val_assign rfl rfl) ?_
      refine Gx.done ?_
      refine Gx.thenN ?_
      refine Gx.ret ?_
      refine Gx.ret1 Try.results15 rfl ?_
      obtain rfl : k = n := by omega
      exact ⟨hiv1, w, rfl, hw3.whole hk hpk⟩

end Go.Proofs.Ytplcflifofomjaa
