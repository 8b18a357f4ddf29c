/- A copy is reached. The walks. No condition. -/
import Derived.Test.YtjiefamdpbnngaaA2
import Derived.Test.YtjiefamdpbnngaaX12
namespace Go.Proofs.Ytjiefamdpbnngaa
open Go.RowKit
set_option linter.unusedVariables false
set_option linter.unusedSimpArgs false
set_option maxRecDepth 100000

theorem mem1 (k : Nat) (l : List Nat) : Value.bool (decide (((if k ∈ l then 1 else 0 : Nat) : Int) = 1)) = .bool (decide (k ∈ l)) := by by_cases e : k ∈ l <;> simp [e]
theorem sh_lt {m : Nat} (k : Nat) (h : m < 4294967296) : m >>> k < 4294967296 := by
  rw [Nat.shiftRight_eq_div_pow]; exact Nat.lt_of_le_of_lt (Nat.div_le_self _ _) h
theorem and_mk {l : List Nat} (k : Nat) (h : mk l < 4294967296) : IntKind.u32.wrap ((BitVec.ofInt IntKind.u32.bits ((mk l >>> k : Nat) : Int) &&& BitVec.ofInt IntKind.u32.bits 1).toNat) = ((if k ∈ l then 1 else 0 : Nat) : Int) :=
  (and32 (sh_lt k h) (by decide : 1 < 4294967296)).trans (congrArg Nat.cast (mk_test k))
theorem shl1 {i : Nat} (h : i < 32) : IntKind.u32.wrap ((1 : Int) * 2 ^ i) = ((2 ^ i : Nat) : Int) :=
  shl32 (a := 1) (Nat.one_mul _) (Nat.pow_lt_pow_right (by decide : 1 < 2) h)
theorem pow32 {i : Nat} (h : i < 32) : 2 ^ i < 4294967296 := Nat.pow_lt_pow_right (by decide : 1 < 2) h
theorem storeR_len (cs : List Sd) (i : Nat) (s : Sd) : (storeR cs i s).length = cs.length := by
  unfold storeR; split
  · split
    · rw [List.length_set]
    · rfl
  · rfl
theorem set_b {mo : List Om} {k : Nat} {m y : Om} (hk : mo[k]? = some m) (hy : y.b = m.b) : (mo.set k y).map Om.b = mo.map Om.b := by
  refine List.ext_getElem? fun j => ?_
  rw [List.getElem?_map, List.getElem?_map]
  by_cases e : k = j
  · subst e; rw [List.getElem?_set_self (List.getElem?_eq_some_iff.1 hk).1, hk]; simp [hy]
  · rw [List.getElem?_set_ne e]
theorem reg_open {W w : World} {S k : Nat} {a0 a1 a2 a3 : Option Nat} {cv ov : Value} {cs : List Sd} {mo : List Om} {m : Om} {R R0 : Hp} (h1 : Hp.big opH mo = opH m * R0) (H : Sat W w (regP S [a0, a1, a2, a3] cv ov cs mo * R)) :
    Sat W w (sep [Hp.rec_ S [cv, ov, nowV (mo.map Om.b) a0, nowV (mo.map Om.b) a1, nowV (mo.map Om.b) a2, nowV (mo.map Om.b) a3], Hp.own Fsd 3 cv cs, Hp.own FP 1 ov (mo.map Om.b),
      Hp.rec_ m.b [ptr m.b2 0, .int .i64 ((m.o.best.n : Nat) : Int), .int .i64 ((m.o.best.who : Nat) : Int), .int .i64 m.o.best.val, .bool m.o.sec, .int .u32 ((mk m.o.seen : Nat) : Int), .int .i64 ((m.o.many : Nat) : Int)],
      Hp.rec_ m.b2 [.int .i64 ((m.o.who : Nat) : Int), .int .i64 0, .bool m.o.wr, .int .i64 m.o.val, .int .i64 ((m.o.frm : Nat) : Int), .int .i64 m.o.to], R0, R]) :=
  (regP_open H).cast (by
    rw [h1]
    show _ * (_ * (_ * (_ * (R * 1)))) = _ * (_ * (_ * (_ * (_ * (_ * (R * 1))))))
    simp only [Hp.mul_assoc])
theorem reg_shut {S k : Nat} {a0 a1 a2 a3 : Option Nat} {cv ov : Value} {cs : List Sd} {mo : List Om} {m : Om} {R R0 : Hp} (hk : mo[k]? = some m) (h2 : ∀ y, Hp.big opH (mo.set k y) = opH y * R0) (y : Om) (hy : y.b = m.b) :
    sep [Hp.rec_ S [cv, ov, nowV (mo.map Om.b) a0, nowV (mo.map Om.b) a1, nowV (mo.map Om.b) a2, nowV (mo.map Om.b) a3], Hp.own Fsd 3 cv cs, Hp.own FP 1 ov (mo.map Om.b),
      Hp.rec_ y.b [ptr y.b2 0, .int .i64 ((y.o.best.n : Nat) : Int), .int .i64 ((y.o.best.who : Nat) : Int), .int .i64 y.o.best.val, .bool y.o.sec, .int .u32 ((mk y.o.seen : Nat) : Int), .int .i64 ((y.o.many : Nat) : Int)],
      Hp.rec_ y.b2 [.int .i64 ((y.o.who : Nat) : Int), .int .i64 0, .bool y.o.wr, .int .i64 y.o.val, .int .i64 ((y.o.frm : Nat) : Int), .int .i64 y.o.to], R0, R] = regP S [a0, a1, a2, a3] cv ov cs (mo.set k y) * R := by
  rw [← regP_shut, set_b hk hy, h2 y]
  show _ * (_ * (_ * (_ * (_ * (_ * (R * 1)))))) = _ * (_ * (_ * (_ * (R * 1))))
  simp only [Hp.mul_assoc]
theorem reach_go0 {W w : World} {S k i mom : Nat} {a1 a2 a3 : Option Nat} {cv ov : Value} {cs : List Sd} {mo : List Om} {m : Om} {R : Hp} (hk : mo[k]? = some m) (hw : m.o.who = 0) (hi : i < cs.length) (hs : ¬ i ∈ m.o.seen) (h5 : cs.length ≤ 5) (hmk : mk m.o.seen < 4294967296) (hmany : m.o.many ≤ 5) (hbn : m.o.best.n ≤ 1000) (hcn : ∀ c ∈ cs, c.n ≤ 1000) (H : Sat W w (regP S [(some k), a1, a2, a3] cv ov cs mo * R)) :
    Calls Try.prog 15 #[ptr S 0, ptr m.b 0, .int .i64 ((i : Nat) : Int), .int .i64 ((mom : Nat) : Int)] w (Ret W fun v l => v = .int .i64 0 ∧ sep l = regP S (if 2 * (m.o.many + 1) ≤ cs.length then [(some k), a1, a2, a3] else if m.o.sec = true then [none, a1, a2, a3] else [(some k), a1, a2, a3]) cv ov (if m.o.sec = true then storeR cs i m.o.best else cs) (mo.set k ⟨m.b, m.b2, if 2 * (m.o.many + 1) ≤ cs.length then seeR cs i m.o else turnO (seeR cs i m.o) mom⟩) * R) := by
  obtain ⟨c0, hci⟩ := get_of_lt hi
  have hsl := storeR_len cs i m.o.best
  have hc0 := hcn c0 (List.mem_of_getElem? hci)
  obtain ⟨R0, hb1, hb2⟩ := Hp.big_focus opH mo k m hk
  have hopen := reg_open (k := k) hb1 H
  rw [hw] at hopen
  refine Gx.enter (l := [Hp.rec_ S [cv, ov, nowV (mo.map Om.b) (some k), nowV (mo.map Om.b) a1, nowV (mo.map Om.b) a2, nowV (mo.map Om.b) a3], Hp.own Fsd 3 cv cs, Hp.own FP 1 ov (mo.map Om.b), Hp.rec_ m.b [ptr m.b2 0, .int .i64 ((m.o.best.n : Nat) : Int), .int .i64 ((m.o.best.who : Nat) : Int), .int .i64 m.o.best.val, .bool m.o.sec, .int .u32 (((mk m.o.seen) : Nat) : Int), .int .i64 ((m.o.many : Nat) : Int)], Hp.rec_ m.b2 [.int .i64 0, .int .i64 0, .bool m.o.wr, .int .i64 m.o.val, .int .i64 ((m.o.frm : Nat) : Int), .int .i64 m.o.to], R0, R]) Try.func15 rfl Try.ntmps15 rfl (hopen) ?_
  refine Gx.know (m' := [(0, ptr S 0), (1, ptr m.b 0), (2, .int .i64 ((i : Nat) : Int)), (3, .int .i64 ((mom : Nat) : Int))]) (.cons rfl (.cons rfl (.cons rfl (.cons rfl .nil)))) ?_
  refine Gx.seq ?_
  refine Gx.region ?_
  refine Gx.val rfl rfl rfl (val_assign rfl rfl) ?_
  refine Gx.done ?_
  refine Gx.thenN ?_
  refine Gx.seq ?_
  refine Gx.seq ?_
  refine Gx.region ?_
  refine Gx.val rfl rfl rfl (val_move rfl rfl) ?_
  refine Gx.val rfl rfl rfl (Val.cast (val_eqlP rfl Try.underlying44 (by kernel_rfl) rfl rfl) (v' := .bool false) rfl) ?_
  refine Gx.val rfl rfl rfl (val_move rfl rfl) ?_
  refine Gx.valg rfl rfl rfl rfl rfl (val_move rfl rfl) ?_
  refine Gx.valg rfl rfl rfl rfl rfl (val_nilCheck rfl rfl) ?_
  refine Gx.valg rfl rfl rfl rfl rfl (Val.cast (val_fieldAddr rfl Try.underlying54 rfl Try.ty52 rfl rfl) (v' := ptr m.b 5) rfl) ?_
  refine Gx.valg rfl rfl rfl rfl rfl (val_load rfl Try.ty52 rfl rfl (cell_rec (k := 3) rfl rfl)) ?_
  refine Gx.valg rfl rfl rfl rfl rfl (val_move rfl rfl) ?_
  refine Gx.valg rfl rfl rfl rfl rfl (val_shr (b := i) rfl rfl rfl rfl (by show i ≤ 32; omega) (shr32 _ _)) ?_
  refine Gx.valg rfl rfl rfl rfl rfl (val_and rfl rfl rfl (and_mk i hmk)) ?_
  refine Gx.valg rfl rfl rfl rfl rfl (val_eql rfl rfl rfl) ?_
  refine Gx.val rfl rfl rfl (val_pickF rfl rfl rfl) ?_
  refine Gx.done ?_
  refine Gx.thenN ?_
  refine Gx.decF rfl (by rw [if_neg hs]; decide) ?_
  refine Gx.skip ?_
  refine Gx.thenN ?_
  refine Gx.seq ?_
  refine Gx.regionO (fun j => false) 9 [0, 1, 2, 3, 4, 5, 6, 7, 8] (fun _ => [Hp.rec_ S [cv, ov, nowV (mo.map Om.b) (some k), nowV (mo.map Om.b) a1, nowV (mo.map Om.b) a2, nowV (mo.map Om.b) a3], Hp.own Fsd 3 cv cs, Hp.own FP 1 ov (mo.map Om.b), Hp.rec_ m.b [ptr m.b2 0, .int .i64 ((m.o.best.n : Nat) : Int), .int .i64 ((m.o.best.who : Nat) : Int), .int .i64 m.o.best.val, .bool m.o.sec, .int .u32 (((mk m.o.seen) : Nat) : Int), .int .i64 ((m.o.many : Nat) : Int)], Hp.rec_ m.b2 [.int .i64 0, .int .i64 0, .bool m.o.wr, .int .i64 m.o.val, .int .i64 ((m.o.frm : Nat) : Int), .int .i64 m.o.to], R0, R]) Try.mixed (by kernel_rfl) rfl ?_
  refine Gw.val rfl rfl rfl rfl rfl (fun us => val_move rfl rfl) ?_
  refine Gw.val rfl rfl rfl rfl rfl (fun us => val_nilCheck rfl rfl) ?_
  refine Gw.val rfl rfl rfl rfl rfl (fun us => Val.cast (val_fieldAddr rfl Try.underlying54 rfl Try.ty52 rfl rfl) (v' := ptr m.b 5) rfl) ?_
  refine Gw.val0 rfl rfl rfl (by kernel_rfl) rfl rfl (val_load rfl Try.ty52 rfl rfl (cell_rec (k := 3) rfl rfl)) ?_
  refine Gw.val rfl rfl rfl rfl rfl (fun us => val_move rfl rfl) ?_
  refine Gw.val rfl rfl rfl rfl rfl (fun us => val_shl (b := i) rfl rfl rfl rfl (by show i ≤ 32; omega) (shl1 (by omega))) ?_
  refine Gw.val rfl rfl rfl rfl rfl (fun us => val_or rfl rfl rfl ((or32 hmk (pow32 (by omega))).trans (congrArg Nat.cast (mk_snoc _ i).symm))) ?_
  refine Gw.val rfl rfl rfl rfl rfl (fun us => val_nilCheck rfl rfl) ?_
  refine Gw.val rfl rfl rfl rfl rfl (fun us => Val.cast (val_fieldAddr rfl Try.underlying54 rfl Try.ty52 rfl rfl) (v' := ptr m.b 5) rfl) ?_
  refine Gw.done ?_
  refine Gx.norm (l' := [Hp.rec_ S [cv, ov, nowV (mo.map Om.b) (some k), nowV (mo.map Om.b) a1, nowV (mo.map Om.b) a2, nowV (mo.map Om.b) a3], Hp.own Fsd 3 cv cs, Hp.own FP 1 ov (mo.map Om.b), Hp.rec_ m.b [ptr m.b2 0, .int .i64 ((m.o.best.n : Nat) : Int), .int .i64 ((m.o.best.who : Nat) : Int), .int .i64 m.o.best.val, .bool m.o.sec, .int .u32 (((mk m.o.seen) : Nat) : Int), .int .i64 ((m.o.many : Nat) : Int)], Hp.rec_ m.b2 [.int .i64 0, .int .i64 0, .bool m.o.wr, .int .i64 m.o.val, .int .i64 ((m.o.frm : Nat) : Int), .int .i64 m.o.to], R0, R]) rfl ?_
  refine Gx.eff0 rfl rfl (eff_store rfl Try.ty52 rfl rfl (us := [.int .u32 ((mk (m.o.seen ++ [i]) : Nat) : Int)]) rfl rfl rfl (k := 3) rfl (rfl) (vs' := [ptr m.b2 0, .int .i64 ((m.o.best.n : Nat) : Int), .int .i64 ((m.o.best.who : Nat) : Int), .int .i64 m.o.best.val, .bool m.o.sec, .int .u32 ((mk (m.o.seen ++ [i]) : Nat) : Int), .int .i64 ((m.o.many : Nat) : Int)]) (rfl) (l' := [Hp.rec_ S [cv, ov, nowV (mo.map Om.b) (some k), nowV (mo.map Om.b) a1, nowV (mo.map Om.b) a2, nowV (mo.map Om.b) a3], Hp.own Fsd 3 cv cs, Hp.own FP 1 ov (mo.map Om.b), Hp.rec_ m.b [ptr m.b2 0, .int .i64 ((m.o.best.n : Nat) : Int), .int .i64 ((m.o.best.who : Nat) : Int), .int .i64 m.o.best.val, .bool m.o.sec, .int .u32 ((mk (m.o.seen ++ [i]) : Nat) : Int), .int .i64 ((m.o.many : Nat) : Int)], Hp.rec_ m.b2 [.int .i64 0, .int .i64 0, .bool m.o.wr, .int .i64 m.o.val, .int .i64 ((m.o.frm : Nat) : Int), .int .i64 m.o.to], R0, R]) rfl) ?_
  rintro _ _ rfl
  refine Gx.done ?_
  refine Gx.thenN ?_
  refine Gx.seq ?_
  refine Gx.region ?_
  refine Gx.val rfl rfl rfl (val_move rfl rfl) ?_
  refine Gx.val rfl rfl rfl (val_nilCheck rfl rfl) ?_
  refine Gx.val rfl rfl rfl (Val.cast (val_fieldAddr rfl Try.underlying54 rfl Try.ty3 rfl rfl) (v' := ptr m.b 6) rfl) ?_
  refine Gx.val rfl rfl rfl (val_load rfl Try.ty3 rfl rfl (cell_rec (k := 3) rfl rfl)) ?_
  refine Gx.val rfl rfl rfl (val_add rfl rfl rfl (r := ((m.o.many + 1 : Nat) : Int)) (w64 (by omega) (by omega))) ?_
  refine Gx.val rfl rfl rfl (val_nilCheck rfl rfl) ?_
  refine Gx.val rfl rfl rfl (Val.cast (val_fieldAddr rfl Try.underlying54 rfl Try.ty3 rfl rfl) (v' := ptr m.b 6) rfl) ?_
  refine Gx.eff0 rfl rfl (eff_store rfl Try.ty3 rfl rfl (us := [.int .i64 ((m.o.many + 1 : Nat) : Int)]) rfl rfl rfl (k := 3) rfl (rfl) (vs' := [ptr m.b2 0, .int .i64 ((m.o.best.n : Nat) : Int), .int .i64 ((m.o.best.who : Nat) : Int), .int .i64 m.o.best.val, .bool m.o.sec, .int .u32 ((mk (m.o.seen ++ [i]) : Nat) : Int), .int .i64 ((m.o.many + 1 : Nat) : Int)]) (rfl) (l' := [Hp.rec_ S [cv, ov, nowV (mo.map Om.b) (some k), nowV (mo.map Om.b) a1, nowV (mo.map Om.b) a2, nowV (mo.map Om.b) a3], Hp.own Fsd 3 cv cs, Hp.own FP 1 ov (mo.map Om.b), Hp.rec_ m.b [ptr m.b2 0, .int .i64 ((m.o.best.n : Nat) : Int), .int .i64 ((m.o.best.who : Nat) : Int), .int .i64 m.o.best.val, .bool m.o.sec, .int .u32 ((mk (m.o.seen ++ [i]) : Nat) : Int), .int .i64 ((m.o.many + 1 : Nat) : Int)], Hp.rec_ m.b2 [.int .i64 0, .int .i64 0, .bool m.o.wr, .int .i64 m.o.val, .int .i64 ((m.o.frm : Nat) : Int), .int .i64 m.o.to], R0, R]) rfl) ?_
  rintro _ _ rfl
  refine Gx.done ?_
  refine Gx.thenN ?_
  refine Gx.seq ?_
  refine Gx.seq ?_
  refine Gx.region ?_
  refine Gx.val rfl rfl rfl (val_move rfl rfl) ?_
  refine Gx.val rfl rfl rfl (val_nilCheck rfl rfl) ?_
  refine Gx.val rfl rfl rfl (Val.cast (val_fieldAddr rfl Try.underlying54 rfl Try.ty4 rfl rfl) (v' := ptr m.b 4) rfl) ?_
  refine Gx.val rfl rfl rfl (val_load rfl Try.ty4 rfl rfl (cell_rec (k := 3) rfl rfl)) ?_
  refine Gx.done ?_
  refine Gx.thenN ?_
  refine Gx.bool rfl (fun h1 => ?_) (fun h1 => ?_)
  · refine Gx.region ?_
    refine Gx.val rfl rfl rfl (val_move rfl rfl) ?_
    refine Gx.val rfl rfl rfl (val_move rfl rfl) ?_
    refine Gx.val rfl rfl rfl (val_move rfl rfl) ?_
    refine Gx.val rfl rfl rfl (val_nilCheck rfl rfl) ?_
    refine Gx.val rfl rfl rfl (Val.cast (val_fieldAddr rfl Try.underlying54 rfl Try.ty51 rfl rfl) (v' := ptr m.b 1) rfl) ?_
    refine Gx.val rfl rfl rfl (Val.cast (val_loadA rfl Try.ty51 rfl rfl (us := [.int .i64 ((m.o.best.n : Nat) : Int), .int .i64 ((m.o.best.who : Nat) : Int), .int .i64 m.o.best.val]) rfl (cells_rec_at (k := 3) (i := 1) (n := 3) rfl rfl)) (v' := .agg #[.int .i64 ((m.o.best.n : Nat) : Int), .int .i64 ((m.o.best.who : Nat) : Int), .int .i64 m.o.best.val]) rfl) ?_
    refine Gx.eff rfl rfl rfl (eff_call (vs := [ptr S 0, .int .i64 ((i : Nat) : Int), .agg #[.int .i64 ((m.o.best.n : Nat) : Int), .int .i64 ((m.o.best.who : Nat) : Int), .int .i64 m.o.best.val]]) rfl Try.fn16 rfl (fun w H => store_any m.o.best hi (H.at2 (k := 0) (k' := 0) rfl rfl))) ?_
    rintro _ l2 ⟨rfl, hl2⟩
    refine Gx.sepEq (l' := [Hp.rec_ S [cv, ov, nowV (mo.map Om.b) (some k), nowV (mo.map Om.b) a1, nowV (mo.map Om.b) a2, nowV (mo.map Om.b) a3], Hp.own Fsd 3 cv (storeR cs i m.o.best), Hp.own FP 1 ov (mo.map Om.b), Hp.rec_ m.b [ptr m.b2 0, .int .i64 ((m.o.best.n : Nat) : Int), .int .i64 ((m.o.best.who : Nat) : Int), .int .i64 m.o.best.val, .bool m.o.sec, .int .u32 ((mk (m.o.seen ++ [i]) : Nat) : Int), .int .i64 ((m.o.many + 1 : Nat) : Int)], Hp.rec_ m.b2 [.int .i64 0, .int .i64 0, .bool m.o.wr, .int .i64 m.o.val, .int .i64 ((m.o.frm : Nat) : Int), .int .i64 m.o.to], R0, R]) hl2 ?_
    refine Gx.done ?_
    refine Gx.thenN ?_
    refine Gx.seq ?_
    refine Gx.seq ?_
    refine Gx.regionQ Try.mixed (by kernel_rfl) ?_
    refine Gq.val rfl rfl rfl (val_move rfl rfl) ?_
    refine Gq.val rfl rfl rfl (val_nilCheck rfl rfl) ?_
    refine Gq.val rfl rfl rfl (Val.cast (val_fieldAddr rfl Try.underlying54 rfl Try.ty3 rfl rfl) (v' := ptr m.b 6) rfl) ?_
    refine Gq.val rfl rfl rfl (val_load rfl Try.ty3 rfl rfl (cell_rec (k := 3) rfl rfl)) ?_
    refine Gq.val rfl rfl rfl (val_mul rfl rfl rfl (r := ((2 * (m.o.many + 1) : Nat) : Int)) (w64 (by omega) (by omega))) ?_
    refine Gq.val rfl rfl rfl (val_move rfl rfl) ?_
    refine Gq.val rfl rfl rfl (val_nilCheck rfl rfl) ?_
    refine Gq.val rfl rfl rfl (Val.cast (val_fieldAddr rfl Try.underlying47 rfl Try.ty42 rfl rfl) (v' := ptr S 0) rfl) ?_
    refine Gq.val rfl rfl rfl (val_load rfl Try.ty42 rfl rfl (cell_rec (k := 0) rfl rfl)) ?_
    refine Gq.val rfl rfl rfl (val_len rfl Try.underlying42 rfl (len_own (k := 1) rfl)) ?_
    refine Gq.val rfl rfl rfl (val_leq rfl rfl rfl) ?_
    refine Gq.done ?_
    refine Gx.thenN ?_
    refine Gx.dec rfl (fun h3 => ?_) (fun h3 => ?_)
    · refine Gx.seq ?_
      refine Gx.region ?_
      refine Gx.val rfl rfl rfl (val_assign rfl rfl) ?_
      refine Gx.done ?_
      refine Gx.thenN ?_
      refine Gx.ret ?_
      refine Gx.thenR ?_
      have ht : 2 * (m.o.many + 1) ≤ cs.length := by omega
      have hO : (if 2 * (m.o.many + 1) ≤ cs.length then seeR cs i m.o else turnO (seeR cs i m.o) mom) = ⟨0, m.o.wr, m.o.val, m.o.frm, m.o.to, m.o.best, m.o.sec, (m.o.seen ++ [i]), (m.o.many + 1)⟩ := by
        rw [if_pos ht]
        obtain ⟨b1, b2, ⟨o1, o2, o3, o4, o5, o6, o7, o8, o9⟩⟩ := m
        dsimp only at *
        subst hw
        simp only [seeR, turnO, hci, h1, if_true, if_false, Bool.false_eq_true]
      have hC : (if m.o.sec = true then storeR cs i m.o.best else cs) = (storeR cs i m.o.best) := by rw [if_pos h1]
      have hN : (if 2 * (m.o.many + 1) ≤ cs.length then ([(some k), a1, a2, a3] : List (Option Nat)) else if m.o.sec = true then [none, a1, a2, a3] else [(some k), a1, a2, a3]) = [(some k), a1, a2, a3] := by rw [if_pos ht]
      refine Gx.ret1 Try.results15 rfl ?_
      refine ⟨rfl, ?_⟩
      rw [hO, hC, hN]
      exact reg_shut (a0 := (some k)) (a1 := a1) (a2 := a2) (a3 := a3) hk hb2 (⟨m.b, m.b2, ⟨0, m.o.wr, m.o.val, m.o.frm, m.o.to, m.o.best, m.o.sec, (m.o.seen ++ [i]), (m.o.many + 1)⟩⟩ : Om) rfl
    · refine Gx.skip ?_
      refine Gx.thenN ?_
      refine Gx.seq ?_
      refine Gx.seq ?_
      refine Gx.region ?_
      refine Gx.val rfl rfl rfl (val_move rfl rfl) ?_
      refine Gx.val rfl rfl rfl (val_nilCheck rfl rfl) ?_
      refine Gx.val rfl rfl rfl (Val.cast (val_fieldAddr rfl Try.underlying54 rfl Try.ty4 rfl rfl) (v' := ptr m.b 4) rfl) ?_
      refine Gx.val rfl rfl rfl (val_load rfl Try.ty4 rfl rfl (cell_rec (k := 3) rfl rfl)) ?_
      refine Gx.done ?_
      refine Gx.thenN ?_
      refine Gx.boolT rfl (h1) ?_
      refine Gx.seq ?_
      refine Gx.region ?_
      refine Gx.val rfl rfl rfl (val_move rfl rfl) ?_
      refine Gx.val rfl rfl rfl (val_nilCheck rfl rfl) ?_
      refine Gx.val rfl rfl rfl (Val.cast (val_fieldAddr rfl Try.underlying54 rfl Try.ty49 rfl rfl) (v' := ptr m.b 0) rfl) ?_
      refine Gx.val rfl rfl rfl (val_load rfl Try.ty49 rfl rfl (cell_rec (k := 3) rfl rfl)) ?_
      refine Gx.val rfl rfl rfl (val_move rfl rfl) ?_
      refine Gx.val rfl rfl rfl (val_nilCheck rfl rfl) ?_
      refine Gx.val rfl rfl rfl (Val.cast (val_fieldAddr rfl Try.underlying33 rfl Try.ty3 rfl rfl) (v' := ptr m.b2 5) rfl) ?_
      refine Gx.eff0 rfl rfl (eff_store rfl Try.ty3 rfl rfl (us := [.int .i64 ((mom : Nat) : Int)]) rfl rfl rfl (k := 4) rfl (rfl) (vs' := [.int .i64 0, .int .i64 0, .bool m.o.wr, .int .i64 m.o.val, .int .i64 ((m.o.frm : Nat) : Int), .int .i64 ((mom : Nat) : Int)]) (rfl) (l' := [Hp.rec_ S [cv, ov, nowV (mo.map Om.b) (some k), nowV (mo.map Om.b) a1, nowV (mo.map Om.b) a2, nowV (mo.map Om.b) a3], Hp.own Fsd 3 cv (storeR cs i m.o.best), Hp.own FP 1 ov (mo.map Om.b), Hp.rec_ m.b [ptr m.b2 0, .int .i64 ((m.o.best.n : Nat) : Int), .int .i64 ((m.o.best.who : Nat) : Int), .int .i64 m.o.best.val, .bool m.o.sec, .int .u32 ((mk (m.o.seen ++ [i]) : Nat) : Int), .int .i64 ((m.o.many + 1 : Nat) : Int)], Hp.rec_ m.b2 [.int .i64 0, .int .i64 0, .bool m.o.wr, .int .i64 m.o.val, .int .i64 ((m.o.frm : Nat) : Int), .int .i64 ((mom : Nat) : Int)], R0, R]) rfl) ?_
      rintro _ _ rfl
      refine Gx.done ?_
      refine Gx.thenN ?_
      refine Gx.seq ?_
      refine Gx.seq ?_
      refine Gx.region ?_
      refine Gx.val rfl rfl rfl (val_move rfl rfl) ?_
      refine Gx.val rfl rfl rfl (val_nilCheck rfl rfl) ?_
      refine Gx.val rfl rfl rfl (Val.cast (val_fieldAddr rfl Try.underlying54 rfl Try.ty49 rfl rfl) (v' := ptr m.b 0) rfl) ?_
      refine Gx.val rfl rfl rfl (val_load rfl Try.ty49 rfl rfl (cell_rec (k := 3) rfl rfl)) ?_
      refine Gx.val rfl rfl rfl (val_nilCheck rfl rfl) ?_
      refine Gx.val rfl rfl rfl (Val.cast (val_fieldAddr rfl Try.underlying33 rfl Try.ty4 rfl rfl) (v' := ptr m.b2 2) rfl) ?_
      refine Gx.val rfl rfl rfl (val_load rfl Try.ty4 rfl rfl (cell_rec (k := 4) rfl rfl)) ?_
      refine Gx.val rfl rfl rfl (val_not rfl rfl) ?_
      refine Gx.done ?_
      refine Gx.thenN ?_
      refine Gx.bool rfl (fun h4 => ?_) (fun h4 => ?_)
      · refine Gx.regionO (fun j => false) 11 [0, 1, 2, 3, 4, 5, 6, 7, 8, 9, 10] (fun _ => [Hp.rec_ S [cv, ov, nowV (mo.map Om.b) (some k), nowV (mo.map Om.b) a1, nowV (mo.map Om.b) a2, nowV (mo.map Om.b) a3], Hp.own Fsd 3 cv (storeR cs i m.o.best), Hp.own FP 1 ov (mo.map Om.b), Hp.rec_ m.b [ptr m.b2 0, .int .i64 ((m.o.best.n : Nat) : Int), .int .i64 ((m.o.best.who : Nat) : Int), .int .i64 m.o.best.val, .bool m.o.sec, .int .u32 ((mk (m.o.seen ++ [i]) : Nat) : Int), .int .i64 ((m.o.many + 1 : Nat) : Int)], Hp.rec_ m.b2 [.int .i64 0, .int .i64 0, .bool m.o.wr, .int .i64 m.o.val, .int .i64 ((m.o.frm : Nat) : Int), .int .i64 ((mom : Nat) : Int)], R0, R]) Try.mixed (by kernel_rfl) rfl ?_
        refine Gw.val rfl rfl rfl rfl rfl (fun us => val_move rfl rfl) ?_
        refine Gw.val rfl rfl rfl rfl rfl (fun us => val_nilCheck rfl rfl) ?_
        refine Gw.val rfl rfl rfl rfl rfl (fun us => Val.cast (val_fieldAddr rfl Try.underlying54 rfl Try.ty49 rfl rfl) (v' := ptr m.b 0) rfl) ?_
        refine Gw.val0 rfl rfl rfl (by kernel_rfl) rfl rfl (val_load rfl Try.ty49 rfl rfl (cell_rec (k := 3) rfl rfl)) ?_
        refine Gw.val rfl rfl rfl rfl rfl (fun us => val_move rfl rfl) ?_
        refine Gw.val rfl rfl rfl rfl rfl (fun us => val_nilCheck rfl rfl) ?_
        refine Gw.val rfl rfl rfl rfl rfl (fun us => Val.cast (val_fieldAddr rfl Try.underlying54 rfl Try.ty51 rfl rfl) (v' := ptr m.b 1) rfl) ?_
        refine Gw.val rfl rfl rfl rfl rfl (fun us => Val.cast (val_fieldAddr rfl Try.underlying51 rfl Try.ty2 rfl rfl) (v' := ptr m.b 3) rfl) ?_
        refine Gw.val0 rfl rfl rfl (by kernel_rfl) rfl rfl (val_load rfl Try.ty2 rfl rfl (cell_rec (k := 3) rfl rfl)) ?_
        refine Gw.val rfl rfl rfl rfl rfl (fun us => val_nilCheck rfl rfl) ?_
        refine Gw.val rfl rfl rfl rfl rfl (fun us => Val.cast (val_fieldAddr rfl Try.underlying33 rfl Try.ty2 rfl rfl) (v' := ptr m.b2 3) rfl) ?_
        refine Gw.done ?_
        refine Gx.norm (l' := [Hp.rec_ S [cv, ov, nowV (mo.map Om.b) (some k), nowV (mo.map Om.b) a1, nowV (mo.map Om.b) a2, nowV (mo.map Om.b) a3], Hp.own Fsd 3 cv (storeR cs i m.o.best), Hp.own FP 1 ov (mo.map Om.b), Hp.rec_ m.b [ptr m.b2 0, .int .i64 ((m.o.best.n : Nat) : Int), .int .i64 ((m.o.best.who : Nat) : Int), .int .i64 m.o.best.val, .bool m.o.sec, .int .u32 ((mk (m.o.seen ++ [i]) : Nat) : Int), .int .i64 ((m.o.many + 1 : Nat) : Int)], Hp.rec_ m.b2 [.int .i64 0, .int .i64 0, .bool m.o.wr, .int .i64 m.o.val, .int .i64 ((m.o.frm : Nat) : Int), .int .i64 ((mom : Nat) : Int)], R0, R]) rfl ?_
        refine Gx.eff0 rfl rfl (eff_store rfl Try.ty2 rfl rfl (us := [.int .i64 m.o.best.val]) rfl rfl rfl (k := 4) rfl (rfl) (vs' := [.int .i64 0, .int .i64 0, .bool m.o.wr, .int .i64 m.o.best.val, .int .i64 ((m.o.frm : Nat) : Int), .int .i64 ((mom : Nat) : Int)]) (rfl) (l' := [Hp.rec_ S [cv, ov, nowV (mo.map Om.b) (some k), nowV (mo.map Om.b) a1, nowV (mo.map Om.b) a2, nowV (mo.map Om.b) a3], Hp.own Fsd 3 cv (storeR cs i m.o.best), Hp.own FP 1 ov (mo.map Om.b), Hp.rec_ m.b [ptr m.b2 0, .int .i64 ((m.o.best.n : Nat) : Int), .int .i64 ((m.o.best.who : Nat) : Int), .int .i64 m.o.best.val, .bool m.o.sec, .int .u32 ((mk (m.o.seen ++ [i]) : Nat) : Int), .int .i64 ((m.o.many + 1 : Nat) : Int)], Hp.rec_ m.b2 [.int .i64 0, .int .i64 0, .bool m.o.wr, .int .i64 m.o.best.val, .int .i64 ((m.o.frm : Nat) : Int), .int .i64 ((mom : Nat) : Int)], R0, R]) rfl) ?_
        rintro _ _ rfl
        refine Gx.done ?_
        refine Gx.thenN ?_
        refine Gx.seq ?_
        refine Gx.regionO (fun j => false) 11 [0, 1, 2, 3, 4, 5, 6, 7, 8, 9, 10] (fun _ => [Hp.rec_ S [cv, ov, nowV (mo.map Om.b) (some k), nowV (mo.map Om.b) a1, nowV (mo.map Om.b) a2, nowV (mo.map Om.b) a3], Hp.own Fsd 3 cv (storeR cs i m.o.best), Hp.own FP 1 ov (mo.map Om.b), Hp.rec_ m.b [ptr m.b2 0, .int .i64 ((m.o.best.n : Nat) : Int), .int .i64 ((m.o.best.who : Nat) : Int), .int .i64 m.o.best.val, .bool m.o.sec, .int .u32 ((mk (m.o.seen ++ [i]) : Nat) : Int), .int .i64 ((m.o.many + 1 : Nat) : Int)], Hp.rec_ m.b2 [.int .i64 0, .int .i64 0, .bool m.o.wr, .int .i64 m.o.best.val, .int .i64 ((m.o.frm : Nat) : Int), .int .i64 ((mom : Nat) : Int)], R0, R]) Try.mixed (by kernel_rfl) rfl ?_
        refine Gw.val rfl rfl rfl rfl rfl (fun us => val_move rfl rfl) ?_
        refine Gw.val rfl rfl rfl rfl rfl (fun us => val_move rfl rfl) ?_
        refine Gw.val rfl rfl rfl rfl rfl (fun us => val_nilCheck rfl rfl) ?_
        refine Gw.val rfl rfl rfl rfl rfl (fun us => Val.cast (val_fieldAddr rfl Try.underlying54 rfl Try.ty49 rfl rfl) (v' := ptr m.b 0) rfl) ?_
        refine Gw.val0 rfl rfl rfl (by kernel_rfl) rfl rfl (val_load rfl Try.ty49 rfl rfl (cell_rec (k := 3) rfl rfl)) ?_
        refine Gw.val rfl rfl rfl rfl rfl (fun us => val_nilCheck rfl rfl) ?_
        refine Gw.val rfl rfl rfl rfl rfl (fun us => Val.cast (val_fieldAddr rfl Try.underlying33 rfl Try.ty3 rfl rfl) (v' := ptr m.b2 0) rfl) ?_
        refine Gw.val0 rfl rfl rfl (by kernel_rfl) rfl rfl (val_load rfl Try.ty3 rfl rfl (cell_rec (k := 4) rfl rfl)) ?_
        refine Gw.val rfl rfl rfl rfl rfl (fun us => val_nilCheck rfl rfl) ?_
        refine Gw.val rfl rfl rfl rfl rfl (fun us => Val.cast (val_fieldAddr rfl Try.underlying47 rfl Try.ty45 rfl rfl) (v' := ptr S 2) rfl) ?_
        refine Gw.val rfl rfl rfl rfl rfl (fun us => Val.cast (val_ixaA rfl Try.underlying45 Try.ty44 rfl rfl (j := 0) (rfl) (by omega)) (v' := ptr S 2) rfl) ?_
        refine Gw.done ?_
        refine Gx.norm (l' := [Hp.rec_ S [cv, ov, nowV (mo.map Om.b) (some k), nowV (mo.map Om.b) a1, nowV (mo.map Om.b) a2, nowV (mo.map Om.b) a3], Hp.own Fsd 3 cv (storeR cs i m.o.best), Hp.own FP 1 ov (mo.map Om.b), Hp.rec_ m.b [ptr m.b2 0, .int .i64 ((m.o.best.n : Nat) : Int), .int .i64 ((m.o.best.who : Nat) : Int), .int .i64 m.o.best.val, .bool m.o.sec, .int .u32 ((mk (m.o.seen ++ [i]) : Nat) : Int), .int .i64 ((m.o.many + 1 : Nat) : Int)], Hp.rec_ m.b2 [.int .i64 0, .int .i64 0, .bool m.o.wr, .int .i64 m.o.best.val, .int .i64 ((m.o.frm : Nat) : Int), .int .i64 ((mom : Nat) : Int)], R0, R]) rfl ?_
        refine Gx.eff0 rfl rfl (eff_store rfl Try.ty44 rfl rfl (us := [.pointer none]) rfl rfl rfl (k := 0) rfl (rfl) (vs' := [cv, ov, .pointer none, nowV (mo.map Om.b) a1, nowV (mo.map Om.b) a2, nowV (mo.map Om.b) a3]) (rfl) (l' := [Hp.rec_ S [cv, ov, .pointer none, nowV (mo.map Om.b) a1, nowV (mo.map Om.b) a2, nowV (mo.map Om.b) a3], Hp.own Fsd 3 cv (storeR cs i m.o.best), Hp.own FP 1 ov (mo.map Om.b), Hp.rec_ m.b [ptr m.b2 0, .int .i64 ((m.o.best.n : Nat) : Int), .int .i64 ((m.o.best.who : Nat) : Int), .int .i64 m.o.best.val, .bool m.o.sec, .int .u32 ((mk (m.o.seen ++ [i]) : Nat) : Int), .int .i64 ((m.o.many + 1 : Nat) : Int)], Hp.rec_ m.b2 [.int .i64 0, .int .i64 0, .bool m.o.wr, .int .i64 m.o.best.val, .int .i64 ((m.o.frm : Nat) : Int), .int .i64 ((mom : Nat) : Int)], R0, R]) rfl) ?_
        rintro _ _ rfl
        refine Gx.done ?_
        refine Gx.thenN ?_
        refine Gx.seq ?_
        refine Gx.region ?_
        refine Gx.val rfl rfl rfl (val_assign rfl rfl) ?_
        refine Gx.done ?_
        refine Gx.thenN ?_
        refine Gx.ret ?_
        refine Gx.thenR ?_
        have ht : ¬ 2 * (m.o.many + 1) ≤ cs.length := by omega
        have hO : (if 2 * (m.o.many + 1) ≤ cs.length then seeR cs i m.o else turnO (seeR cs i m.o) mom) = ⟨0, m.o.wr, m.o.best.val, m.o.frm, ((mom : Nat) : Int), m.o.best, m.o.sec, (m.o.seen ++ [i]), (m.o.many + 1)⟩ := by
          rw [if_neg ht]
          obtain ⟨b1, b2, ⟨o1, o2, o3, o4, o5, o6, o7, o8, o9⟩⟩ := m
          dsimp only at *
          subst hw
          simp only [seeR, turnO, hci, h1, (by simpa using h4), if_true, if_false, Bool.false_eq_true]
        have hC : (if m.o.sec = true then storeR cs i m.o.best else cs) = (storeR cs i m.o.best) := by rw [if_pos h1]
        have hN : (if 2 * (m.o.many + 1) ≤ cs.length then ([(some k), a1, a2, a3] : List (Option Nat)) else if m.o.sec = true then [none, a1, a2, a3] else [(some k), a1, a2, a3]) = [none, a1, a2, a3] := by rw [if_neg ht, if_pos h1]
        refine Gx.ret1 Try.results15 rfl ?_
        refine ⟨rfl, ?_⟩
        rw [hO, hC, hN]
        exact reg_shut (a0 := none) (a1 := a1) (a2 := a2) (a3 := a3) hk hb2 (⟨m.b, m.b2, ⟨0, m.o.wr, m.o.best.val, m.o.frm, ((mom : Nat) : Int), m.o.best, m.o.sec, (m.o.seen ++ [i]), (m.o.many + 1)⟩⟩ : Om) rfl
      · refine Gx.skip ?_
        refine Gx.thenN ?_
        refine Gx.seq ?_
        refine Gx.regionO (fun j => false) 11 [0, 1, 2, 3, 4, 5, 6, 7, 8, 9, 10] (fun _ => [Hp.rec_ S [cv, ov, nowV (mo.map Om.b) (some k), nowV (mo.map Om.b) a1, nowV (mo.map Om.b) a2, nowV (mo.map Om.b) a3], Hp.own Fsd 3 cv (storeR cs i m.o.best), Hp.own FP 1 ov (mo.map Om.b), Hp.rec_ m.b [ptr m.b2 0, .int .i64 ((m.o.best.n : Nat) : Int), .int .i64 ((m.o.best.who : Nat) : Int), .int .i64 m.o.best.val, .bool m.o.sec, .int .u32 ((mk (m.o.seen ++ [i]) : Nat) : Int), .int .i64 ((m.o.many + 1 : Nat) : Int)], Hp.rec_ m.b2 [.int .i64 0, .int .i64 0, .bool m.o.wr, .int .i64 m.o.val, .int .i64 ((m.o.frm : Nat) : Int), .int .i64 ((mom : Nat) : Int)], R0, R]) Try.mixed (by kernel_rfl) rfl ?_
        refine Gw.val rfl rfl rfl rfl rfl (fun us => val_move rfl rfl) ?_
        refine Gw.val rfl rfl rfl rfl rfl (fun us => val_move rfl rfl) ?_
        refine Gw.val rfl rfl rfl rfl rfl (fun us => val_nilCheck rfl rfl) ?_
        refine Gw.val rfl rfl rfl rfl rfl (fun us => Val.cast (val_fieldAddr rfl Try.underlying54 rfl Try.ty49 rfl rfl) (v' := ptr m.b 0) rfl) ?_
        refine Gw.val0 rfl rfl rfl (by kernel_rfl) rfl rfl (val_load rfl Try.ty49 rfl rfl (cell_rec (k := 3) rfl rfl)) ?_
        refine Gw.val rfl rfl rfl rfl rfl (fun us => val_nilCheck rfl rfl) ?_
        refine Gw.val rfl rfl rfl rfl rfl (fun us => Val.cast (val_fieldAddr rfl Try.underlying33 rfl Try.ty3 rfl rfl) (v' := ptr m.b2 0) rfl) ?_
        refine Gw.val0 rfl rfl rfl (by kernel_rfl) rfl rfl (val_load rfl Try.ty3 rfl rfl (cell_rec (k := 4) rfl rfl)) ?_
        refine Gw.val rfl rfl rfl rfl rfl (fun us => val_nilCheck rfl rfl) ?_
        refine Gw.val rfl rfl rfl rfl rfl (fun us => Val.cast (val_fieldAddr rfl Try.underlying47 rfl Try.ty45 rfl rfl) (v' := ptr S 2) rfl) ?_
        refine Gw.val rfl rfl rfl rfl rfl (fun us => Val.cast (val_ixaA rfl Try.underlying45 Try.ty44 rfl rfl (j := 0) (rfl) (by omega)) (v' := ptr S 2) rfl) ?_
        refine Gw.done ?_
        refine Gx.norm (l' := [Hp.rec_ S [cv, ov, nowV (mo.map Om.b) (some k), nowV (mo.map Om.b) a1, nowV (mo.map Om.b) a2, nowV (mo.map Om.b) a3], Hp.own Fsd 3 cv (storeR cs i m.o.best), Hp.own FP 1 ov (mo.map Om.b), Hp.rec_ m.b [ptr m.b2 0, .int .i64 ((m.o.best.n : Nat) : Int), .int .i64 ((m.o.best.who : Nat) : Int), .int .i64 m.o.best.val, .bool m.o.sec, .int .u32 ((mk (m.o.seen ++ [i]) : Nat) : Int), .int .i64 ((m.o.many + 1 : Nat) : Int)], Hp.rec_ m.b2 [.int .i64 0, .int .i64 0, .bool m.o.wr, .int .i64 m.o.val, .int .i64 ((m.o.frm : Nat) : Int), .int .i64 ((mom : Nat) : Int)], R0, R]) rfl ?_
        refine Gx.eff0 rfl rfl (eff_store rfl Try.ty44 rfl rfl (us := [.pointer none]) rfl rfl rfl (k := 0) rfl (rfl) (vs' := [cv, ov, .pointer none, nowV (mo.map Om.b) a1, nowV (mo.map Om.b) a2, nowV (mo.map Om.b) a3]) (rfl) (l' := [Hp.rec_ S [cv, ov, .pointer none, nowV (mo.map Om.b) a1, nowV (mo.map Om.b) a2, nowV (mo.map Om.b) a3], Hp.own Fsd 3 cv (storeR cs i m.o.best), Hp.own FP 1 ov (mo.map Om.b), Hp.rec_ m.b [ptr m.b2 0, .int .i64 ((m.o.best.n : Nat) : Int), .int .i64 ((m.o.best.who : Nat) : Int), .int .i64 m.o.best.val, .bool m.o.sec, .int .u32 ((mk (m.o.seen ++ [i]) : Nat) : Int), .int .i64 ((m.o.many + 1 : Nat) : Int)], Hp.rec_ m.b2 [.int .i64 0, .int .i64 0, .bool m.o.wr, .int .i64 m.o.val, .int .i64 ((m.o.frm : Nat) : Int), .int .i64 ((mom : Nat) : Int)], R0, R]) rfl) ?_
        rintro _ _ rfl
        refine Gx.done ?_
        refine Gx.thenN ?_
        refine Gx.seq ?_
        refine Gx.region ?_
        refine Gx.val rfl rfl rfl (val_assign rfl rfl) ?_
        refine Gx.done ?_
        refine Gx.thenN ?_
        refine Gx.ret ?_
        refine Gx.thenR ?_
        have ht : ¬ 2 * (m.o.many + 1) ≤ cs.length := by omega
        have hO : (if 2 * (m.o.many + 1) ≤ cs.length then seeR cs i m.o else turnO (seeR cs i m.o) mom) = ⟨0, m.o.wr, m.o.val, m.o.frm, ((mom : Nat) : Int), m.o.best, m.o.sec, (m.o.seen ++ [i]), (m.o.many + 1)⟩ := by
          rw [if_neg ht]
          obtain ⟨b1, b2, ⟨o1, o2, o3, o4, o5, o6, o7, o8, o9⟩⟩ := m
          dsimp only at *
          subst hw
          simp only [seeR, turnO, hci, h1, (by simpa using h4), if_true, if_false, Bool.false_eq_true]
        have hC : (if m.o.sec = true then storeR cs i m.o.best else cs) = (storeR cs i m.o.best) := by rw [if_pos h1]
        have hN : (if 2 * (m.o.many + 1) ≤ cs.length then ([(some k), a1, a2, a3] : List (Option Nat)) else if m.o.sec = true then [none, a1, a2, a3] else [(some k), a1, a2, a3]) = [none, a1, a2, a3] := by rw [if_neg ht, if_pos h1]
        refine Gx.ret1 Try.results15 rfl ?_
        refine ⟨rfl, ?_⟩
        rw [hO, hC, hN]
        exact reg_shut (a0 := none) (a1 := a1) (a2 := a2) (a3 := a3) hk hb2 (⟨m.b, m.b2, ⟨0, m.o.wr, m.o.val, m.o.frm, ((mom : Nat) : Int), m.o.best, m.o.sec, (m.o.seen ++ [i]), (m.o.many + 1)⟩⟩ : Om) rfl
  · refine Gx.seq ?_
    refine Gx.region ?_
    refine Gx.val rfl rfl rfl (val_move rfl rfl) ?_
    refine Gx.val rfl rfl rfl (val_nilCheck rfl rfl) ?_
    refine Gx.val rfl rfl rfl (Val.cast (val_fieldAddr rfl Try.underlying47 rfl Try.ty42 rfl rfl) (v' := ptr S 0) rfl) ?_
    refine Gx.val rfl rfl rfl (val_load rfl Try.ty42 rfl rfl (cell_rec (k := 0) rfl rfl)) ?_
    refine Gx.val rfl rfl rfl (val_move rfl rfl) ?_
    refine Gx.val rfl rfl rfl (val_ixa rfl Try.underlying42 Try.ty51 rfl rfl (j := i) (rfl) (reach_own (k := 1) rfl hci)) ?_
    refine Gx.val rfl rfl rfl (Val.cast (val_loadA rfl Try.ty51 rfl rfl rfl (cells_own (k := 1) rfl hci)) (v' := .agg #[.int .i64 ((c0.n : Nat) : Int), .int .i64 ((c0.who : Nat) : Int), .int .i64 c0.val]) rfl) ?_
    refine Gx.eff rfl rfl rfl (eff_alloc rfl Try.ty51 (vs := [.int .i64 0, .int .i64 0, .int .i64 0]) rfl) ?_
    rintro _ _ ⟨b5, rfl, rfl⟩
    refine Gx.eff0 rfl rfl (eff_store rfl Try.ty51 rfl rfl (us := [.int .i64 ((c0.n : Nat) : Int), .int .i64 ((c0.who : Nat) : Int), .int .i64 c0.val]) rfl rfl rfl (k := 0) rfl (rfl) (vs' := [.int .i64 ((c0.n : Nat) : Int), .int .i64 ((c0.who : Nat) : Int), .int .i64 c0.val]) (rfl) (l' := [Hp.rec_ b5 [.int .i64 ((c0.n : Nat) : Int), .int .i64 ((c0.who : Nat) : Int), .int .i64 c0.val], Hp.rec_ S [cv, ov, nowV (mo.map Om.b) (some k), nowV (mo.map Om.b) a1, nowV (mo.map Om.b) a2, nowV (mo.map Om.b) a3], Hp.own Fsd 3 cv cs, Hp.own FP 1 ov (mo.map Om.b), Hp.rec_ m.b [ptr m.b2 0, .int .i64 ((m.o.best.n : Nat) : Int), .int .i64 ((m.o.best.who : Nat) : Int), .int .i64 m.o.best.val, .bool m.o.sec, .int .u32 ((mk (m.o.seen ++ [i]) : Nat) : Int), .int .i64 ((m.o.many + 1 : Nat) : Int)], Hp.rec_ m.b2 [.int .i64 0, .int .i64 0, .bool m.o.wr, .int .i64 m.o.val, .int .i64 ((m.o.frm : Nat) : Int), .int .i64 m.o.to], R0, R]) rfl) ?_
    rintro _ _ rfl
    refine Gx.done ?_
    refine Gx.thenN ?_
    refine Gx.seq ?_
    refine Gx.regionQ Try.mixed (by kernel_rfl) ?_
    refine Gq.val rfl rfl rfl (Val.cast (val_loadA rfl Try.ty51 rfl rfl rfl (cells_rec (k := 0) rfl)) (v' := .agg #[.int .i64 ((c0.n : Nat) : Int), .int .i64 ((c0.who : Nat) : Int), .int .i64 c0.val]) rfl) ?_
    refine Gq.val rfl rfl rfl (val_move rfl rfl) ?_
    refine Gq.val rfl rfl rfl (val_nilCheck rfl rfl) ?_
    refine Gq.val rfl rfl rfl (Val.cast (val_fieldAddr rfl Try.underlying54 rfl Try.ty51 rfl rfl) (v' := ptr m.b 1) rfl) ?_
    refine Gq.val rfl rfl rfl (Val.cast (val_loadA rfl Try.ty51 rfl rfl (us := [.int .i64 ((m.o.best.n : Nat) : Int), .int .i64 ((m.o.best.who : Nat) : Int), .int .i64 m.o.best.val]) rfl (cells_rec_at (k := 4) (i := 1) (n := 3) rfl rfl)) (v' := .agg #[.int .i64 ((m.o.best.n : Nat) : Int), .int .i64 ((m.o.best.who : Nat) : Int), .int .i64 m.o.best.val]) rfl) ?_
    refine Gq.val rfl rfl rfl (val_call (vs := [.agg #[.int .i64 ((c0.n : Nat) : Int), .int .i64 ((c0.who : Nat) : Int), .int .i64 c0.val], .agg #[.int .i64 ((m.o.best.n : Nat) : Int), .int .i64 ((m.o.best.who : Nat) : Int), .int .i64 m.o.best.val]]) rfl Try.fn20 rfl (fun w H => later_any c0 m.o.best)) ?_
    refine Gq.done ?_
    refine Gx.thenN ?_
    refine Gx.bool rfl (fun h6 => ?_) (fun h6 => ?_)
    · refine Gx.region ?_
      refine Gx.val rfl rfl rfl (val_move rfl rfl) ?_
      refine Gx.val rfl rfl rfl (Val.cast (val_loadA rfl Try.ty51 rfl rfl rfl (cells_rec (k := 0) rfl)) (v' := .agg #[.int .i64 ((c0.n : Nat) : Int), .int .i64 ((c0.who : Nat) : Int), .int .i64 c0.val]) rfl) ?_
      refine Gx.val rfl rfl rfl (val_nilCheck rfl rfl) ?_
      refine Gx.val rfl rfl rfl (Val.cast (val_fieldAddr rfl Try.underlying54 rfl Try.ty51 rfl rfl) (v' := ptr m.b 1) rfl) ?_
      refine Gx.eff0 rfl rfl (eff_store rfl Try.ty51 rfl rfl (us := [.int .i64 ((c0.n : Nat) : Int), .int .i64 ((c0.who : Nat) : Int), .int .i64 c0.val]) rfl rfl rfl (k := 4) rfl (rfl) (vs' := [ptr m.b2 0, .int .i64 ((c0.n : Nat) : Int), .int .i64 ((c0.who : Nat) : Int), .int .i64 c0.val, .bool m.o.sec, .int .u32 ((mk (m.o.seen ++ [i]) : Nat) : Int), .int .i64 ((m.o.many + 1 : Nat) : Int)]) (rfl) (l' := [Hp.rec_ b5 [.int .i64 ((c0.n : Nat) : Int), .int .i64 ((c0.who : Nat) : Int), .int .i64 c0.val], Hp.rec_ S [cv, ov, nowV (mo.map Om.b) (some k), nowV (mo.map Om.b) a1, nowV (mo.map Om.b) a2, nowV (mo.map Om.b) a3], Hp.own Fsd 3 cv cs, Hp.own FP 1 ov (mo.map Om.b), Hp.rec_ m.b [ptr m.b2 0, .int .i64 ((c0.n : Nat) : Int), .int .i64 ((c0.who : Nat) : Int), .int .i64 c0.val, .bool m.o.sec, .int .u32 ((mk (m.o.seen ++ [i]) : Nat) : Int), .int .i64 ((m.o.many + 1 : Nat) : Int)], Hp.rec_ m.b2 [.int .i64 0, .int .i64 0, .bool m.o.wr, .int .i64 m.o.val, .int .i64 ((m.o.frm : Nat) : Int), .int .i64 m.o.to], R0, R]) rfl) ?_
      rintro _ _ rfl
      refine Gx.done ?_
      refine Gx.thenN ?_
      refine Gx.seq ?_
      refine Gx.seq ?_
      refine Gx.regionQ Try.mixed (by kernel_rfl) ?_
      refine Gq.val rfl rfl rfl (val_move rfl rfl) ?_
      refine Gq.val rfl rfl rfl (val_nilCheck rfl rfl) ?_
      refine Gq.val rfl rfl rfl (Val.cast (val_fieldAddr rfl Try.underlying54 rfl Try.ty3 rfl rfl) (v' := ptr m.b 6) rfl) ?_
      refine Gq.val rfl rfl rfl (val_load rfl Try.ty3 rfl rfl (cell_rec (k := 4) rfl rfl)) ?_
      refine Gq.val rfl rfl rfl (val_mul rfl rfl rfl (r := ((2 * (m.o.many + 1) : Nat) : Int)) (w64 (by omega) (by omega))) ?_
      refine Gq.val rfl rfl rfl (val_move rfl rfl) ?_
      refine Gq.val rfl rfl rfl (val_nilCheck rfl rfl) ?_
      refine Gq.val rfl rfl rfl (Val.cast (val_fieldAddr rfl Try.underlying47 rfl Try.ty42 rfl rfl) (v' := ptr S 0) rfl) ?_
      refine Gq.val rfl rfl rfl (val_load rfl Try.ty42 rfl rfl (cell_rec (k := 1) rfl rfl)) ?_
      refine Gq.val rfl rfl rfl (val_len rfl Try.underlying42 rfl (len_own (k := 2) rfl)) ?_
      refine Gq.val rfl rfl rfl (val_leq rfl rfl rfl) ?_
      refine Gq.done ?_
      refine Gx.thenN ?_
      refine Gx.dec rfl (fun h7 => ?_) (fun h7 => ?_)
      · refine Gx.seq ?_
        refine Gx.region ?_
        refine Gx.val rfl rfl rfl (val_assign rfl rfl) ?_
        refine Gx.done ?_
        refine Gx.thenN ?_
        refine Gx.ret ?_
        refine Gx.thenR ?_
        refine Gx.drop 0 rfl ?_
        have ht : 2 * (m.o.many + 1) ≤ cs.length := by omega
        have hO : (if 2 * (m.o.many + 1) ≤ cs.length then seeR cs i m.o else turnO (seeR cs i m.o) mom) = ⟨0, m.o.wr, m.o.val, m.o.frm, m.o.to, c0, m.o.sec, (m.o.seen ++ [i]), (m.o.many + 1)⟩ := by
          rw [if_pos ht]
          obtain ⟨b1, b2, ⟨o1, o2, o3, o4, o5, o6, o7, o8, o9⟩⟩ := m
          dsimp only at *
          subst hw
          simp only [seeR, turnO, hci, h1, h6, if_true, if_false, Bool.false_eq_true]
        have hC : (if m.o.sec = true then storeR cs i m.o.best else cs) = cs := by rw [if_neg (by rw [h1]; decide)]
        have hN : (if 2 * (m.o.many + 1) ≤ cs.length then ([(some k), a1, a2, a3] : List (Option Nat)) else if m.o.sec = true then [none, a1, a2, a3] else [(some k), a1, a2, a3]) = [(some k), a1, a2, a3] := by rw [if_pos ht]
        refine Gx.ret1 Try.results15 rfl ?_
        refine ⟨rfl, ?_⟩
        rw [hO, hC, hN]
        exact reg_shut (a0 := (some k)) (a1 := a1) (a2 := a2) (a3 := a3) hk hb2 (⟨m.b, m.b2, ⟨0, m.o.wr, m.o.val, m.o.frm, m.o.to, c0, m.o.sec, (m.o.seen ++ [i]), (m.o.many + 1)⟩⟩ : Om) rfl
      · refine Gx.skip ?_
        refine Gx.thenN ?_
        refine Gx.seq ?_
        refine Gx.seq ?_
        refine Gx.region ?_
        refine Gx.val rfl rfl rfl (val_move rfl rfl) ?_
        refine Gx.val rfl rfl rfl (val_nilCheck rfl rfl) ?_
        refine Gx.val rfl rfl rfl (Val.cast (val_fieldAddr rfl Try.underlying54 rfl Try.ty4 rfl rfl) (v' := ptr m.b 4) rfl) ?_
        refine Gx.val rfl rfl rfl (val_load rfl Try.ty4 rfl rfl (cell_rec (k := 4) rfl rfl)) ?_
        refine Gx.done ?_
        refine Gx.thenN ?_
        refine Gx.boolF rfl (h1) ?_
        refine Gx.skip ?_
        refine Gx.thenN ?_
        refine Gx.seq ?_
        refine Gx.region ?_
        refine Gx.val rfl rfl rfl (val_move rfl rfl) ?_
        refine Gx.val rfl rfl rfl (val_move rfl rfl) ?_
        refine Gx.val rfl rfl rfl (val_move rfl rfl) ?_
        refine Gx.val rfl rfl rfl (val_nilCheck rfl rfl) ?_
        refine Gx.val rfl rfl rfl (Val.cast (val_fieldAddr rfl Try.underlying54 rfl Try.ty4 rfl rfl) (v' := ptr m.b 4) rfl) ?_
        refine Gx.eff0 rfl rfl (eff_store rfl Try.ty4 rfl rfl (us := [.bool true]) rfl rfl rfl (k := 4) rfl (rfl) (vs' := [ptr m.b2 0, .int .i64 ((c0.n : Nat) : Int), .int .i64 ((c0.who : Nat) : Int), .int .i64 c0.val, .bool true, .int .u32 ((mk (m.o.seen ++ [i]) : Nat) : Int), .int .i64 ((m.o.many + 1 : Nat) : Int)]) (rfl) (l' := [Hp.rec_ b5 [.int .i64 ((c0.n : Nat) : Int), .int .i64 ((c0.who : Nat) : Int), .int .i64 c0.val], Hp.rec_ S [cv, ov, nowV (mo.map Om.b) (some k), nowV (mo.map Om.b) a1, nowV (mo.map Om.b) a2, nowV (mo.map Om.b) a3], Hp.own Fsd 3 cv cs, Hp.own FP 1 ov (mo.map Om.b), Hp.rec_ m.b [ptr m.b2 0, .int .i64 ((c0.n : Nat) : Int), .int .i64 ((c0.who : Nat) : Int), .int .i64 c0.val, .bool true, .int .u32 ((mk (m.o.seen ++ [i]) : Nat) : Int), .int .i64 ((m.o.many + 1 : Nat) : Int)], Hp.rec_ m.b2 [.int .i64 0, .int .i64 0, .bool m.o.wr, .int .i64 m.o.val, .int .i64 ((m.o.frm : Nat) : Int), .int .i64 m.o.to], R0, R]) rfl) ?_
        rintro _ _ rfl
        refine Gx.val rfl rfl rfl (val_nilCheck rfl rfl) ?_
        refine Gx.val rfl rfl rfl (Val.cast (val_fieldAddr rfl Try.underlying54 rfl Try.ty52 rfl rfl) (v' := ptr m.b 5) rfl) ?_
        refine Gx.eff0 rfl rfl (eff_store rfl Try.ty52 rfl rfl (us := [.int .u32 0]) rfl rfl rfl (k := 4) rfl (rfl) (vs' := [ptr m.b2 0, .int .i64 ((c0.n : Nat) : Int), .int .i64 ((c0.who : Nat) : Int), .int .i64 c0.val, .bool true, .int .u32 0, .int .i64 ((m.o.many + 1 : Nat) : Int)]) (rfl) (l' := [Hp.rec_ b5 [.int .i64 ((c0.n : Nat) : Int), .int .i64 ((c0.who : Nat) : Int), .int .i64 c0.val], Hp.rec_ S [cv, ov, nowV (mo.map Om.b) (some k), nowV (mo.map Om.b) a1, nowV (mo.map Om.b) a2, nowV (mo.map Om.b) a3], Hp.own Fsd 3 cv cs, Hp.own FP 1 ov (mo.map Om.b), Hp.rec_ m.b [ptr m.b2 0, .int .i64 ((c0.n : Nat) : Int), .int .i64 ((c0.who : Nat) : Int), .int .i64 c0.val, .bool true, .int .u32 0, .int .i64 ((m.o.many + 1 : Nat) : Int)], Hp.rec_ m.b2 [.int .i64 0, .int .i64 0, .bool m.o.wr, .int .i64 m.o.val, .int .i64 ((m.o.frm : Nat) : Int), .int .i64 m.o.to], R0, R]) rfl) ?_
        rintro _ _ rfl
        refine Gx.val rfl rfl rfl (val_nilCheck rfl rfl) ?_
        refine Gx.val rfl rfl rfl (Val.cast (val_fieldAddr rfl Try.underlying54 rfl Try.ty3 rfl rfl) (v' := ptr m.b 6) rfl) ?_
        refine Gx.eff0 rfl rfl (eff_store rfl Try.ty3 rfl rfl (us := [.int .i64 0]) rfl rfl rfl (k := 4) rfl (rfl) (vs' := [ptr m.b2 0, .int .i64 ((c0.n : Nat) : Int), .int .i64 ((c0.who : Nat) : Int), .int .i64 c0.val, .bool true, .int .u32 0, .int .i64 0]) (rfl) (l' := [Hp.rec_ b5 [.int .i64 ((c0.n : Nat) : Int), .int .i64 ((c0.who : Nat) : Int), .int .i64 c0.val], Hp.rec_ S [cv, ov, nowV (mo.map Om.b) (some k), nowV (mo.map Om.b) a1, nowV (mo.map Om.b) a2, nowV (mo.map Om.b) a3], Hp.own Fsd 3 cv cs, Hp.own FP 1 ov (mo.map Om.b), Hp.rec_ m.b [ptr m.b2 0, .int .i64 ((c0.n : Nat) : Int), .int .i64 ((c0.who : Nat) : Int), .int .i64 c0.val, .bool true, .int .u32 0, .int .i64 0], Hp.rec_ m.b2 [.int .i64 0, .int .i64 0, .bool m.o.wr, .int .i64 m.o.val, .int .i64 ((m.o.frm : Nat) : Int), .int .i64 m.o.to], R0, R]) rfl) ?_
        rintro _ _ rfl
        refine Gx.done ?_
        refine Gx.thenN ?_
        refine Gx.seq ?_
        refine Gx.seq ?_
        refine Gx.region ?_
        refine Gx.val rfl rfl rfl (val_move rfl rfl) ?_
        refine Gx.val rfl rfl rfl (val_nilCheck rfl rfl) ?_
        refine Gx.val rfl rfl rfl (Val.cast (val_fieldAddr rfl Try.underlying54 rfl Try.ty49 rfl rfl) (v' := ptr m.b 0) rfl) ?_
        refine Gx.val rfl rfl rfl (val_load rfl Try.ty49 rfl rfl (cell_rec (k := 4) rfl rfl)) ?_
        refine Gx.val rfl rfl rfl (val_nilCheck rfl rfl) ?_
        refine Gx.val rfl rfl rfl (Val.cast (val_fieldAddr rfl Try.underlying33 rfl Try.ty4 rfl rfl) (v' := ptr m.b2 2) rfl) ?_
        refine Gx.val rfl rfl rfl (val_load rfl Try.ty4 rfl rfl (cell_rec (k := 5) rfl rfl)) ?_
        refine Gx.done ?_
        refine Gx.thenN ?_
        refine Gx.bool rfl (fun h8 => ?_) (fun h8 => ?_)
        · refine Gx.regionO (fun j => false) 24 [0, 1, 2, 3, 4, 5, 6, 7, 8, 9, 10, 11, 12, 13, 14, 15, 16, 17, 18, 19, 20, 21, 22, 23] (fun _ => [Hp.rec_ b5 [.int .i64 ((c0.n : Nat) : Int), .int .i64 ((c0.who : Nat) : Int), .int .i64 c0.val], Hp.rec_ S [cv, ov, nowV (mo.map Om.b) (some k), nowV (mo.map Om.b) a1, nowV (mo.map Om.b) a2, nowV (mo.map Om.b) a3], Hp.own Fsd 3 cv cs, Hp.own FP 1 ov (mo.map Om.b), Hp.rec_ m.b [ptr m.b2 0, .int .i64 ((c0.n : Nat) : Int), .int .i64 ((c0.who : Nat) : Int), .int .i64 c0.val, .bool true, .int .u32 0, .int .i64 0], Hp.rec_ m.b2 [.int .i64 0, .int .i64 0, .bool m.o.wr, .int .i64 m.o.val, .int .i64 ((m.o.frm : Nat) : Int), .int .i64 m.o.to], R0, R]) Try.mixed (by kernel_rfl) rfl ?_
          refine Gw.val rfl rfl rfl rfl rfl (fun us => val_move rfl rfl) ?_
          refine Gw.val rfl rfl rfl rfl rfl (fun us => val_move rfl rfl) ?_
          refine Gw.val rfl rfl rfl rfl rfl (fun us => val_nilCheck rfl rfl) ?_
          refine Gw.val rfl rfl rfl rfl rfl (fun us => Val.cast (val_fieldAddr rfl Try.underlying54 rfl Try.ty51 rfl rfl) (v' := ptr m.b 1) rfl) ?_
          refine Gw.val rfl rfl rfl rfl rfl (fun us => Val.cast (val_fieldAddr rfl Try.underlying51 rfl Try.ty3 rfl rfl) (v' := ptr m.b 1) rfl) ?_
          refine Gw.val0 rfl rfl rfl (by kernel_rfl) rfl rfl (val_load rfl Try.ty3 rfl rfl (cell_rec (k := 4) rfl rfl)) ?_
          refine Gw.val rfl rfl rfl rfl rfl (fun us => val_add rfl rfl rfl (r := ((c0.n + 1 : Nat) : Int)) (w64 (by omega) (by omega))) ?_
          refine Gw.val rfl rfl rfl rfl rfl (fun us => val_move rfl rfl) ?_
          refine Gw.val rfl rfl rfl rfl rfl (fun us => val_nilCheck rfl rfl) ?_
          refine Gw.val rfl rfl rfl rfl rfl (fun us => Val.cast (val_fieldAddr rfl Try.underlying54 rfl Try.ty49 rfl rfl) (v' := ptr m.b 0) rfl) ?_
          refine Gw.val0 rfl rfl rfl (by kernel_rfl) rfl rfl (val_load rfl Try.ty49 rfl rfl (cell_rec (k := 4) rfl rfl)) ?_
          refine Gw.val rfl rfl rfl rfl rfl (fun us => val_nilCheck rfl rfl) ?_
          refine Gw.val rfl rfl rfl rfl rfl (fun us => Val.cast (val_fieldAddr rfl Try.underlying33 rfl Try.ty3 rfl rfl) (v' := ptr m.b2 0) rfl) ?_
          refine Gw.val0 rfl rfl rfl (by kernel_rfl) rfl rfl (val_load rfl Try.ty3 rfl rfl (cell_rec (k := 5) rfl rfl)) ?_
          refine Gw.val rfl rfl rfl rfl rfl (fun us => val_move rfl rfl) ?_
          refine Gw.val rfl rfl rfl rfl rfl (fun us => val_nilCheck rfl rfl) ?_
          refine Gw.val rfl rfl rfl rfl rfl (fun us => Val.cast (val_fieldAddr rfl Try.underlying54 rfl Try.ty49 rfl rfl) (v' := ptr m.b 0) rfl) ?_
          refine Gw.val0 rfl rfl rfl (by kernel_rfl) rfl rfl (val_load rfl Try.ty49 rfl rfl (cell_rec (k := 4) rfl rfl)) ?_
          refine Gw.val rfl rfl rfl rfl rfl (fun us => val_nilCheck rfl rfl) ?_
          refine Gw.val rfl rfl rfl rfl rfl (fun us => Val.cast (val_fieldAddr rfl Try.underlying33 rfl Try.ty2 rfl rfl) (v' := ptr m.b2 3) rfl) ?_
          refine Gw.val0 rfl rfl rfl (by kernel_rfl) rfl rfl (val_load rfl Try.ty2 rfl rfl (cell_rec (k := 5) rfl rfl)) ?_
          refine Gw.val rfl rfl rfl rfl rfl (fun us => val_build rfl (qs := [(0, .int .i64 ((c0.n + 1 : Nat) : Int)), (1, .int .i64 0), (2, .int .i64 m.o.val)]) rfl rfl (fun w => by go_simp) (v := .agg #[.int .i64 ((c0.n + 1 : Nat) : Int), .int .i64 0, .int .i64 m.o.val])) ?_
          refine Gw.val rfl rfl rfl rfl rfl (fun us => val_nilCheck rfl rfl) ?_
          refine Gw.val rfl rfl rfl rfl rfl (fun us => Val.cast (val_fieldAddr rfl Try.underlying54 rfl Try.ty51 rfl rfl) (v' := ptr m.b 1) rfl) ?_
          refine Gw.done ?_
          refine Gx.norm (l' := [Hp.rec_ b5 [.int .i64 ((c0.n : Nat) : Int), .int .i64 ((c0.who : Nat) : Int), .int .i64 c0.val], Hp.rec_ S [cv, ov, nowV (mo.map Om.b) (some k), nowV (mo.map Om.b) a1, nowV (mo.map Om.b) a2, nowV (mo.map Om.b) a3], Hp.own Fsd 3 cv cs, Hp.own FP 1 ov (mo.map Om.b), Hp.rec_ m.b [ptr m.b2 0, .int .i64 ((c0.n : Nat) : Int), .int .i64 ((c0.who : Nat) : Int), .int .i64 c0.val, .bool true, .int .u32 0, .int .i64 0], Hp.rec_ m.b2 [.int .i64 0, .int .i64 0, .bool m.o.wr, .int .i64 m.o.val, .int .i64 ((m.o.frm : Nat) : Int), .int .i64 m.o.to], R0, R]) rfl ?_
          refine Gx.eff0 rfl rfl (eff_store rfl Try.ty51 rfl rfl (us := [.int .i64 ((c0.n + 1 : Nat) : Int), .int .i64 0, .int .i64 m.o.val]) rfl rfl rfl (k := 4) rfl (rfl) (vs' := [ptr m.b2 0, .int .i64 ((c0.n + 1 : Nat) : Int), .int .i64 0, .int .i64 m.o.val, .bool true, .int .u32 0, .int .i64 0]) (rfl) (l' := [Hp.rec_ b5 [.int .i64 ((c0.n : Nat) : Int), .int .i64 ((c0.who : Nat) : Int), .int .i64 c0.val], Hp.rec_ S [cv, ov, nowV (mo.map Om.b) (some k), nowV (mo.map Om.b) a1, nowV (mo.map Om.b) a2, nowV (mo.map Om.b) a3], Hp.own Fsd 3 cv cs, Hp.own FP 1 ov (mo.map Om.b), Hp.rec_ m.b [ptr m.b2 0, .int .i64 ((c0.n + 1 : Nat) : Int), .int .i64 0, .int .i64 m.o.val, .bool true, .int .u32 0, .int .i64 0], Hp.rec_ m.b2 [.int .i64 0, .int .i64 0, .bool m.o.wr, .int .i64 m.o.val, .int .i64 ((m.o.frm : Nat) : Int), .int .i64 m.o.to], R0, R]) rfl) ?_
          rintro _ _ rfl
          refine Gx.done ?_
          refine Gx.thenN ?_
          refine Gx.seq ?_
          refine Gx.region ?_
          refine Gx.val rfl rfl rfl (val_assign rfl rfl) ?_
          refine Gx.done ?_
          refine Gx.thenN ?_
          refine Gx.ret ?_
          refine Gx.drop 0 rfl ?_
          have ht : ¬ 2 * (m.o.many + 1) ≤ cs.length := by omega
          have hO : (if 2 * (m.o.many + 1) ≤ cs.length then seeR cs i m.o else turnO (seeR cs i m.o) mom) = ⟨0, m.o.wr, m.o.val, m.o.frm, m.o.to, ⟨c0.n + 1, 0, m.o.val⟩, true, [], 0⟩ := by
            rw [if_neg ht]
            obtain ⟨b1, b2, ⟨o1, o2, o3, o4, o5, o6, o7, o8, o9⟩⟩ := m
            dsimp only at *
            subst hw
            simp only [seeR, turnO, hci, h1, h6, h8, if_true, if_false, Bool.false_eq_true]
          have hC : (if m.o.sec = true then storeR cs i m.o.best else cs) = cs := by rw [if_neg (by rw [h1]; decide)]
          have hN : (if 2 * (m.o.many + 1) ≤ cs.length then ([(some k), a1, a2, a3] : List (Option Nat)) else if m.o.sec = true then [none, a1, a2, a3] else [(some k), a1, a2, a3]) = [(some k), a1, a2, a3] := by rw [if_neg ht, if_neg (by rw [h1]; decide)]
          refine Gx.ret1 Try.results15 rfl ?_
          refine ⟨rfl, ?_⟩
          rw [hO, hC, hN]
          exact reg_shut (a0 := (some k)) (a1 := a1) (a2 := a2) (a3 := a3) hk hb2 (⟨m.b, m.b2, ⟨0, m.o.wr, m.o.val, m.o.frm, m.o.to, ⟨c0.n + 1, 0, m.o.val⟩, true, [], 0⟩⟩ : Om) rfl
        · refine Gx.skip ?_
          refine Gx.thenN ?_
          refine Gx.seq ?_
          refine Gx.region ?_
          refine Gx.val rfl rfl rfl (val_assign rfl rfl) ?_
          refine Gx.done ?_
          refine Gx.thenN ?_
          refine Gx.ret ?_
          refine Gx.drop 0 rfl ?_
          have ht : ¬ 2 * (m.o.many + 1) ≤ cs.length := by omega
          have hO : (if 2 * (m.o.many + 1) ≤ cs.length then seeR cs i m.o else turnO (seeR cs i m.o) mom) = ⟨0, m.o.wr, m.o.val, m.o.frm, m.o.to, c0, true, [], 0⟩ := by
            rw [if_neg ht]
            obtain ⟨b1, b2, ⟨o1, o2, o3, o4, o5, o6, o7, o8, o9⟩⟩ := m
            dsimp only at *
            subst hw
            simp only [seeR, turnO, hci, h1, h6, h8, if_true, if_false, Bool.false_eq_true]
          have hC : (if m.o.sec = true then storeR cs i m.o.best else cs) = cs := by rw [if_neg (by rw [h1]; decide)]
          have hN : (if 2 * (m.o.many + 1) ≤ cs.length then ([(some k), a1, a2, a3] : List (Option Nat)) else if m.o.sec = true then [none, a1, a2, a3] else [(some k), a1, a2, a3]) = [(some k), a1, a2, a3] := by rw [if_neg ht, if_neg (by rw [h1]; decide)]
          refine Gx.ret1 Try.results15 rfl ?_
          refine ⟨rfl, ?_⟩
          rw [hO, hC, hN]
          exact reg_shut (a0 := (some k)) (a1 := a1) (a2 := a2) (a3 := a3) hk hb2 (⟨m.b, m.b2, ⟨0, m.o.wr, m.o.val, m.o.frm, m.o.to, c0, true, [], 0⟩⟩ : Om) rfl
    · refine Gx.skip ?_
      refine Gx.thenN ?_
      refine Gx.seq ?_
      refine Gx.seq ?_
      refine Gx.regionQ Try.mixed (by kernel_rfl) ?_
      refine Gq.val rfl rfl rfl (val_move rfl rfl) ?_
      refine Gq.val rfl rfl rfl (val_nilCheck rfl rfl) ?_
      refine Gq.val rfl rfl rfl (Val.cast (val_fieldAddr rfl Try.underlying54 rfl Try.ty3 rfl rfl) (v' := ptr m.b 6) rfl) ?_
      refine Gq.val rfl rfl rfl (val_load rfl Try.ty3 rfl rfl (cell_rec (k := 4) rfl rfl)) ?_
      refine Gq.val rfl rfl rfl (val_mul rfl rfl rfl (r := ((2 * (m.o.many + 1) : Nat) : Int)) (w64 (by omega) (by omega))) ?_
      refine Gq.val rfl rfl rfl (val_move rfl rfl) ?_
      refine Gq.val rfl rfl rfl (val_nilCheck rfl rfl) ?_
      refine Gq.val rfl rfl rfl (Val.cast (val_fieldAddr rfl Try.underlying47 rfl Try.ty42 rfl rfl) (v' := ptr S 0) rfl) ?_
      refine Gq.val rfl rfl rfl (val_load rfl Try.ty42 rfl rfl (cell_rec (k := 1) rfl rfl)) ?_
      refine Gq.val rfl rfl rfl (val_len rfl Try.underlying42 rfl (len_own (k := 2) rfl)) ?_
      refine Gq.val rfl rfl rfl (val_leq rfl rfl rfl) ?_
      refine Gq.done ?_
      refine Gx.thenN ?_
      refine Gx.dec rfl (fun h9 => ?_) (fun h9 => ?_)
      · refine Gx.seq ?_
        refine Gx.region ?_
        refine Gx.val rfl rfl rfl (val_assign rfl rfl) ?_
        refine Gx.done ?_
        refine Gx.thenN ?_
        refine Gx.ret ?_
        refine Gx.thenR ?_
        refine Gx.drop 0 rfl ?_
        have ht : 2 * (m.o.many + 1) ≤ cs.length := by omega
        have hO : (if 2 * (m.o.many + 1) ≤ cs.length then seeR cs i m.o else turnO (seeR cs i m.o) mom) = ⟨0, m.o.wr, m.o.val, m.o.frm, m.o.to, m.o.best, m.o.sec, (m.o.seen ++ [i]), (m.o.many + 1)⟩ := by
          rw [if_pos ht]
          obtain ⟨b1, b2, ⟨o1, o2, o3, o4, o5, o6, o7, o8, o9⟩⟩ := m
          dsimp only at *
          subst hw
          simp only [seeR, turnO, hci, h1, h6, if_true, if_false, Bool.false_eq_true]
        have hC : (if m.o.sec = true then storeR cs i m.o.best else cs) = cs := by rw [if_neg (by rw [h1]; decide)]
        have hN : (if 2 * (m.o.many + 1) ≤ cs.length then ([(some k), a1, a2, a3] : List (Option Nat)) else if m.o.sec = true then [none, a1, a2, a3] else [(some k), a1, a2, a3]) = [(some k), a1, a2, a3] := by rw [if_pos ht]
        refine Gx.ret1 Try.results15 rfl ?_
        refine ⟨rfl, ?_⟩
        rw [hO, hC, hN]
        exact reg_shut (a0 := (some k)) (a1 := a1) (a2 := a2) (a3 := a3) hk hb2 (⟨m.b, m.b2, ⟨0, m.o.wr, m.o.val, m.o.frm, m.o.to, m.o.best, m.o.sec, (m.o.seen ++ [i]), (m.o.many + 1)⟩⟩ : Om) rfl
      · refine Gx.skip ?_
        refine Gx.thenN ?_
        refine Gx.seq ?_
        refine Gx.seq ?_
        refine Gx.region ?_
        refine Gx.val rfl rfl rfl (val_move rfl rfl) ?_
        refine Gx.val rfl rfl rfl (val_nilCheck rfl rfl) ?_
        refine Gx.val rfl rfl rfl (Val.cast (val_fieldAddr rfl Try.underlying54 rfl Try.ty4 rfl rfl) (v' := ptr m.b 4) rfl) ?_
        refine Gx.val rfl rfl rfl (val_load rfl Try.ty4 rfl rfl (cell_rec (k := 4) rfl rfl)) ?_
        refine Gx.done ?_
        refine Gx.thenN ?_
        refine Gx.boolF rfl (h1) ?_
        refine Gx.skip ?_
        refine Gx.thenN ?_
        refine Gx.seq ?_
        refine Gx.region ?_
        refine Gx.val rfl rfl rfl (val_move rfl rfl) ?_
        refine Gx.val rfl rfl rfl (val_move rfl rfl) ?_
        refine Gx.val rfl rfl rfl (val_move rfl rfl) ?_
        refine Gx.val rfl rfl rfl (val_nilCheck rfl rfl) ?_
        refine Gx.val rfl rfl rfl (Val.cast (val_fieldAddr rfl Try.underlying54 rfl Try.ty4 rfl rfl) (v' := ptr m.b 4) rfl) ?_
        refine Gx.eff0 rfl rfl (eff_store rfl Try.ty4 rfl rfl (us := [.bool true]) rfl rfl rfl (k := 4) rfl (rfl) (vs' := [ptr m.b2 0, .int .i64 ((m.o.best.n : Nat) : Int), .int .i64 ((m.o.best.who : Nat) : Int), .int .i64 m.o.best.val, .bool true, .int .u32 ((mk (m.o.seen ++ [i]) : Nat) : Int), .int .i64 ((m.o.many + 1 : Nat) : Int)]) (rfl) (l' := [Hp.rec_ b5 [.int .i64 ((c0.n : Nat) : Int), .int .i64 ((c0.who : Nat) : Int), .int .i64 c0.val], Hp.rec_ S [cv, ov, nowV (mo.map Om.b) (some k), nowV (mo.map Om.b) a1, nowV (mo.map Om.b) a2, nowV (mo.map Om.b) a3], Hp.own Fsd 3 cv cs, Hp.own FP 1 ov (mo.map Om.b), Hp.rec_ m.b [ptr m.b2 0, .int .i64 ((m.o.best.n : Nat) : Int), .int .i64 ((m.o.best.who : Nat) : Int), .int .i64 m.o.best.val, .bool true, .int .u32 ((mk (m.o.seen ++ [i]) : Nat) : Int), .int .i64 ((m.o.many + 1 : Nat) : Int)], Hp.rec_ m.b2 [.int .i64 0, .int .i64 0, .bool m.o.wr, .int .i64 m.o.val, .int .i64 ((m.o.frm : Nat) : Int), .int .i64 m.o.to], R0, R]) rfl) ?_
        rintro _ _ rfl
        refine Gx.val rfl rfl rfl (val_nilCheck rfl rfl) ?_
        refine Gx.val rfl rfl rfl (Val.cast (val_fieldAddr rfl Try.underlying54 rfl Try.ty52 rfl rfl) (v' := ptr m.b 5) rfl) ?_
        refine Gx.eff0 rfl rfl (eff_store rfl Try.ty52 rfl rfl (us := [.int .u32 0]) rfl rfl rfl (k := 4) rfl (rfl) (vs' := [ptr m.b2 0, .int .i64 ((m.o.best.n : Nat) : Int), .int .i64 ((m.o.best.who : Nat) : Int), .int .i64 m.o.best.val, .bool true, .int .u32 0, .int .i64 ((m.o.many + 1 : Nat) : Int)]) (rfl) (l' := [Hp.rec_ b5 [.int .i64 ((c0.n : Nat) : Int), .int .i64 ((c0.who : Nat) : Int), .int .i64 c0.val], Hp.rec_ S [cv, ov, nowV (mo.map Om.b) (some k), nowV (mo.map Om.b) a1, nowV (mo.map Om.b) a2, nowV (mo.map Om.b) a3], Hp.own Fsd 3 cv cs, Hp.own FP 1 ov (mo.map Om.b), Hp.rec_ m.b [ptr m.b2 0, .int .i64 ((m.o.best.n : Nat) : Int), .int .i64 ((m.o.best.who : Nat) : Int), .int .i64 m.o.best.val, .bool true, .int .u32 0, .int .i64 ((m.o.many + 1 : Nat) : Int)], Hp.rec_ m.b2 [.int .i64 0, .int .i64 0, .bool m.o.wr, .int .i64 m.o.val, .int .i64 ((m.o.frm : Nat) : Int), .int .i64 m.o.to], R0, R]) rfl) ?_
        rintro _ _ rfl
        refine Gx.val rfl rfl rfl (val_nilCheck rfl rfl) ?_
        refine Gx.val rfl rfl rfl (Val.cast (val_fieldAddr rfl Try.underlying54 rfl Try.ty3 rfl rfl) (v' := ptr m.b 6) rfl) ?_
        refine Gx.eff0 rfl rfl (eff_store rfl Try.ty3 rfl rfl (us := [.int .i64 0]) rfl rfl rfl (k := 4) rfl (rfl) (vs' := [ptr m.b2 0, .int .i64 ((m.o.best.n : Nat) : Int), .int .i64 ((m.o.best.who : Nat) : Int), .int .i64 m.o.best.val, .bool true, .int .u32 0, .int .i64 0]) (rfl) (l' := [Hp.rec_ b5 [.int .i64 ((c0.n : Nat) : Int), .int .i64 ((c0.who : Nat) : Int), .int .i64 c0.val], Hp.rec_ S [cv, ov, nowV (mo.map Om.b) (some k), nowV (mo.map Om.b) a1, nowV (mo.map Om.b) a2, nowV (mo.map Om.b) a3], Hp.own Fsd 3 cv cs, Hp.own FP 1 ov (mo.map Om.b), Hp.rec_ m.b [ptr m.b2 0, .int .i64 ((m.o.best.n : Nat) : Int), .int .i64 ((m.o.best.who : Nat) : Int), .int .i64 m.o.best.val, .bool true, .int .u32 0, .int .i64 0], Hp.rec_ m.b2 [.int .i64 0, .int .i64 0, .bool m.o.wr, .int .i64 m.o.val, .int .i64 ((m.o.frm : Nat) : Int), .int .i64 m.o.to], R0, R]) rfl) ?_
        rintro _ _ rfl
        refine Gx.done ?_
        refine Gx.thenN ?_
        refine Gx.seq ?_
        refine Gx.seq ?_
        refine Gx.region ?_
        refine Gx.val rfl rfl rfl (val_move rfl rfl) ?_
        refine Gx.val rfl rfl rfl (val_nilCheck rfl rfl) ?_
        refine Gx.val rfl rfl rfl (Val.cast (val_fieldAddr rfl Try.underlying54 rfl Try.ty49 rfl rfl) (v' := ptr m.b 0) rfl) ?_
        refine Gx.val rfl rfl rfl (val_load rfl Try.ty49 rfl rfl (cell_rec (k := 4) rfl rfl)) ?_
        refine Gx.val rfl rfl rfl (val_nilCheck rfl rfl) ?_
        refine Gx.val rfl rfl rfl (Val.cast (val_fieldAddr rfl Try.underlying33 rfl Try.ty4 rfl rfl) (v' := ptr m.b2 2) rfl) ?_
        refine Gx.val rfl rfl rfl (val_load rfl Try.ty4 rfl rfl (cell_rec (k := 5) rfl rfl)) ?_
        refine Gx.done ?_
        refine Gx.thenN ?_
        refine Gx.bool rfl (fun h10 => ?_) (fun h10 => ?_)
        · refine Gx.regionO (fun j => false) 24 [0, 1, 2, 3, 4, 5, 6, 7, 8, 9, 10, 11, 12, 13, 14, 15, 16, 17, 18, 19, 20, 21, 22, 23] (fun _ => [Hp.rec_ b5 [.int .i64 ((c0.n : Nat) : Int), .int .i64 ((c0.who : Nat) : Int), .int .i64 c0.val], Hp.rec_ S [cv, ov, nowV (mo.map Om.b) (some k), nowV (mo.map Om.b) a1, nowV (mo.map Om.b) a2, nowV (mo.map Om.b) a3], Hp.own Fsd 3 cv cs, Hp.own FP 1 ov (mo.map Om.b), Hp.rec_ m.b [ptr m.b2 0, .int .i64 ((m.o.best.n : Nat) : Int), .int .i64 ((m.o.best.who : Nat) : Int), .int .i64 m.o.best.val, .bool true, .int .u32 0, .int .i64 0], Hp.rec_ m.b2 [.int .i64 0, .int .i64 0, .bool m.o.wr, .int .i64 m.o.val, .int .i64 ((m.o.frm : Nat) : Int), .int .i64 m.o.to], R0, R]) Try.mixed (by kernel_rfl) rfl ?_
          refine Gw.val rfl rfl rfl rfl rfl (fun us => val_move rfl rfl) ?_
          refine Gw.val rfl rfl rfl rfl rfl (fun us => val_move rfl rfl) ?_
          refine Gw.val rfl rfl rfl rfl rfl (fun us => val_nilCheck rfl rfl) ?_
          refine Gw.val rfl rfl rfl rfl rfl (fun us => Val.cast (val_fieldAddr rfl Try.underlying54 rfl Try.ty51 rfl rfl) (v' := ptr m.b 1) rfl) ?_
          refine Gw.val rfl rfl rfl rfl rfl (fun us => Val.cast (val_fieldAddr rfl Try.underlying51 rfl Try.ty3 rfl rfl) (v' := ptr m.b 1) rfl) ?_
          refine Gw.val0 rfl rfl rfl (by kernel_rfl) rfl rfl (val_load rfl Try.ty3 rfl rfl (cell_rec (k := 4) rfl rfl)) ?_
          refine Gw.val rfl rfl rfl rfl rfl (fun us => val_add rfl rfl rfl (r := ((m.o.best.n + 1 : Nat) : Int)) (w64 (by omega) (by omega))) ?_
          refine Gw.val rfl rfl rfl rfl rfl (fun us => val_move rfl rfl) ?_
          refine Gw.val rfl rfl rfl rfl rfl (fun us => val_nilCheck rfl rfl) ?_
          refine Gw.val rfl rfl rfl rfl rfl (fun us => Val.cast (val_fieldAddr rfl Try.underlying54 rfl Try.ty49 rfl rfl) (v' := ptr m.b 0) rfl) ?_
          refine Gw.val0 rfl rfl rfl (by kernel_rfl) rfl rfl (val_load rfl Try.ty49 rfl rfl (cell_rec (k := 4) rfl rfl)) ?_
          refine Gw.val rfl rfl rfl rfl rfl (fun us => val_nilCheck rfl rfl) ?_
          refine Gw.val rfl rfl rfl rfl rfl (fun us => Val.cast (val_fieldAddr rfl Try.underlying33 rfl Try.ty3 rfl rfl) (v' := ptr m.b2 0) rfl) ?_
          refine Gw.val0 rfl rfl rfl (by kernel_rfl) rfl rfl (val_load rfl Try.ty3 rfl rfl (cell_rec (k := 5) rfl rfl)) ?_
          refine Gw.val rfl rfl rfl rfl rfl (fun us => val_move rfl rfl) ?_
          refine Gw.val rfl rfl rfl rfl rfl (fun us => val_nilCheck rfl rfl) ?_
          refine Gw.val rfl rfl rfl rfl rfl (fun us => Val.cast (val_fieldAddr rfl Try.underlying54 rfl Try.ty49 rfl rfl) (v' := ptr m.b 0) rfl) ?_
          refine Gw.val0 rfl rfl rfl (by kernel_rfl) rfl rfl (val_load rfl Try.ty49 rfl rfl (cell_rec (k := 4) rfl rfl)) ?_
          refine Gw.val rfl rfl rfl rfl rfl (fun us => val_nilCheck rfl rfl) ?_
          refine Gw.val rfl rfl rfl rfl rfl (fun us => Val.cast (val_fieldAddr rfl Try.underlying33 rfl Try.ty2 rfl rfl) (v' := ptr m.b2 3) rfl) ?_
          refine Gw.val0 rfl rfl rfl (by kernel_rfl) rfl rfl (val_load rfl Try.ty2 rfl rfl (cell_rec (k := 5) rfl rfl)) ?_
          refine Gw.val rfl rfl rfl rfl rfl (fun us => val_build rfl (qs := [(0, .int .i64 ((m.o.best.n + 1 : Nat) : Int)), (1, .int .i64 0), (2, .int .i64 m.o.val)]) rfl rfl (fun w => by go_simp) (v := .agg #[.int .i64 ((m.o.best.n + 1 : Nat) : Int), .int .i64 0, .int .i64 m.o.val])) ?_
          refine Gw.val rfl rfl rfl rfl rfl (fun us => val_nilCheck rfl rfl) ?_
          refine Gw.val rfl rfl rfl rfl rfl (fun us => Val.cast (val_fieldAddr rfl Try.underlying54 rfl Try.ty51 rfl rfl) (v' := ptr m.b 1) rfl) ?_
          refine Gw.done ?_
          refine Gx.norm (l' := [Hp.rec_ b5 [.int .i64 ((c0.n : Nat) : Int), .int .i64 ((c0.who : Nat) : Int), .int .i64 c0.val], Hp.rec_ S [cv, ov, nowV (mo.map Om.b) (some k), nowV (mo.map Om.b) a1, nowV (mo.map Om.b) a2, nowV (mo.map Om.b) a3], Hp.own Fsd 3 cv cs, Hp.own FP 1 ov (mo.map Om.b), Hp.rec_ m.b [ptr m.b2 0, .int .i64 ((m.o.best.n : Nat) : Int), .int .i64 ((m.o.best.who : Nat) : Int), .int .i64 m.o.best.val, .bool true, .int .u32 0, .int .i64 0], Hp.rec_ m.b2 [.int .i64 0, .int .i64 0, .bool m.o.wr, .int .i64 m.o.val, .int .i64 ((m.o.frm : Nat) : Int), .int .i64 m.o.to], R0, R]) rfl ?_
          refine Gx.eff0 rfl rfl (eff_store rfl Try.ty51 rfl rfl (us := [.int .i64 ((m.o.best.n + 1 : Nat) : Int), .int .i64 0, .int .i64 m.o.val]) rfl rfl rfl (k := 4) rfl (rfl) (vs' := [ptr m.b2 0, .int .i64 ((m.o.best.n + 1 : Nat) : Int), .int .i64 0, .int .i64 m.o.val, .bool true, .int .u32 0, .int .i64 0]) (rfl) (l' := [Hp.rec_ b5 [.int .i64 ((c0.n : Nat) : Int), .int .i64 ((c0.who : Nat) : Int), .int .i64 c0.val], Hp.rec_ S [cv, ov, nowV (mo.map Om.b) (some k), nowV (mo.map Om.b) a1, nowV (mo.map Om.b) a2, nowV (mo.map Om.b) a3], Hp.own Fsd 3 cv cs, Hp.own FP 1 ov (mo.map Om.b), Hp.rec_ m.b [ptr m.b2 0, .int .i64 ((m.o.best.n + 1 : Nat) : Int), .int .i64 0, .int .i64 m.o.val, .bool true, .int .u32 0, .int .i64 0], Hp.rec_ m.b2 [.int .i64 0, .int .i64 0, .bool m.o.wr, .int .i64 m.o.val, .int .i64 ((m.o.frm : Nat) : Int), .int .i64 m.o.to], R0, R]) rfl) ?_
          rintro _ _ rfl
          refine Gx.done ?_
          refine Gx.thenN ?_
          refine Gx.seq ?_
          refine Gx.region ?_
          refine Gx.val rfl rfl rfl (val_assign rfl rfl) ?_
          refine Gx.done ?_
          refine Gx.thenN ?_
          refine Gx.ret ?_
          refine Gx.drop 0 rfl ?_
          have ht : ¬ 2 * (m.o.many + 1) ≤ cs.length := by omega
          have hO : (if 2 * (m.o.many + 1) ≤ cs.length then seeR cs i m.o else turnO (seeR cs i m.o) mom) = ⟨0, m.o.wr, m.o.val, m.o.frm, m.o.to, ⟨m.o.best.n + 1, 0, m.o.val⟩, true, [], 0⟩ := by
            rw [if_neg ht]
            obtain ⟨b1, b2, ⟨o1, o2, o3, o4, o5, o6, o7, o8, o9⟩⟩ := m
            dsimp only at *
            subst hw
            simp only [seeR, turnO, hci, h1, h6, h10, if_true, if_false, Bool.false_eq_true]
          have hC : (if m.o.sec = true then storeR cs i m.o.best else cs) = cs := by rw [if_neg (by rw [h1]; decide)]
          have hN : (if 2 * (m.o.many + 1) ≤ cs.length then ([(some k), a1, a2, a3] : List (Option Nat)) else if m.o.sec = true then [none, a1, a2, a3] else [(some k), a1, a2, a3]) = [(some k), a1, a2, a3] := by rw [if_neg ht, if_neg (by rw [h1]; decide)]
          refine Gx.ret1 Try.results15 rfl ?_
          refine ⟨rfl, ?_⟩
          rw [hO, hC, hN]
          exact reg_shut (a0 := (some k)) (a1 := a1) (a2 := a2) (a3 := a3) hk hb2 (⟨m.b, m.b2, ⟨0, m.o.wr, m.o.val, m.o.frm, m.o.to, ⟨m.o.best.n + 1, 0, m.o.val⟩, true, [], 0⟩⟩ : Om) rfl
        · refine Gx.skip ?_
          refine Gx.thenN ?_
          refine Gx.seq ?_
          refine Gx.region ?_
          refine Gx.val rfl rfl rfl (val_assign rfl rfl) ?_
          refine Gx.done ?_
          refine Gx.thenN ?_
          refine Gx.ret ?_
          refine Gx.drop 0 rfl ?_
          have ht : ¬ 2 * (m.o.many + 1) ≤ cs.length := by omega
          have hO : (if 2 * (m.o.many + 1) ≤ cs.length then seeR cs i m.o else turnO (seeR cs i m.o) mom) = ⟨0, m.o.wr, m.o.val, m.o.frm, m.o.to, m.o.best, true, [], 0⟩ := by
            rw [if_neg ht]
            obtain ⟨b1, b2, ⟨o1, o2, o3, o4, o5, o6, o7, o8, o9⟩⟩ := m
            dsimp only at *
            subst hw
            simp only [seeR, turnO, hci, h1, h6, h10, if_true, if_false, Bool.false_eq_true]
          have hC : (if m.o.sec = true then storeR cs i m.o.best else cs) = cs := by rw [if_neg (by rw [h1]; decide)]
          have hN : (if 2 * (m.o.many + 1) ≤ cs.length then ([(some k), a1, a2, a3] : List (Option Nat)) else if m.o.sec = true then [none, a1, a2, a3] else [(some k), a1, a2, a3]) = [(some k), a1, a2, a3] := by rw [if_neg ht, if_neg (by rw [h1]; decide)]
          refine Gx.ret1 Try.results15 rfl ?_
          refine ⟨rfl, ?_⟩
          rw [hO, hC, hN]
          exact reg_shut (a0 := (some k)) (a1 := a1) (a2 := a2) (a3 := a3) hk hb2 (⟨m.b, m.b2, ⟨0, m.o.wr, m.o.val, m.o.frm, m.o.to, m.o.best, true, [], 0⟩⟩ : Om) rfl

theorem reach_go1 {W w : World} {S k i mom : Nat} {a0 a2 a3 : Option Nat} {cv ov : Value} {cs : List Sd} {mo : List Om} {m : Om} {R : Hp} (hk : mo[k]? = some m) (hw : m.o.who = 1) (hi : i < cs.length) (hs : ¬ i ∈ m.o.seen) (h5 : cs.length ≤ 5) (hmk : mk m.o.seen < 4294967296) (hmany : m.o.many ≤ 5) (hbn : m.o.best.n ≤ 1000) (hcn : ∀ c ∈ cs, c.n ≤ 1000) (H : Sat W w (regP S [a0, (some k), a2, a3] cv ov cs mo * R)) :
    Calls Try.prog 15 #[ptr S 0, ptr m.b 0, .int .i64 ((i : Nat) : Int), .int .i64 ((mom : Nat) : Int)] w (Ret W fun v l => v = .int .i64 0 ∧ sep l = regP S (if 2 * (m.o.many + 1) ≤ cs.length then [a0, (some k), a2, a3] else if m.o.sec = true then [a0, none, a2, a3] else [a0, (some k), a2, a3]) cv ov (if m.o.sec = true then storeR cs i m.o.best else cs) (mo.set k ⟨m.b, m.b2, if 2 * (m.o.many + 1) ≤ cs.length then seeR cs i m.o else turnO (seeR cs i m.o) mom⟩) * R) := by
  obtain ⟨c0, hci⟩ := get_of_lt hi
  have hsl := storeR_len cs i m.o.best
  have hc0 := hcn c0 (List.mem_of_getElem? hci)
  obtain ⟨R0, hb1, hb2⟩ := Hp.big_focus opH mo k m hk
  have hopen := reg_open (k := k) hb1 H
  rw [hw] at hopen
  refine Gx.enter (l := [Hp.rec_ S [cv, ov, nowV (mo.map Om.b) a0, nowV (mo.map Om.b) (some k), nowV (mo.map Om.b) a2, nowV (mo.map Om.b) a3], Hp.own Fsd 3 cv cs, Hp.own FP 1 ov (mo.map Om.b), Hp.rec_ m.b [ptr m.b2 0, .int .i64 ((m.o.best.n : Nat) : Int), .int .i64 ((m.o.best.who : Nat) : Int), .int .i64 m.o.best.val, .bool m.o.sec, .int .u32 (((mk m.o.seen) : Nat) : Int), .int .i64 ((m.o.many : Nat) : Int)], Hp.rec_ m.b2 [.int .i64 1, .int .i64 0, .bool m.o.wr, .int .i64 m.o.val, .int .i64 ((m.o.frm : Nat) : Int), .int .i64 m.o.to], R0, R]) Try.func15 rfl Try.ntmps15 rfl (hopen) ?_
  refine Gx.know (m' := [(0, ptr S 0), (1, ptr m.b 0), (2, .int .i64 ((i : Nat) : Int)), (3, .int .i64 ((mom : Nat) : Int))]) (.cons rfl (.cons rfl (.cons rfl (.cons rfl .nil)))) ?_
  refine Gx.seq ?_
  refine Gx.region ?_
  refine Gx.val rfl rfl rfl (val_assign rfl rfl) ?_
  refine Gx.done ?_
  refine Gx.thenN ?_
  refine Gx.seq ?_
  refine Gx.seq ?_
  refine Gx.region ?_
  refine Gx.val rfl rfl rfl (val_move rfl rfl) ?_
  refine Gx.val rfl rfl rfl (Val.cast (val_eqlP rfl Try.underlying44 (by kernel_rfl) rfl rfl) (v' := .bool false) rfl) ?_
  refine Gx.val rfl rfl rfl (val_move rfl rfl) ?_
  refine Gx.valg rfl rfl rfl rfl rfl (val_move rfl rfl) ?_
  refine Gx.valg rfl rfl rfl rfl rfl (val_nilCheck rfl rfl) ?_
  refine Gx.valg rfl rfl rfl rfl rfl (Val.cast (val_fieldAddr rfl Try.underlying54 rfl Try.ty52 rfl rfl) (v' := ptr m.b 5) rfl) ?_
  refine Gx.valg rfl rfl rfl rfl rfl (val_load rfl Try.ty52 rfl rfl (cell_rec (k := 3) rfl rfl)) ?_
  refine Gx.valg rfl rfl rfl rfl rfl (val_move rfl rfl) ?_
  refine Gx.valg rfl rfl rfl rfl rfl (val_shr (b := i) rfl rfl rfl rfl (by show i ≤ 32; omega) (shr32 _ _)) ?_
  refine Gx.valg rfl rfl rfl rfl rfl (val_and rfl rfl rfl (and_mk i hmk)) ?_
  refine Gx.valg rfl rfl rfl rfl rfl (val_eql rfl rfl rfl) ?_
  refine Gx.val rfl rfl rfl (val_pickF rfl rfl rfl) ?_
  refine Gx.done ?_
  refine Gx.thenN ?_
  refine Gx.decF rfl (by rw [if_neg hs]; decide) ?_
  refine Gx.skip ?_
  refine Gx.thenN ?_
  refine Gx.seq ?_
  refine Gx.regionO (fun j => false) 9 [0, 1, 2, 3, 4, 5, 6, 7, 8] (fun _ => [Hp.rec_ S [cv, ov, nowV (mo.map Om.b) a0, nowV (mo.map Om.b) (some k), nowV (mo.map Om.b) a2, nowV (mo.map Om.b) a3], Hp.own Fsd 3 cv cs, Hp.own FP 1 ov (mo.map Om.b), Hp.rec_ m.b [ptr m.b2 0, .int .i64 ((m.o.best.n : Nat) : Int), .int .i64 ((m.o.best.who : Nat) : Int), .int .i64 m.o.best.val, .bool m.o.sec, .int .u32 (((mk m.o.seen) : Nat) : Int), .int .i64 ((m.o.many : Nat) : Int)], Hp.rec_ m.b2 [.int .i64 1, .int .i64 0, .bool m.o.wr, .int .i64 m.o.val, .int .i64 ((m.o.frm : Nat) : Int), .int .i64 m.o.to], R0, R]) Try.mixed (by kernel_rfl) rfl ?_
  refine Gw.val rfl rfl rfl rfl rfl (fun us => val_move rfl rfl) ?_
  refine Gw.val rfl rfl rfl rfl rfl (fun us => val_nilCheck rfl rfl) ?_
  refine Gw.val rfl rfl rfl rfl rfl (fun us => Val.cast (val_fieldAddr rfl Try.underlying54 rfl Try.ty52 rfl rfl) (v' := ptr m.b 5) rfl) ?_
  refine Gw.val0 rfl rfl rfl (by kernel_rfl) rfl rfl (val_load rfl Try.ty52 rfl rfl (cell_rec (k := 3) rfl rfl)) ?_
  refine Gw.val rfl rfl rfl rfl rfl (fun us => val_move rfl rfl) ?_
  refine Gw.val rfl rfl rfl rfl rfl (fun us => val_shl (b := i) rfl rfl rfl rfl (by show i ≤ 32; omega) (shl1 (by omega))) ?_
  refine Gw.val rfl rfl rfl rfl rfl (fun us => val_or rfl rfl rfl ((or32 hmk (pow32 (by omega))).trans (congrArg Nat.cast (mk_snoc _ i).symm))) ?_
  refine Gw.val rfl rfl rfl rfl rfl (fun us => val_nilCheck rfl rfl) ?_
  refine Gw.val rfl rfl rfl rfl rfl (fun us => Val.cast (val_fieldAddr rfl Try.underlying54 rfl Try.ty52 rfl rfl) (v' := ptr m.b 5) rfl) ?_
  refine Gw.done ?_
  refine Gx.norm (l' := [Hp.rec_ S [cv, ov, nowV (mo.map Om.b) a0, nowV (mo.map Om.b) (some k), nowV (mo.map Om.b) a2, nowV (mo.map Om.b) a3], Hp.own Fsd 3 cv cs, Hp.own FP 1 ov (mo.map Om.b), Hp.rec_ m.b [ptr m.b2 0, .int .i64 ((m.o.best.n : Nat) : Int), .int .i64 ((m.o.best.who : Nat) : Int), .int .i64 m.o.best.val, .bool m.o.sec, .int .u32 (((mk m.o.seen) : Nat) : Int), .int .i64 ((m.o.many : Nat) : Int)], Hp.rec_ m.b2 [.int .i64 1, .int .i64 0, .bool m.o.wr, .int .i64 m.o.val, .int .i64 ((m.o.frm : Nat) : Int), .int .i64 m.o.to], R0, R]) rfl ?_
  refine Gx.eff0 rfl rfl (eff_store rfl Try.ty52 rfl rfl (us := [.int .u32 ((mk (m.o.seen ++ [i]) : Nat) : Int)]) rfl rfl rfl (k := 3) rfl (rfl) (vs' := [ptr m.b2 0, .int .i64 ((m.o.best.n : Nat) : Int), .int .i64 ((m.o.best.who : Nat) : Int), .int .i64 m.o.best.val, .bool m.o.sec, .int .u32 ((mk (m.o.seen ++ [i]) : Nat) : Int), .int .i64 ((m.o.many : Nat) : Int)]) (rfl) (l' := [Hp.rec_ S [cv, ov, nowV (mo.map Om.b) a0, nowV (mo.map Om.b) (some k), nowV (mo.map Om.b) a2, nowV (mo.map Om.b) a3], Hp.own Fsd 3 cv cs, Hp.own FP 1 ov (mo.map Om.b), Hp.rec_ m.b [ptr m.b2 0, .int .i64 ((m.o.best.n : Nat) : Int), .int .i64 ((m.o.best.who : Nat) : Int), .int .i64 m.o.best.val, .bool m.o.sec, .int .u32 ((mk (m.o.seen ++ [i]) : Nat) : Int), .int .i64 ((m.o.many : Nat) : Int)], Hp.rec_ m.b2 [.int .i64 1, .int .i64 0, .bool m.o.wr, .int .i64 m.o.val, .int .i64 ((m.o.frm : Nat) : Int), .int .i64 m.o.to], R0, R]) rfl) ?_
  rintro _ _ rfl
  refine Gx.done ?_
  refine Gx.thenN ?_
  refine Gx.seq ?_
  refine Gx.region ?_
  refine Gx.val rfl rfl rfl (val_move rfl rfl) ?_
  refine Gx.val rfl rfl rfl (val_nilCheck rfl rfl) ?_
  refine Gx.val rfl rfl rfl (Val.cast (val_fieldAddr rfl Try.underlying54 rfl Try.ty3 rfl rfl) (v' := ptr m.b 6) rfl) ?_
  refine Gx.val rfl rfl rfl (val_load rfl Try.ty3 rfl rfl (cell_rec (k := 3) rfl rfl)) ?_
  refine Gx.val rfl rfl rfl (val_add rfl rfl rfl (r := ((m.o.many + 1 : Nat) : Int)) (w64 (by omega) (by omega))) ?_
  refine Gx.val rfl rfl rfl (val_nilCheck rfl rfl) ?_
  refine Gx.val rfl rfl rfl (Val.cast (val_fieldAddr rfl Try.underlying54 rfl Try.ty3 rfl rfl) (v' := ptr m.b 6) rfl) ?_
  refine Gx.eff0 rfl rfl (eff_store rfl Try.ty3 rfl rfl (us := [.int .i64 ((m.o.many + 1 : Nat) : Int)]) rfl rfl rfl (k := 3) rfl (rfl) (vs' := [ptr m.b2 0, .int .i64 ((m.o.best.n : Nat) : Int), .int .i64 ((m.o.best.who : Nat) : Int), .int .i64 m.o.best.val, .bool m.o.sec, .int .u32 ((mk (m.o.seen ++ [i]) : Nat) : Int), .int .i64 ((m.o.many + 1 : Nat) : Int)]) (rfl) (l' := [Hp.rec_ S [cv, ov, nowV (mo.map Om.b) a0, nowV (mo.map Om.b) (some k), nowV (mo.map Om.b) a2, nowV (mo.map Om.b) a3], Hp.own Fsd 3 cv cs, Hp.own FP 1 ov (mo.map Om.b), Hp.rec_ m.b [ptr m.b2 0, .int .i64 ((m.o.best.n : Nat) : Int), .int .i64 ((m.o.best.who : Nat) : Int), .int .i64 m.o.best.val, .bool m.o.sec, .int .u32 ((mk (m.o.seen ++ [i]) : Nat) : Int), .int .i64 ((m.o.many + 1 : Nat) : Int)], Hp.rec_ m.b2 [.int .i64 1, .int .i64 0, .bool m.o.wr, .int .i64 m.o.val, .int .i64 ((m.o.frm : Nat) : Int), .int .i64 m.o.to], R0, R]) rfl) ?_
  rintro _ _ rfl
  refine Gx.done ?_
  refine Gx.thenN ?_
  refine Gx.seq ?_
  refine Gx.seq ?_
  refine Gx.region ?_
  refine Gx.val rfl rfl rfl (val_move rfl rfl) ?_
  refine Gx.val rfl rfl rfl (val_nilCheck rfl rfl) ?_
  refine Gx.val rfl rfl rfl (Val.cast (val_fieldAddr rfl Try.underlying54 rfl Try.ty4 rfl rfl) (v' := ptr m.b 4) rfl) ?_
  refine Gx.val rfl rfl rfl (val_load rfl Try.ty4 rfl rfl (cell_rec (k := 3) rfl rfl)) ?_
  refine Gx.done ?_
  refine Gx.thenN ?_
  refine Gx.bool rfl (fun h1 => ?_) (fun h1 => ?_)
  · refine Gx.region ?_
    refine Gx.val rfl rfl rfl (val_move rfl rfl) ?_
    refine Gx.val rfl rfl rfl (val_move rfl rfl) ?_
    refine Gx.val rfl rfl rfl (val_move rfl rfl) ?_
    refine Gx.val rfl rfl rfl (val_nilCheck rfl rfl) ?_
    refine Gx.val rfl rfl rfl (Val.cast (val_fieldAddr rfl Try.underlying54 rfl Try.ty51 rfl rfl) (v' := ptr m.b 1) rfl) ?_
    refine Gx.val rfl rfl rfl (Val.cast (val_loadA rfl Try.ty51 rfl rfl (us := [.int .i64 ((m.o.best.n : Nat) : Int), .int .i64 ((m.o.best.who : Nat) : Int), .int .i64 m.o.best.val]) rfl (cells_rec_at (k := 3) (i := 1) (n := 3) rfl rfl)) (v' := .agg #[.int .i64 ((m.o.best.n : Nat) : Int), .int .i64 ((m.o.best.who : Nat) : Int), .int .i64 m.o.best.val]) rfl) ?_
    refine Gx.eff rfl rfl rfl (eff_call (vs := [ptr S 0, .int .i64 ((i : Nat) : Int), .agg #[.int .i64 ((m.o.best.n : Nat) : Int), .int .i64 ((m.o.best.who : Nat) : Int), .int .i64 m.o.best.val]]) rfl Try.fn16 rfl (fun w H => store_any m.o.best hi (H.at2 (k := 0) (k' := 0) rfl rfl))) ?_
    rintro _ l2 ⟨rfl, hl2⟩
    refine Gx.sepEq (l' := [Hp.rec_ S [cv, ov, nowV (mo.map Om.b) a0, nowV (mo.map Om.b) (some k), nowV (mo.map Om.b) a2, nowV (mo.map Om.b) a3], Hp.own Fsd 3 cv (storeR cs i m.o.best), Hp.own FP 1 ov (mo.map Om.b), Hp.rec_ m.b [ptr m.b2 0, .int .i64 ((m.o.best.n : Nat) : Int), .int .i64 ((m.o.best.who : Nat) : Int), .int .i64 m.o.best.val, .bool m.o.sec, .int .u32 ((mk (m.o.seen ++ [i]) : Nat) : Int), .int .i64 ((m.o.many + 1 : Nat) : Int)], Hp.rec_ m.b2 [.int .i64 1, .int .i64 0, .bool m.o.wr, .int .i64 m.o.val, .int .i64 ((m.o.frm : Nat) : Int), .int .i64 m.o.to], R0, R]) hl2 ?_
    refine Gx.done ?_
    refine Gx.thenN ?_
    refine Gx.seq ?_
    refine Gx.seq ?_
    refine Gx.regionQ Try.mixed (by kernel_rfl) ?_
    refine Gq.val rfl rfl rfl (val_move rfl rfl) ?_
    refine Gq.val rfl rfl rfl (val_nilCheck rfl rfl) ?_
    refine Gq.val rfl rfl rfl (Val.cast (val_fieldAddr rfl Try.underlying54 rfl Try.ty3 rfl rfl) (v' := ptr m.b 6) rfl) ?_
    refine Gq.val rfl rfl rfl (val_load rfl Try.ty3 rfl rfl (cell_rec (k := 3) rfl rfl)) ?_
    refine Gq.val rfl rfl rfl (val_mul rfl rfl rfl (r := ((2 * (m.o.many + 1) : Nat) : Int)) (w64 (by omega) (by omega))) ?_
    refine Gq.val rfl rfl rfl (val_move rfl rfl) ?_
    refine Gq.val rfl rfl rfl (val_nilCheck rfl rfl) ?_
    refine Gq.val rfl rfl rfl (Val.cast (val_fieldAddr rfl Try.underlying47 rfl Try.ty42 rfl rfl) (v' := ptr S 0) rfl) ?_
    refine Gq.val rfl rfl rfl (val_load rfl Try.ty42 rfl rfl (cell_rec (k := 0) rfl rfl)) ?_
    refine Gq.val rfl rfl rfl (val_len rfl Try.underlying42 rfl (len_own (k := 1) rfl)) ?_
    refine Gq.val rfl rfl rfl (val_leq rfl rfl rfl) ?_
    refine Gq.done ?_
    refine Gx.thenN ?_
    refine Gx.dec rfl (fun h3 => ?_) (fun h3 => ?_)
    · refine Gx.seq ?_
      refine Gx.region ?_
      refine Gx.val rfl rfl rfl (val_assign rfl rfl) ?_
      refine Gx.done ?_
      refine Gx.thenN ?_
      refine Gx.ret ?_
      refine Gx.thenR ?_
      have ht : 2 * (m.o.many + 1) ≤ cs.length := by omega
      have hO : (if 2 * (m.o.many + 1) ≤ cs.length then seeR cs i m.o else turnO (seeR cs i m.o) mom) = ⟨1, m.o.wr, m.o.val, m.o.frm, m.o.to, m.o.best, m.o.sec, (m.o.seen ++ [i]), (m.o.many + 1)⟩ := by
        rw [if_pos ht]
        obtain ⟨b1, b2, ⟨o1, o2, o3, o4, o5, o6, o7, o8, o9⟩⟩ := m
        dsimp only at *
        subst hw
        simp only [seeR, turnO, hci, h1, if_true, if_false, Bool.false_eq_true]
      have hC : (if m.o.sec = true then storeR cs i m.o.best else cs) = (storeR cs i m.o.best) := by rw [if_pos h1]
      have hN : (if 2 * (m.o.many + 1) ≤ cs.length then ([a0, (some k), a2, a3] : List (Option Nat)) else if m.o.sec = true then [a0, none, a2, a3] else [a0, (some k), a2, a3]) = [a0, (some k), a2, a3] := by rw [if_pos ht]
      refine Gx.ret1 Try.results15 rfl ?_
      refine ⟨rfl, ?_⟩
      rw [hO, hC, hN]
      exact reg_shut (a0 := a0) (a1 := (some k)) (a2 := a2) (a3 := a3) hk hb2 (⟨m.b, m.b2, ⟨1, m.o.wr, m.o.val, m.o.frm, m.o.to, m.o.best, m.o.sec, (m.o.seen ++ [i]), (m.o.many + 1)⟩⟩ : Om) rfl
    · refine Gx.skip ?_
      refine Gx.thenN ?_
      refine Gx.seq ?_
      refine Gx.seq ?_
      refine Gx.region ?_
      refine Gx.val rfl rfl rfl (val_move rfl rfl) ?_
      refine Gx.val rfl rfl rfl (val_nilCheck rfl rfl) ?_
      refine Gx.val rfl rfl rfl (Val.cast (val_fieldAddr rfl Try.underlying54 rfl Try.ty4 rfl rfl) (v' := ptr m.b 4) rfl) ?_
      refine Gx.val rfl rfl rfl (val_load rfl Try.ty4 rfl rfl (cell_rec (k := 3) rfl rfl)) ?_
      refine Gx.done ?_
      refine Gx.thenN ?_
      refine Gx.boolT rfl (h1) ?_
      refine Gx.seq ?_
      refine Gx.region ?_
      refine Gx.val rfl rfl rfl (val_move rfl rfl) ?_
      refine Gx.val rfl rfl rfl (val_nilCheck rfl rfl) ?_
      refine Gx.val rfl rfl rfl (Val.cast (val_fieldAddr rfl Try.underlying54 rfl Try.ty49 rfl rfl) (v' := ptr m.b 0) rfl) ?_
      refine Gx.val rfl rfl rfl (val_load rfl Try.ty49 rfl rfl (cell_rec (k := 3) rfl rfl)) ?_
      refine Gx.val rfl rfl rfl (val_move rfl rfl) ?_
      refine Gx.val rfl rfl rfl (val_nilCheck rfl rfl) ?_
      refine Gx.val rfl rfl rfl (Val.cast (val_fieldAddr rfl Try.underlying33 rfl Try.ty3 rfl rfl) (v' := ptr m.b2 5) rfl) ?_
      refine Gx.eff0 rfl rfl (eff_store rfl Try.ty3 rfl rfl (us := [.int .i64 ((mom : Nat) : Int)]) rfl rfl rfl (k := 4) rfl (rfl) (vs' := [.int .i64 1, .int .i64 0, .bool m.o.wr, .int .i64 m.o.val, .int .i64 ((m.o.frm : Nat) : Int), .int .i64 ((mom : Nat) : Int)]) (rfl) (l' := [Hp.rec_ S [cv, ov, nowV (mo.map Om.b) a0, nowV (mo.map Om.b) (some k), nowV (mo.map Om.b) a2, nowV (mo.map Om.b) a3], Hp.own Fsd 3 cv (storeR cs i m.o.best), Hp.own FP 1 ov (mo.map Om.b), Hp.rec_ m.b [ptr m.b2 0, .int .i64 ((m.o.best.n : Nat) : Int), .int .i64 ((m.o.best.who : Nat) : Int), .int .i64 m.o.best.val, .bool m.o.sec, .int .u32 ((mk (m.o.seen ++ [i]) : Nat) : Int), .int .i64 ((m.o.many + 1 : Nat) : Int)], Hp.rec_ m.b2 [.int .i64 1, .int .i64 0, .bool m.o.wr, .int .i64 m.o.val, .int .i64 ((m.o.frm : Nat) : Int), .int .i64 ((mom : Nat) : Int)], R0, R]) rfl) ?_
      rintro _ _ rfl
      refine Gx.done ?_
      refine Gx.thenN ?_
      refine Gx.seq ?_
      refine Gx.seq ?_
      refine Gx.region ?_
      refine Gx.val rfl rfl rfl (val_move rfl rfl) ?_
      refine Gx.val rfl rfl rfl (val_nilCheck rfl rfl) ?_
      refine Gx.val rfl rfl rfl (Val.cast (val_fieldAddr rfl Try.underlying54 rfl Try.ty49 rfl rfl) (v' := ptr m.b 0) rfl) ?_
      refine Gx.val rfl rfl rfl (val_load rfl Try.ty49 rfl rfl (cell_rec (k := 3) rfl rfl)) ?_
      refine Gx.val rfl rfl rfl (val_nilCheck rfl rfl) ?_
      refine Gx.val rfl rfl rfl (Val.cast (val_fieldAddr rfl Try.underlying33 rfl Try.ty4 rfl rfl) (v' := ptr m.b2 2) rfl) ?_
      refine Gx.val rfl rfl rfl (val_load rfl Try.ty4 rfl rfl (cell_rec (k := 4) rfl rfl)) ?_
      refine Gx.val rfl rfl rfl (val_not rfl rfl) ?_
      refine Gx.done ?_
      refine Gx.thenN ?_
      refine Gx.bool rfl (fun h4 => ?_) (fun h4 => ?_)
      · refine Gx.regionO (fun j => false) 11 [0, 1, 2, 3, 4, 5, 6, 7, 8, 9, 10] (fun _ => [Hp.rec_ S [cv, ov, nowV (mo.map Om.b) a0, nowV (mo.map Om.b) (some k), nowV (mo.map Om.b) a2, nowV (mo.map Om.b) a3], Hp.own Fsd 3 cv (storeR cs i m.o.best), Hp.own FP 1 ov (mo.map Om.b), Hp.rec_ m.b [ptr m.b2 0, .int .i64 ((m.o.best.n : Nat) : Int), .int .i64 ((m.o.best.who : Nat) : Int), .int .i64 m.o.best.val, .bool m.o.sec, .int .u32 ((mk (m.o.seen ++ [i]) : Nat) : Int), .int .i64 ((m.o.many + 1 : Nat) : Int)], Hp.rec_ m.b2 [.int .i64 1, .int .i64 0, .bool m.o.wr, .int .i64 m.o.val, .int .i64 ((m.o.frm : Nat) : Int), .int .i64 ((mom : Nat) : Int)], R0, R]) Try.mixed (by kernel_rfl) rfl ?_
        refine Gw.val rfl rfl rfl rfl rfl (fun us => val_move rfl rfl) ?_
        refine Gw.val rfl rfl rfl rfl rfl (fun us => val_nilCheck rfl rfl) ?_
        refine Gw.val rfl rfl rfl rfl rfl (fun us => Val.cast (val_fieldAddr rfl Try.underlying54 rfl Try.ty49 rfl rfl) (v' := ptr m.b 0) rfl) ?_
        refine Gw.val0 rfl rfl rfl (by kernel_rfl) rfl rfl (val_load rfl Try.ty49 rfl rfl (cell_rec (k := 3) rfl rfl)) ?_
        refine Gw.val rfl rfl rfl rfl rfl (fun us => val_move rfl rfl) ?_
        refine Gw.val rfl rfl rfl rfl rfl (fun us => val_nilCheck rfl rfl) ?_
        refine Gw.val rfl rfl rfl rfl rfl (fun us => Val.cast (val_fieldAddr rfl Try.underlying54 rfl Try.ty51 rfl rfl) (v' := ptr m.b 1) rfl) ?_
        refine Gw.val rfl rfl rfl rfl rfl (fun us => Val.cast (val_fieldAddr rfl Try.underlying51 rfl Try.ty2 rfl rfl) (v' := ptr m.b 3) rfl) ?_
        refine Gw.val0 rfl rfl rfl (by kernel_rfl) rfl rfl (val_load rfl Try.ty2 rfl rfl (cell_rec (k := 3) rfl rfl)) ?_
        refine Gw.val rfl rfl rfl rfl rfl (fun us => val_nilCheck rfl rfl) ?_
        refine Gw.val rfl rfl rfl rfl rfl (fun us => Val.cast (val_fieldAddr rfl Try.underlying33 rfl Try.ty2 rfl rfl) (v' := ptr m.b2 3) rfl) ?_
        refine Gw.done ?_
        refine Gx.norm (l' := [Hp.rec_ S [cv, ov, nowV (mo.map Om.b) a0, nowV (mo.map Om.b) (some k), nowV (mo.map Om.b) a2, nowV (mo.map Om.b) a3], Hp.own Fsd 3 cv (storeR cs i m.o.best), Hp.own FP 1 ov (mo.map Om.b), Hp.rec_ m.b [ptr m.b2 0, .int .i64 ((m.o.best.n : Nat) : Int), .int .i64 ((m.o.best.who : Nat) : Int), .int .i64 m.o.best.val, .bool m.o.sec, .int .u32 ((mk (m.o.seen ++ [i]) : Nat) : Int), .int .i64 ((m.o.many + 1 : Nat) : Int)], Hp.rec_ m.b2 [.int .i64 1, .int .i64 0, .bool m.o.wr, .int .i64 m.o.val, .int .i64 ((m.o.frm : Nat) : Int), .int .i64 ((mom : Nat) : Int)], R0, R]) rfl ?_
        refine Gx.eff0 rfl rfl (eff_store rfl Try.ty2 rfl rfl (us := [.int .i64 m.o.best.val]) rfl rfl rfl (k := 4) rfl (rfl) (vs' := [.int .i64 1, .int .i64 0, .bool m.o.wr, .int .i64 m.o.best.val, .int .i64 ((m.o.frm : Nat) : Int), .int .i64 ((mom : Nat) : Int)]) (rfl) (l' := [Hp.rec_ S [cv, ov, nowV (mo.map Om.b) a0, nowV (mo.map Om.b) (some k), nowV (mo.map Om.b) a2, nowV (mo.map Om.b) a3], Hp.own Fsd 3 cv (storeR cs i m.o.best), Hp.own FP 1 ov (mo.map Om.b), Hp.rec_ m.b [ptr m.b2 0, .int .i64 ((m.o.best.n : Nat) : Int), .int .i64 ((m.o.best.who : Nat) : Int), .int .i64 m.o.best.val, .bool m.o.sec, .int .u32 ((mk (m.o.seen ++ [i]) : Nat) : Int), .int .i64 ((m.o.many + 1 : Nat) : Int)], Hp.rec_ m.b2 [.int .i64 1, .int .i64 0, .bool m.o.wr, .int .i64 m.o.best.val, .int .i64 ((m.o.frm : Nat) : Int), .int .i64 ((mom : Nat) : Int)], R0, R]) rfl) ?_
        rintro _ _ rfl
        refine Gx.done ?_
        refine Gx.thenN ?_
        refine Gx.seq ?_
        refine Gx.regionO (fun j => false) 11 [0, 1, 2, 3, 4, 5, 6, 7, 8, 9, 10] (fun _ => [Hp.rec_ S [cv, ov, nowV (mo.map Om.b) a0, nowV (mo.map Om.b) (some k), nowV (mo.map Om.b) a2, nowV (mo.map Om.b) a3], Hp.own Fsd 3 cv (storeR cs i m.o.best), Hp.own FP 1 ov (mo.map Om.b), Hp.rec_ m.b [ptr m.b2 0, .int .i64 ((m.o.best.n : Nat) : Int), .int .i64 ((m.o.best.who : Nat) : Int), .int .i64 m.o.best.val, .bool m.o.sec, .int .u32 ((mk (m.o.seen ++ [i]) : Nat) : Int), .int .i64 ((m.o.many + 1 : Nat) : Int)], Hp.rec_ m.b2 [.int .i64 1, .int .i64 0, .bool m.o.wr, .int .i64 m.o.best.val, .int .i64 ((m.o.frm : Nat) : Int), .int .i64 ((mom : Nat) : Int)], R0, R]) Try.mixed (by kernel_rfl) rfl ?_
        refine Gw.val rfl rfl rfl rfl rfl (fun us => val_move rfl rfl) ?_
        refine Gw.val rfl rfl rfl rfl rfl (fun us => val_move rfl rfl) ?_
        refine Gw.val rfl rfl rfl rfl rfl (fun us => val_nilCheck rfl rfl) ?_
        refine Gw.val rfl rfl rfl rfl rfl (fun us => Val.cast (val_fieldAddr rfl Try.underlying54 rfl Try.ty49 rfl rfl) (v' := ptr m.b 0) rfl) ?_
        refine Gw.val0 rfl rfl rfl (by kernel_rfl) rfl rfl (val_load rfl Try.ty49 rfl rfl (cell_rec (k := 3) rfl rfl)) ?_
        refine Gw.val rfl rfl rfl rfl rfl (fun us => val_nilCheck rfl rfl) ?_
        refine Gw.val rfl rfl rfl rfl rfl (fun us => Val.cast (val_fieldAddr rfl Try.underlying33 rfl Try.ty3 rfl rfl) (v' := ptr m.b2 0) rfl) ?_
        refine Gw.val0 rfl rfl rfl (by kernel_rfl) rfl rfl (val_load rfl Try.ty3 rfl rfl (cell_rec (k := 4) rfl rfl)) ?_
        refine Gw.val rfl rfl rfl rfl rfl (fun us => val_nilCheck rfl rfl) ?_
        refine Gw.val rfl rfl rfl rfl rfl (fun us => Val.cast (val_fieldAddr rfl Try.underlying47 rfl Try.ty45 rfl rfl) (v' := ptr S 2) rfl) ?_
        refine Gw.val rfl rfl rfl rfl rfl (fun us => Val.cast (val_ixaA rfl Try.underlying45 Try.ty44 rfl rfl (j := 1) (rfl) (by omega)) (v' := ptr S 3) rfl) ?_
        refine Gw.done ?_
        refine Gx.norm (l' := [Hp.rec_ S [cv, ov, nowV (mo.map Om.b) a0, nowV (mo.map Om.b) (some k), nowV (mo.map Om.b) a2, nowV (mo.map Om.b) a3], Hp.own Fsd 3 cv (storeR cs i m.o.best), Hp.own FP 1 ov (mo.map Om.b), Hp.rec_ m.b [ptr m.b2 0, .int .i64 ((m.o.best.n : Nat) : Int), .int .i64 ((m.o.best.who : Nat) : Int), .int .i64 m.o.best.val, .bool m.o.sec, .int .u32 ((mk (m.o.seen ++ [i]) : Nat) : Int), .int .i64 ((m.o.many + 1 : Nat) : Int)], Hp.rec_ m.b2 [.int .i64 1, .int .i64 0, .bool m.o.wr, .int .i64 m.o.best.val, .int .i64 ((m.o.frm : Nat) : Int), .int .i64 ((mom : Nat) : Int)], R0, R]) rfl ?_
        refine Gx.eff0 rfl rfl (eff_store rfl Try.ty44 rfl rfl (us := [.pointer none]) rfl rfl rfl (k := 0) rfl (rfl) (vs' := [cv, ov, nowV (mo.map Om.b) a0, .pointer none, nowV (mo.map Om.b) a2, nowV (mo.map Om.b) a3]) (rfl) (l' := [Hp.rec_ S [cv, ov, nowV (mo.map Om.b) a0, .pointer none, nowV (mo.map Om.b) a2, nowV (mo.map Om.b) a3], Hp.own Fsd 3 cv (storeR cs i m.o.best), Hp.own FP 1 ov (mo.map Om.b), Hp.rec_ m.b [ptr m.b2 0, .int .i64 ((m.o.best.n : Nat) : Int), .int .i64 ((m.o.best.who : Nat) : Int), .int .i64 m.o.best.val, .bool m.o.sec, .int .u32 ((mk (m.o.seen ++ [i]) : Nat) : Int), .int .i64 ((m.o.many + 1 : Nat) : Int)], Hp.rec_ m.b2 [.int .i64 1, .int .i64 0, .bool m.o.wr, .int .i64 m.o.best.val, .int .i64 ((m.o.frm : Nat) : Int), .int .i64 ((mom : Nat) : Int)], R0, R]) rfl) ?_
        rintro _ _ rfl
        refine Gx.done ?_
        refine Gx.thenN ?_
        refine Gx.seq ?_
        refine Gx.region ?_
        refine Gx.val rfl rfl rfl (val_assign rfl rfl) ?_
        refine Gx.done ?_
        refine Gx.thenN ?_
        refine Gx.ret ?_
        refine Gx.thenR ?_
        have ht : ¬ 2 * (m.o.many + 1) ≤ cs.length := by omega
        have hO : (if 2 * (m.o.many + 1) ≤ cs.length then seeR cs i m.o else turnO (seeR cs i m.o) mom) = ⟨1, m.o.wr, m.o.best.val, m.o.frm, ((mom : Nat) : Int), m.o.best, m.o.sec, (m.o.seen ++ [i]), (m.o.many + 1)⟩ := by
          rw [if_neg ht]
          obtain ⟨b1, b2, ⟨o1, o2, o3, o4, o5, o6, o7, o8, o9⟩⟩ := m
          dsimp only at *
          subst hw
          simp only [seeR, turnO, hci, h1, (by simpa using h4), if_true, if_false, Bool.false_eq_true]
        have hC : (if m.o.sec = true then storeR cs i m.o.best else cs) = (storeR cs i m.o.best) := by rw [if_pos h1]
        have hN : (if 2 * (m.o.many + 1) ≤ cs.length then ([a0, (some k), a2, a3] : List (Option Nat)) else if m.o.sec = true then [a0, none, a2, a3] else [a0, (some k), a2, a3]) = [a0, none, a2, a3] := by rw [if_neg ht, if_pos h1]
        refine Gx.ret1 Try.results15 rfl ?_
        refine ⟨rfl, ?_⟩
        rw [hO, hC, hN]
        exact reg_shut (a0 := a0) (a1 := none) (a2 := a2) (a3 := a3) hk hb2 (⟨m.b, m.b2, ⟨1, m.o.wr, m.o.best.val, m.o.frm, ((mom : Nat) : Int), m.o.best, m.o.sec, (m.o.seen ++ [i]), (m.o.many + 1)⟩⟩ : Om) rfl
      · refine Gx.skip ?_
        refine Gx.thenN ?_
        refine Gx.seq ?_
        refine Gx.regionO (fun j => false) 11 [0, 1, 2, 3, 4, 5, 6, 7, 8, 9, 10] (fun _ => [Hp.rec_ S [cv, ov, nowV (mo.map Om.b) a0, nowV (mo.map Om.b) (some k), nowV (mo.map Om.b) a2, nowV (mo.map Om.b) a3], Hp.own Fsd 3 cv (storeR cs i m.o.best), Hp.own FP 1 ov (mo.map Om.b), Hp.rec_ m.b [ptr m.b2 0, .int .i64 ((m.o.best.n : Nat) : Int), .int .i64 ((m.o.best.who : Nat) : Int), .int .i64 m.o.best.val, .bool m.o.sec, .int .u32 ((mk (m.o.seen ++ [i]) : Nat) : Int), .int .i64 ((m.o.many + 1 : Nat) : Int)], Hp.rec_ m.b2 [.int .i64 1, .int .i64 0, .bool m.o.wr, .int .i64 m.o.val, .int .i64 ((m.o.frm : Nat) : Int), .int .i64 ((mom : Nat) : Int)], R0, R]) Try.mixed (by kernel_rfl) rfl ?_
        refine Gw.val rfl rfl rfl rfl rfl (fun us => val_move rfl rfl) ?_
        refine Gw.val rfl rfl rfl rfl rfl (fun us => val_move rfl rfl) ?_
        refine Gw.val rfl rfl rfl rfl rfl (fun us => val_nilCheck rfl rfl) ?_
        refine Gw.val rfl rfl rfl rfl rfl (fun us => Val.cast (val_fieldAddr rfl Try.underlying54 rfl Try.ty49 rfl rfl) (v' := ptr m.b 0) rfl) ?_
        refine Gw.val0 rfl rfl rfl (by kernel_rfl) rfl rfl (val_load rfl Try.ty49 rfl rfl (cell_rec (k := 3) rfl rfl)) ?_
        refine Gw.val rfl rfl rfl rfl rfl (fun us => val_nilCheck rfl rfl) ?_
        refine Gw.val rfl rfl rfl rfl rfl (fun us => Val.cast (val_fieldAddr rfl Try.underlying33 rfl Try.ty3 rfl rfl) (v' := ptr m.b2 0) rfl) ?_
        refine Gw.val0 rfl rfl rfl (by kernel_rfl) rfl rfl (val_load rfl Try.ty3 rfl rfl (cell_rec (k := 4) rfl rfl)) ?_
        refine Gw.val rfl rfl rfl rfl rfl (fun us => val_nilCheck rfl rfl) ?_
        refine Gw.val rfl rfl rfl rfl rfl (fun us => Val.cast (val_fieldAddr rfl Try.underlying47 rfl Try.ty45 rfl rfl) (v' := ptr S 2) rfl) ?_
        refine Gw.val rfl rfl rfl rfl rfl (fun us => Val.cast (val_ixaA rfl Try.underlying45 Try.ty44 rfl rfl (j := 1) (rfl) (by omega)) (v' := ptr S 3) rfl) ?_
        refine Gw.done ?_
        refine Gx.norm (l' := [Hp.rec_ S [cv, ov, nowV (mo.map Om.b) a0, nowV (mo.map Om.b) (some k), nowV (mo.map Om.b) a2, nowV (mo.map Om.b) a3], Hp.own Fsd 3 cv (storeR cs i m.o.best), Hp.own FP 1 ov (mo.map Om.b), Hp.rec_ m.b [ptr m.b2 0, .int .i64 ((m.o.best.n : Nat) : Int), .int .i64 ((m.o.best.who : Nat) : Int), .int .i64 m.o.best.val, .bool m.o.sec, .int .u32 ((mk (m.o.seen ++ [i]) : Nat) : Int), .int .i64 ((m.o.many + 1 : Nat) : Int)], Hp.rec_ m.b2 [.int .i64 1, .int .i64 0, .bool m.o.wr, .int .i64 m.o.val, .int .i64 ((m.o.frm : Nat) : Int), .int .i64 ((mom : Nat) : Int)], R0, R]) rfl ?_
        refine Gx.eff0 rfl rfl (eff_store rfl Try.ty44 rfl rfl (us := [.pointer none]) rfl rfl rfl (k := 0) rfl (rfl) (vs' := [cv, ov, nowV (mo.map Om.b) a0, .pointer none, nowV (mo.map Om.b) a2, nowV (mo.map Om.b) a3]) (rfl) (l' := [Hp.rec_ S [cv, ov, nowV (mo.map Om.b) a0, .pointer none, nowV (mo.map Om.b) a2, nowV (mo.map Om.b) a3], Hp.own Fsd 3 cv (storeR cs i m.o.best), Hp.own FP 1 ov (mo.map Om.b), Hp.rec_ m.b [ptr m.b2 0, .int .i64 ((m.o.best.n : Nat) : Int), .int .i64 ((m.o.best.who : Nat) : Int), .int .i64 m.o.best.val, .bool m.o.sec, .int .u32 ((mk (m.o.seen ++ [i]) : Nat) : Int), .int .i64 ((m.o.many + 1 : Nat) : Int)], Hp.rec_ m.b2 [.int .i64 1, .int .i64 0, .bool m.o.wr, .int .i64 m.o.val, .int .i64 ((m.o.frm : Nat) : Int), .int .i64 ((mom : Nat) : Int)], R0, R]) rfl) ?_
        rintro _ _ rfl
        refine Gx.done ?_
        refine Gx.thenN ?_
        refine Gx.seq ?_
        refine Gx.region ?_
        refine Gx.val rfl rfl rfl (val_assign rfl rfl) ?_
        refine Gx.done ?_
        refine Gx.thenN ?_
        refine Gx.ret ?_
        refine Gx.thenR ?_
        have ht : ¬ 2 * (m.o.many + 1) ≤ cs.length := by omega
        have hO : (if 2 * (m.o.many + 1) ≤ cs.length then seeR cs i m.o else turnO (seeR cs i m.o) mom) = ⟨1, m.o.wr, m.o.val, m.o.frm, ((mom : Nat) : Int), m.o.best, m.o.sec, (m.o.seen ++ [i]), (m.o.many + 1)⟩ := by
          rw [if_neg ht]
          obtain ⟨b1, b2, ⟨o1, o2, o3, o4, o5, o6, o7, o8, o9⟩⟩ := m
          dsimp only at *
          subst hw
          simp only [seeR, turnO, hci, h1, (by simpa using h4), if_true, if_false, Bool.false_eq_true]
        have hC : (if m.o.sec = true then storeR cs i m.o.best else cs) = (storeR cs i m.o.best) := by rw [if_pos h1]
        have hN : (if 2 * (m.o.many + 1) ≤ cs.length then ([a0, (some k), a2, a3] : List (Option Nat)) else if m.o.sec = true then [a0, none, a2, a3] else [a0, (some k), a2, a3]) = [a0, none, a2, a3] := by rw [if_neg ht, if_pos h1]
        refine Gx.ret1 Try.results15 rfl ?_
        refine ⟨rfl, ?_⟩
        rw [hO, hC, hN]
        exact reg_shut (a0 := a0) (a1 := none) (a2 := a2) (a3 := a3) hk hb2 (⟨m.b, m.b2, ⟨1, m.o.wr, m.o.val, m.o.frm, ((mom : Nat) : Int), m.o.best, m.o.sec, (m.o.seen ++ [i]), (m.o.many + 1)⟩⟩ : Om) rfl
  · refine Gx.seq ?_
    refine Gx.region ?_
    refine Gx.val rfl rfl rfl (val_move rfl rfl) ?_
    refine Gx.val rfl rfl rfl (val_nilCheck rfl rfl) ?_
    refine Gx.val rfl rfl rfl (Val.cast (val_fieldAddr rfl Try.underlying47 rfl Try.ty42 rfl rfl) (v' := ptr S 0) rfl) ?_
    refine Gx.val rfl rfl rfl (val_load rfl Try.ty42 rfl rfl (cell_rec (k := 0) rfl rfl)) ?_
    refine Gx.val rfl rfl rfl (val_move rfl rfl) ?_
    refine Gx.val rfl rfl rfl (val_ixa rfl Try.underlying42 Try.ty51 rfl rfl (j := i) (rfl) (reach_own (k := 1) rfl hci)) ?_
    refine Gx.val rfl rfl rfl (Val.cast (val_loadA rfl Try.ty51 rfl rfl rfl (cells_own (k := 1) rfl hci)) (v' := .agg #[.int .i64 ((c0.n : Nat) : Int), .int .i64 ((c0.who : Nat) : Int), .int .i64 c0.val]) rfl) ?_
    refine Gx.eff rfl rfl rfl (eff_alloc rfl Try.ty51 (vs := [.int .i64 0, .int .i64 0, .int .i64 0]) rfl) ?_
    rintro _ _ ⟨b5, rfl, rfl⟩
    refine Gx.eff0 rfl rfl (eff_store rfl Try.ty51 rfl rfl (us := [.int .i64 ((c0.n : Nat) : Int), .int .i64 ((c0.who : Nat) : Int), .int .i64 c0.val]) rfl rfl rfl (k := 0) rfl (rfl) (vs' := [.int .i64 ((c0.n : Nat) : Int), .int .i64 ((c0.who : Nat) : Int), .int .i64 c0.val]) (rfl) (l' := [Hp.rec_ b5 [.int .i64 ((c0.n : Nat) : Int), .int .i64 ((c0.who : Nat) : Int), .int .i64 c0.val], Hp.rec_ S [cv, ov, nowV (mo.map Om.b) a0, nowV (mo.map Om.b) (some k), nowV (mo.map Om.b) a2, nowV (mo.map Om.b) a3], Hp.own Fsd 3 cv cs, Hp.own FP 1 ov (mo.map Om.b), Hp.rec_ m.b [ptr m.b2 0, .int .i64 ((m.o.best.n : Nat) : Int), .int .i64 ((m.o.best.who : Nat) : Int), .int .i64 m.o.best.val, .bool m.o.sec, .int .u32 ((mk (m.o.seen ++ [i]) : Nat) : Int), .int .i64 ((m.o.many + 1 : Nat) : Int)], Hp.rec_ m.b2 [.int .i64 1, .int .i64 0, .bool m.o.wr, .int .i64 m.o.val, .int .i64 ((m.o.frm : Nat) : Int), .int .i64 m.o.to], R0, R]) rfl) ?_
    rintro _ _ rfl
    refine Gx.done ?_
    refine Gx.thenN ?_
    refine Gx.seq ?_
    refine Gx.regionQ Try.mixed (by kernel_rfl) ?_
    refine Gq.val rfl rfl rfl (Val.cast (val_loadA rfl Try.ty51 rfl rfl rfl (cells_rec (k := 0) rfl)) (v' := .agg #[.int .i64 ((c0.n : Nat) : Int), .int .i64 ((c0.who : Nat) : Int), .int .i64 c0.val]) rfl) ?_
    refine Gq.val rfl rfl rfl (val_move rfl rfl) ?_
    refine Gq.val rfl rfl rfl (val_nilCheck rfl rfl) ?_
    refine Gq.val rfl rfl rfl (Val.cast (val_fieldAddr rfl Try.underlying54 rfl Try.ty51 rfl rfl) (v' := ptr m.b 1) rfl) ?_
    refine Gq.val rfl rfl rfl (Val.cast (val_loadA rfl Try.ty51 rfl rfl (us := [.int .i64 ((m.o.best.n : Nat) : Int), .int .i64 ((m.o.best.who : Nat) : Int), .int .i64 m.o.best.val]) rfl (cells_rec_at (k := 4) (i := 1) (n := 3) rfl rfl)) (v' := .agg #[.int .i64 ((m.o.best.n : Nat) : Int), .int .i64 ((m.o.best.who : Nat) : Int), .int .i64 m.o.best.val]) rfl) ?_
    refine Gq.val rfl rfl rfl (val_call (vs := [.agg #[.int .i64 ((c0.n : Nat) : Int), .int .i64 ((c0.who : Nat) : Int), .int .i64 c0.val], .agg #[.int .i64 ((m.o.best.n : Nat) : Int), .int .i64 ((m.o.best.who : Nat) : Int), .int .i64 m.o.best.val]]) rfl Try.fn20 rfl (fun w H => later_any c0 m.o.best)) ?_
    refine Gq.done ?_
    refine Gx.thenN ?_
    refine Gx.bool rfl (fun h6 => ?_) (fun h6 => ?_)
    · refine Gx.region ?_
      refine Gx.val rfl rfl rfl (val_move rfl rfl) ?_
      refine Gx.val rfl rfl rfl (Val.cast (val_loadA rfl Try.ty51 rfl rfl rfl (cells_rec (k := 0) rfl)) (v' := .agg #[.int .i64 ((c0.n : Nat) : Int), .int .i64 ((c0.who : Nat) : Int), .int .i64 c0.val]) rfl) ?_
      refine Gx.val rfl rfl rfl (val_nilCheck rfl rfl) ?_
      refine Gx.val rfl rfl rfl (Val.cast (val_fieldAddr rfl Try.underlying54 rfl Try.ty51 rfl rfl) (v' := ptr m.b 1) rfl) ?_
      refine Gx.eff0 rfl rfl (eff_store rfl Try.ty51 rfl rfl (us := [.int .i64 ((c0.n : Nat) : Int), .int .i64 ((c0.who : Nat) : Int), .int .i64 c0.val]) rfl rfl rfl (k := 4) rfl (rfl) (vs' := [ptr m.b2 0, .int .i64 ((c0.n : Nat) : Int), .int .i64 ((c0.who : Nat) : Int), .int .i64 c0.val, .bool m.o.sec, .int .u32 ((mk (m.o.seen ++ [i]) : Nat) : Int), .int .i64 ((m.o.many + 1 : Nat) : Int)]) (rfl) (l' := [Hp.rec_ b5 [.int .i64 ((c0.n : Nat) : Int), .int .i64 ((c0.who : Nat) : Int), .int .i64 c0.val], Hp.rec_ S [cv, ov, nowV (mo.map Om.b) a0, nowV (mo.map Om.b) (some k), nowV (mo.map Om.b) a2, nowV (mo.map Om.b) a3], Hp.own Fsd 3 cv cs, Hp.own FP 1 ov (mo.map Om.b), Hp.rec_ m.b [ptr m.b2 0, .int .i64 ((c0.n : Nat) : Int), .int .i64 ((c0.who : Nat) : Int), .int .i64 c0.val, .bool m.o.sec, .int .u32 ((mk (m.o.seen ++ [i]) : Nat) : Int), .int .i64 ((m.o.many + 1 : Nat) : Int)], Hp.rec_ m.b2 [.int .i64 1, .int .i64 0, .bool m.o.wr, .int .i64 m.o.val, .int .i64 ((m.o.frm : Nat) : Int), .int .i64 m.o.to], R0, R]) rfl) ?_
      rintro _ _ rfl
      refine Gx.done ?_
      refine Gx.thenN ?_
      refine Gx.seq ?_
      refine Gx.seq ?_
      refine Gx.regionQ Try.mixed (by kernel_rfl) ?_
      refine Gq.val rfl rfl rfl (val_move rfl rfl) ?_
      refine Gq.val rfl rfl rfl (val_nilCheck rfl rfl) ?_
      refine Gq.val rfl rfl rfl (Val.cast (val_fieldAddr rfl Try.underlying54 rfl Try.ty3 rfl rfl) (v' := ptr m.b 6) rfl) ?_
      refine Gq.val rfl rfl rfl (val_load rfl Try.ty3 rfl rfl (cell_rec (k := 4) rfl rfl)) ?_
      refine Gq.val rfl rfl rfl (val_mul rfl rfl rfl (r := ((2 * (m.o.many + 1) : Nat) : Int)) (w64 (by omega) (by omega))) ?_
      refine Gq.val rfl rfl rfl (val_move rfl rfl) ?_
      refine Gq.val rfl rfl rfl (val_nilCheck rfl rfl) ?_
      refine Gq.val rfl rfl rfl (Val.cast (val_fieldAddr rfl Try.underlying47 rfl Try.ty42 rfl rfl) (v' := ptr S 0) rfl) ?_
      refine Gq.val rfl rfl rfl (val_load rfl Try.ty42 rfl rfl (cell_rec (k := 1) rfl rfl)) ?_
      refine Gq.val rfl rfl rfl (val_len rfl Try.underlying42 rfl (len_own (k := 2) rfl)) ?_
      refine Gq.val rfl rfl rfl (val_leq rfl rfl rfl) ?_
      refine Gq.done ?_
      refine Gx.thenN ?_
      refine Gx.dec rfl (fun h7 => ?_) (fun h7 => ?_)
      · refine Gx.seq ?_
        refine Gx.region ?_
        refine Gx.val rfl rfl rfl (val_assign rfl rfl) ?_
        refine Gx.done ?_
        refine Gx.thenN ?_
        refine Gx.ret ?_
        refine Gx.thenR ?_
        refine Gx.drop 0 rfl ?_
        have ht : 2 * (m.o.many + 1) ≤ cs.length := by omega
        have hO : (if 2 * (m.o.many + 1) ≤ cs.length then seeR cs i m.o else turnO (seeR cs i m.o) mom) = ⟨1, m.o.wr, m.o.val, m.o.frm, m.o.to, c0, m.o.sec, (m.o.seen ++ [i]), (m.o.many + 1)⟩ := by
          rw [if_pos ht]
          obtain ⟨b1, b2, ⟨o1, o2, o3, o4, o5, o6, o7, o8, o9⟩⟩ := m
          dsimp only at *
          subst hw
          simp only [seeR, turnO, hci, h1, h6, if_true, if_false, Bool.false_eq_true]
        have hC : (if m.o.sec = true then storeR cs i m.o.best else cs) = cs := by rw [if_neg (by rw [h1]; decide)]
        have hN : (if 2 * (m.o.many + 1) ≤ cs.length then ([a0, (some k), a2, a3] : List (Option Nat)) else if m.o.sec = true then [a0, none, a2, a3] else [a0, (some k), a2, a3]) = [a0, (some k), a2, a3] := by rw [if_pos ht]
        refine Gx.ret1 Try.results15 rfl ?_
        refine ⟨rfl, ?_⟩
        rw [hO, hC, hN]
        exact reg_shut (a0 := a0) (a1 := (some k)) (a2 := a2) (a3 := a3) hk hb2 (⟨m.b, m.b2, ⟨1, m.o.wr, m.o.val, m.o.frm, m.o.to, c0, m.o.sec, (m.o.seen ++ [i]), (m.o.many + 1)⟩⟩ : Om) rfl
      · refine Gx.skip ?_
        refine Gx.thenN ?_
        refine Gx.seq ?_
        refine Gx.seq ?_
        refine Gx.region ?_
        refine Gx.val rfl rfl rfl (val_move rfl rfl) ?_
        refine Gx.val rfl rfl rfl (val_nilCheck rfl rfl) ?_
        refine Gx.val rfl rfl rfl (Val.cast (val_fieldAddr rfl Try.underlying54 rfl Try.ty4 rfl rfl) (v' := ptr m.b 4) rfl) ?_
        refine Gx.val rfl rfl rfl (val_load rfl Try.ty4 rfl rfl (cell_rec (k := 4) rfl rfl)) ?_
        refine Gx.done ?_
        refine Gx.thenN ?_
        refine Gx.boolF rfl (h1) ?_
        refine Gx.skip ?_
        refine Gx.thenN ?_
        refine Gx.seq ?_
        refine Gx.region ?_
        refine Gx.val rfl rfl rfl (val_move rfl rfl) ?_
        refine Gx.val rfl rfl rfl (val_move rfl rfl) ?_
        refine Gx.val rfl rfl rfl (val_move rfl rfl) ?_
        refine Gx.val rfl rfl rfl (val_nilCheck rfl rfl) ?_
        refine Gx.val rfl rfl rfl (Val.cast (val_fieldAddr rfl Try.underlying54 rfl Try.ty4 rfl rfl) (v' := ptr m.b 4) rfl) ?_
        refine Gx.eff0 rfl rfl (eff_store rfl Try.ty4 rfl rfl (us := [.bool true]) rfl rfl rfl (k := 4) rfl (rfl) (vs' := [ptr m.b2 0, .int .i64 ((c0.n : Nat) : Int), .int .i64 ((c0.who : Nat) : Int), .int .i64 c0.val, .bool true, .int .u32 ((mk (m.o.seen ++ [i]) : Nat) : Int), .int .i64 ((m.o.many + 1 : Nat) : Int)]) (rfl) (l' := [Hp.rec_ b5 [.int .i64 ((c0.n : Nat) : Int), .int .i64 ((c0.who : Nat) : Int), .int .i64 c0.val], Hp.rec_ S [cv, ov, nowV (mo.map Om.b) a0, nowV (mo.map Om.b) (some k), nowV (mo.map Om.b) a2, nowV (mo.map Om.b) a3], Hp.own Fsd 3 cv cs, Hp.own FP 1 ov (mo.map Om.b), Hp.rec_ m.b [ptr m.b2 0, .int .i64 ((c0.n : Nat) : Int), .int .i64 ((c0.who : Nat) : Int), .int .i64 c0.val, .bool true, .int .u32 ((mk (m.o.seen ++ [i]) : Nat) : Int), .int .i64 ((m.o.many + 1 : Nat) : Int)], Hp.rec_ m.b2 [.int .i64 1, .int .i64 0, .bool m.o.wr, .int .i64 m.o.val, .int .i64 ((m.o.frm : Nat) : Int), .int .i64 m.o.to], R0, R]) rfl) ?_
        rintro _ _ rfl
        refine Gx.val rfl rfl rfl (val_nilCheck rfl rfl) ?_
        refine Gx.val rfl rfl rfl (Val.cast (val_fieldAddr rfl Try.underlying54 rfl Try.ty52 rfl rfl) (v' := ptr m.b 5) rfl) ?_
        refine Gx.eff0 rfl rfl (eff_store rfl Try.ty52 rfl rfl (us := [.int .u32 0]) rfl rfl rfl (k := 4) rfl (rfl) (vs' := [ptr m.b2 0, .int .i64 ((c0.n : Nat) : Int), .int .i64 ((c0.who : Nat) : Int), .int .i64 c0.val, .bool true, .int .u32 0, .int .i64 ((m.o.many + 1 : Nat) : Int)]) (rfl) (l' := [Hp.rec_ b5 [.int .i64 ((c0.n : Nat) : Int), .int .i64 ((c0.who : Nat) : Int), .int .i64 c0.val], Hp.rec_ S [cv, ov, nowV (mo.map Om.b) a0, nowV (mo.map Om.b) (some k), nowV (mo.map Om.b) a2, nowV (mo.map Om.b) a3], Hp.own Fsd 3 cv cs, Hp.own FP 1 ov (mo.map Om.b), Hp.rec_ m.b [ptr m.b2 0, .int .i64 ((c0.n : Nat) : Int), .int .i64 ((c0.who : Nat) : Int), .int .i64 c0.val, .bool true, .int .u32 0, .int .i64 ((m.o.many + 1 : Nat) : Int)], Hp.rec_ m.b2 [.int .i64 1, .int .i64 0, .bool m.o.wr, .int .i64 m.o.val, .int .i64 ((m.o.frm : Nat) : Int), .int .i64 m.o.to], R0, R]) rfl) ?_
        rintro _ _ rfl
        refine Gx.val rfl rfl rfl (val_nilCheck rfl rfl) ?_
        refine Gx.val rfl rfl rfl (Val.cast (val_fieldAddr rfl Try.underlying54 rfl Try.ty3 rfl rfl) (v' := ptr m.b 6) rfl) ?_
        refine Gx.eff0 rfl rfl (eff_store rfl Try.ty3 rfl rfl (us := [.int .i64 0]) rfl rfl rfl (k := 4) rfl (rfl) (vs' := [ptr m.b2 0, .int .i64 ((c0.n : Nat) : Int), .int .i64 ((c0.who : Nat) : Int), .int .i64 c0.val, .bool true, .int .u32 0, .int .i64 0]) (rfl) (l' := [Hp.rec_ b5 [.int .i64 ((c0.n : Nat) : Int), .int .i64 ((c0.who : Nat) : Int), .int .i64 c0.val], Hp.rec_ S [cv, ov, nowV (mo.map Om.b) a0, nowV (mo.map Om.b) (some k), nowV (mo.map Om.b) a2, nowV (mo.map Om.b) a3], Hp.own Fsd 3 cv cs, Hp.own FP 1 ov (mo.map Om.b), Hp.rec_ m.b [ptr m.b2 0, .int .i64 ((c0.n : Nat) : Int), .int .i64 ((c0.who : Nat) : Int), .int .i64 c0.val, .bool true, .int .u32 0, .int .i64 0], Hp.rec_ m.b2 [.int .i64 1, .int .i64 0, .bool m.o.wr, .int .i64 m.o.val, .int .i64 ((m.o.frm : Nat) : Int), .int .i64 m.o.to], R0, R]) rfl) ?_
        rintro _ _ rfl
        refine Gx.done ?_
        refine Gx.thenN ?_
        refine Gx.seq ?_
        refine Gx.seq ?_
        refine Gx.region ?_
        refine Gx.val rfl rfl rfl (val_move rfl rfl) ?_
        refine Gx.val rfl rfl rfl (val_nilCheck rfl rfl) ?_
        refine Gx.val rfl rfl rfl (Val.cast (val_fieldAddr rfl Try.underlying54 rfl Try.ty49 rfl rfl) (v' := ptr m.b 0) rfl) ?_
        refine Gx.val rfl rfl rfl (val_load rfl Try.ty49 rfl rfl (cell_rec (k := 4) rfl rfl)) ?_
        refine Gx.val rfl rfl rfl (val_nilCheck rfl rfl) ?_
        refine Gx.val rfl rfl rfl (Val.cast (val_fieldAddr rfl Try.underlying33 rfl Try.ty4 rfl rfl) (v' := ptr m.b2 2) rfl) ?_
        refine Gx.val rfl rfl rfl (val_load rfl Try.ty4 rfl rfl (cell_rec (k := 5) rfl rfl)) ?_
        refine Gx.done ?_
        refine Gx.thenN ?_
        refine Gx.bool rfl (fun h8 => ?_) (fun h8 => ?_)
        · refine Gx.regionO (fun j => false) 24 [0, 1, 2, 3, 4, 5, 6, 7, 8, 9, 10, 11, 12, 13, 14, 15, 16, 17, 18, 19, 20, 21, 22, 23] (fun _ => [Hp.rec_ b5 [.int .i64 ((c0.n : Nat) : Int), .int .i64 ((c0.who : Nat) : Int), .int .i64 c0.val], Hp.rec_ S [cv, ov, nowV (mo.map Om.b) a0, nowV (mo.map Om.b) (some k), nowV (mo.map Om.b) a2, nowV (mo.map Om.b) a3], Hp.own Fsd 3 cv cs, Hp.own FP 1 ov (mo.map Om.b), Hp.rec_ m.b [ptr m.b2 0, .int .i64 ((c0.n : Nat) : Int), .int .i64 ((c0.who : Nat) : Int), .int .i64 c0.val, .bool true, .int .u32 0, .int .i64 0], Hp.rec_ m.b2 [.int .i64 1, .int .i64 0, .bool m.o.wr, .int .i64 m.o.val, .int .i64 ((m.o.frm : Nat) : Int), .int .i64 m.o.to], R0, R]) Try.mixed (by kernel_rfl) rfl ?_
          refine Gw.val rfl rfl rfl rfl rfl (fun us => val_move rfl rfl) ?_
          refine Gw.val rfl rfl rfl rfl rfl (fun us => val_move rfl rfl) ?_
          refine Gw.val rfl rfl rfl rfl rfl (fun us => val_nilCheck rfl rfl) ?_
          refine Gw.val rfl rfl rfl rfl rfl (fun us => Val.cast (val_fieldAddr rfl Try.underlying54 rfl Try.ty51 rfl rfl) (v' := ptr m.b 1) rfl) ?_
          refine Gw.val rfl rfl rfl rfl rfl (fun us => Val.cast (val_fieldAddr rfl Try.underlying51 rfl Try.ty3 rfl rfl) (v' := ptr m.b 1) rfl) ?_
          refine Gw.val0 rfl rfl rfl (by kernel_rfl) rfl rfl (val_load rfl Try.ty3 rfl rfl (cell_rec (k := 4) rfl rfl)) ?_
          refine Gw.val rfl rfl rfl rfl rfl (fun us => val_add rfl rfl rfl (r := ((c0.n + 1 : Nat) : Int)) (w64 (by omega) (by omega))) ?_
          refine Gw.val rfl rfl rfl rfl rfl (fun us => val_move rfl rfl) ?_
          refine Gw.val rfl rfl rfl rfl rfl (fun us => val_nilCheck rfl rfl) ?_
          refine Gw.val rfl rfl rfl rfl rfl (fun us => Val.cast (val_fieldAddr rfl Try.underlying54 rfl Try.ty49 rfl rfl) (v' := ptr m.b 0) rfl) ?_
          refine Gw.val0 rfl rfl rfl (by kernel_rfl) rfl rfl (val_load rfl Try.ty49 rfl rfl (cell_rec (k := 4) rfl rfl)) ?_
          refine Gw.val rfl rfl rfl rfl rfl (fun us => val_nilCheck rfl rfl) ?_
          refine Gw.val rfl rfl rfl rfl rfl (fun us => Val.cast (val_fieldAddr rfl Try.underlying33 rfl Try.ty3 rfl rfl) (v' := ptr m.b2 0) rfl) ?_
          refine Gw.val0 rfl rfl rfl (by kernel_rfl) rfl rfl (val_load rfl Try.ty3 rfl rfl (cell_rec (k := 5) rfl rfl)) ?_
          refine Gw.val rfl rfl rfl rfl rfl (fun us => val_move rfl rfl) ?_
          refine Gw.val rfl rfl rfl rfl rfl (fun us => val_nilCheck rfl rfl) ?_
          refine Gw.val rfl rfl rfl rfl rfl (fun us => Val.cast (val_fieldAddr rfl Try.underlying54 rfl Try.ty49 rfl rfl) (v' := ptr m.b 0) rfl) ?_
          refine Gw.val0 rfl rfl rfl (by kernel_rfl) rfl rfl (val_load rfl Try.ty49 rfl rfl (cell_rec (k := 4) rfl rfl)) ?_
          refine Gw.val rfl rfl rfl rfl rfl (fun us => val_nilCheck rfl rfl) ?_
          refine Gw.val rfl rfl rfl rfl rfl (fun us => Val.cast (val_fieldAddr rfl Try.underlying33 rfl Try.ty2 rfl rfl) (v' := ptr m.b2 3) rfl) ?_
          refine Gw.val0 rfl rfl rfl (by kernel_rfl) rfl rfl (val_load rfl Try.ty2 rfl rfl (cell_rec (k := 5) rfl rfl)) ?_
          refine Gw.val rfl rfl rfl rfl rfl (fun us => val_build rfl (qs := [(0, .int .i64 ((c0.n + 1 : Nat) : Int)), (1, .int .i64 1), (2, .int .i64 m.o.val)]) rfl rfl (fun w => by go_simp) (v := .agg #[.int .i64 ((c0.n + 1 : Nat) : Int), .int .i64 1, .int .i64 m.o.val])) ?_
          refine Gw.val rfl rfl rfl rfl rfl (fun us => val_nilCheck rfl rfl) ?_
          refine Gw.val rfl rfl rfl rfl rfl (fun us => Val.cast (val_fieldAddr rfl Try.underlying54 rfl Try.ty51 rfl rfl) (v' := ptr m.b 1) rfl) ?_
          refine Gw.done ?_
          refine Gx.norm (l' := [Hp.rec_ b5 [.int .i64 ((c0.n : Nat) : Int), .int .i64 ((c0.who : Nat) : Int), .int .i64 c0.val], Hp.rec_ S [cv, ov, nowV (mo.map Om.b) a0, nowV (mo.map Om.b) (some k), nowV (mo.map Om.b) a2, nowV (mo.map Om.b) a3], Hp.own Fsd 3 cv cs, Hp.own FP 1 ov (mo.map Om.b), Hp.rec_ m.b [ptr m.b2 0, .int .i64 ((c0.n : Nat) : Int), .int .i64 ((c0.who : Nat) : Int), .int .i64 c0.val, .bool true, .int .u32 0, .int .i64 0], Hp.rec_ m.b2 [.int .i64 1, .int .i64 0, .bool m.o.wr, .int .i64 m.o.val, .int .i64 ((m.o.frm : Nat) : Int), .int .i64 m.o.to], R0, R]) rfl ?_
          refine Gx.eff0 rfl rfl (eff_store rfl Try.ty51 rfl rfl (us := [.int .i64 ((c0.n + 1 : Nat) : Int), .int .i64 1, .int .i64 m.o.val]) rfl rfl rfl (k := 4) rfl (rfl) (vs' := [ptr m.b2 0, .int .i64 ((c0.n + 1 : Nat) : Int), .int .i64 1, .int .i64 m.o.val, .bool true, .int .u32 0, .int .i64 0]) (rfl) (l' := [Hp.rec_ b5 [.int .i64 ((c0.n : Nat) : Int), .int .i64 ((c0.who : Nat) : Int), .int .i64 c0.val], Hp.rec_ S [cv, ov, nowV (mo.map Om.b) a0, nowV (mo.map Om.b) (some k), nowV (mo.map Om.b) a2, nowV (mo.map Om.b) a3], Hp.own Fsd 3 cv cs, Hp.own FP 1 ov (mo.map Om.b), Hp.rec_ m.b [ptr m.b2 0, .int .i64 ((c0.n + 1 : Nat) : Int), .int .i64 1, .int .i64 m.o.val, .bool true, .int .u32 0, .int .i64 0], Hp.rec_ m.b2 [.int .i64 1, .int .i64 0, .bool m.o.wr, .int .i64 m.o.val, .int .i64 ((m.o.frm : Nat) : Int), .int .i64 m.o.to], R0, R]) rfl) ?_
          rintro _ _ rfl
          refine Gx.done ?_
          refine Gx.thenN ?_
          refine Gx.seq ?_
          refine Gx.region ?_
          refine Gx.val rfl rfl rfl (val_assign rfl rfl) ?_
          refine Gx.done ?_
          refine Gx.thenN ?_
          refine Gx.ret ?_
          refine Gx.drop 0 rfl ?_
          have ht : ¬ 2 * (m.o.many + 1) ≤ cs.length := by omega
          have hO : (if 2 * (m.o.many + 1) ≤ cs.length then seeR cs i m.o else turnO (seeR cs i m.o) mom) = ⟨1, m.o.wr, m.o.val, m.o.frm, m.o.to, ⟨c0.n + 1, 1, m.o.val⟩, true, [], 0⟩ := by
            rw [if_neg ht]
            obtain ⟨b1, b2, ⟨o1, o2, o3, o4, o5, o6, o7, o8, o9⟩⟩ := m
            dsimp only at *
            subst hw
            simp only [seeR, turnO, hci, h1, h6, h8, if_true, if_false, Bool.false_eq_true]
          have hC : (if m.o.sec = true then storeR cs i m.o.best else cs) = cs := by rw [if_neg (by rw [h1]; decide)]
          have hN : (if 2 * (m.o.many + 1) ≤ cs.length then ([a0, (some k), a2, a3] : List (Option Nat)) else if m.o.sec = true then [a0, none, a2, a3] else [a0, (some k), a2, a3]) = [a0, (some k), a2, a3] := by rw [if_neg ht, if_neg (by rw [h1]; decide)]
          refine Gx.ret1 Try.results15 rfl ?_
          refine ⟨rfl, ?_⟩
          rw [hO, hC, hN]
          exact reg_shut (a0 := a0) (a1 := (some k)) (a2 := a2) (a3 := a3) hk hb2 (⟨m.b, m.b2, ⟨1, m.o.wr, m.o.val, m.o.frm, m.o.to, ⟨c0.n + 1, 1, m.o.val⟩, true, [], 0⟩⟩ : Om) rfl
        · refine Gx.skip ?_
          refine Gx.thenN ?_
          refine Gx.seq ?_
          refine Gx.region ?_
          refine Gx.val rfl rfl rfl (val_assign rfl rfl) ?_
          refine Gx.done ?_
          refine Gx.thenN ?_
          refine Gx.ret ?_
          refine Gx.drop 0 rfl ?_
          have ht : ¬ 2 * (m.o.many + 1) ≤ cs.length := by omega
          have hO : (if 2 * (m.o.many + 1) ≤ cs.length then seeR cs i m.o else turnO (seeR cs i m.o) mom) = ⟨1, m.o.wr, m.o.val, m.o.frm, m.o.to, c0, true, [], 0⟩ := by
            rw [if_neg ht]
            obtain ⟨b1, b2, ⟨o1, o2, o3, o4, o5, o6, o7, o8, o9⟩⟩ := m
            dsimp only at *
            subst hw
            simp only [seeR, turnO, hci, h1, h6, h8, if_true, if_false, Bool.false_eq_true]
          have hC : (if m.o.sec = true then storeR cs i m.o.best else cs) = cs := by rw [if_neg (by rw [h1]; decide)]
          have hN : (if 2 * (m.o.many + 1) ≤ cs.length then ([a0, (some k), a2, a3] : List (Option Nat)) else if m.o.sec = true then [a0, none, a2, a3] else [a0, (some k), a2, a3]) = [a0, (some k), a2, a3] := by rw [if_neg ht, if_neg (by rw [h1]; decide)]
          refine Gx.ret1 Try.results15 rfl ?_
          refine ⟨rfl, ?_⟩
          rw [hO, hC, hN]
          exact reg_shut (a0 := a0) (a1 := (some k)) (a2 := a2) (a3 := a3) hk hb2 (⟨m.b, m.b2, ⟨1, m.o.wr, m.o.val, m.o.frm, m.o.to, c0, true, [], 0⟩⟩ : Om) rfl
    · refine Gx.skip ?_
      refine Gx.thenN ?_
      refine Gx.seq ?_
      refine Gx.seq ?_
      refine Gx.regionQ Try.mixed (by kernel_rfl) ?_
      refine Gq.val rfl rfl rfl (val_move rfl rfl) ?_
      refine Gq.val rfl rfl rfl (val_nilCheck rfl rfl) ?_
      refine Gq.val rfl rfl rfl (Val.cast (val_fieldAddr rfl Try.underlying54 rfl Try.ty3 rfl rfl) (v' := ptr m.b 6) rfl) ?_
      refine Gq.val rfl rfl rfl (val_load rfl Try.ty3 rfl rfl (cell_rec (k := 4) rfl rfl)) ?_
      refine Gq.val rfl rfl rfl (val_mul rfl rfl rfl (r := ((2 * (m.o.many + 1) : Nat) : Int)) (w64 (by omega) (by omega))) ?_
      refine Gq.val rfl rfl rfl (val_move rfl rfl) ?_
      refine Gq.val rfl rfl rfl (val_nilCheck rfl rfl) ?_
      refine Gq.val rfl rfl rfl (Val.cast (val_fieldAddr rfl Try.underlying47 rfl Try.ty42 rfl rfl) (v' := ptr S 0) rfl) ?_
      refine Gq.val rfl rfl rfl (val_load rfl Try.ty42 rfl rfl (cell_rec (k := 1) rfl rfl)) ?_
      refine Gq.val rfl rfl rfl (val_len rfl Try.underlying42 rfl (len_own (k := 2) rfl)) ?_
      refine Gq.val rfl rfl rfl (val_leq rfl rfl rfl) ?_
      refine Gq.done ?_
      refine Gx.thenN ?_
      refine Gx.dec rfl (fun h9 => ?_) (fun h9 => ?_)
      · refine Gx.seq ?_
        refine Gx.region ?_
        refine Gx.val rfl rfl rfl (val_assign rfl rfl) ?_
        refine Gx.done ?_
        refine Gx.thenN ?_
        refine Gx.ret ?_
        refine Gx.thenR ?_
        refine Gx.drop 0 rfl ?_
        have ht : 2 * (m.o.many + 1) ≤ cs.length := by omega
        have hO : (if 2 * (m.o.many + 1) ≤ cs.length then seeR cs i m.o else turnO (seeR cs i m.o) mom) = ⟨1, m.o.wr, m.o.val, m.o.frm, m.o.to, m.o.best, m.o.sec, (m.o.seen ++ [i]), (m.o.many + 1)⟩ := by
          rw [if_pos ht]
          obtain ⟨b1, b2, ⟨o1, o2, o3, o4, o5, o6, o7, o8, o9⟩⟩ := m
          dsimp only at *
          subst hw
          simp only [seeR, turnO, hci, h1, h6, if_true, if_false, Bool.false_eq_true]
        have hC : (if m.o.sec = true then storeR cs i m.o.best else cs) = cs := by rw [if_neg (by rw [h1]; decide)]
        have hN : (if 2 * (m.o.many + 1) ≤ cs.length then ([a0, (some k), a2, a3] : List (Option Nat)) else if m.o.sec = true then [a0, none, a2, a3] else [a0, (some k), a2, a3]) = [a0, (some k), a2, a3] := by rw [if_pos ht]
        refine Gx.ret1 Try.results15 rfl ?_
        refine ⟨rfl, ?_⟩
        rw [hO, hC, hN]
        exact reg_shut (a0 := a0) (a1 := (some k)) (a2 := a2) (a3 := a3) hk hb2 (⟨m.b, m.b2, ⟨1, m.o.wr, m.o.val, m.o.frm, m.o.to, m.o.best, m.o.sec, (m.o.seen ++ [i]), (m.o.many + 1)⟩⟩ : Om) rfl
      · refine Gx.skip ?_
        refine Gx.thenN ?_
        refine Gx.seq ?_
        refine Gx.seq ?_
        refine Gx.region ?_
        refine Gx.val rfl rfl rfl (val_move rfl rfl) ?_
        refine Gx.val rfl rfl rfl (val_nilCheck rfl rfl) ?_
        refine Gx.val rfl rfl rfl (Val.cast (val_fieldAddr rfl Try.underlying54 rfl Try.ty4 rfl rfl) (v' := ptr m.b 4) rfl) ?_
        refine Gx.val rfl rfl rfl (val_load rfl Try.ty4 rfl rfl (cell_rec (k := 4) rfl rfl)) ?_
        refine Gx.done ?_
        refine Gx.thenN ?_
        refine Gx.boolF rfl (h1) ?_
        refine Gx.skip ?_
        refine Gx.thenN ?_
        refine Gx.seq ?_
        refine Gx.region ?_
        refine Gx.val rfl rfl rfl (val_move rfl rfl) ?_
        refine Gx.val rfl rfl rfl (val_move rfl rfl) ?_
        refine Gx.val rfl rfl rfl (val_move rfl rfl) ?_
        refine Gx.val rfl rfl rfl (val_nilCheck rfl rfl) ?_
        refine Gx.val rfl rfl rfl (Val.cast (val_fieldAddr rfl Try.underlying54 rfl Try.ty4 rfl rfl) (v' := ptr m.b 4) rfl) ?_
        refine Gx.eff0 rfl rfl (eff_store rfl Try.ty4 rfl rfl (us := [.bool true]) rfl rfl rfl (k := 4) rfl (rfl) (vs' := [ptr m.b2 0, .int .i64 ((m.o.best.n : Nat) : Int), .int .i64 ((m.o.best.who : Nat) : Int), .int .i64 m.o.best.val, .bool true, .int .u32 ((mk (m.o.seen ++ [i]) : Nat) : Int), .int .i64 ((m.o.many + 1 : Nat) : Int)]) (rfl) (l' := [Hp.rec_ b5 [.int .i64 ((c0.n : Nat) : Int), .int .i64 ((c0.who : Nat) : Int), .int .i64 c0.val], Hp.rec_ S [cv, ov, nowV (mo.map Om.b) a0, nowV (mo.map Om.b) (some k), nowV (mo.map Om.b) a2, nowV (mo.map Om.b) a3], Hp.own Fsd 3 cv cs, Hp.own FP 1 ov (mo.map Om.b), Hp.rec_ m.b [ptr m.b2 0, .int .i64 ((m.o.best.n : Nat) : Int), .int .i64 ((m.o.best.who : Nat) : Int), .int .i64 m.o.best.val, .bool true, .int .u32 ((mk (m.o.seen ++ [i]) : Nat) : Int), .int .i64 ((m.o.many + 1 : Nat) : Int)], Hp.rec_ m.b2 [.int .i64 1, .int .i64 0, .bool m.o.wr, .int .i64 m.o.val, .int .i64 ((m.o.frm : Nat) : Int), .int .i64 m.o.to], R0, R]) rfl) ?_
        rintro _ _ rfl
        refine Gx.val rfl rfl rfl (val_nilCheck rfl rfl) ?_
        refine Gx.val rfl rfl rfl (Val.cast (val_fieldAddr rfl Try.underlying54 rfl Try.ty52 rfl rfl) (v' := ptr m.b 5) rfl) ?_
        refine Gx.eff0 rfl rfl (eff_store rfl Try.ty52 rfl rfl (us := [.int .u32 0]) rfl rfl rfl (k := 4) rfl (rfl) (vs' := [ptr m.b2 0, .int .i64 ((m.o.best.n : Nat) : Int), .int .i64 ((m.o.best.who : Nat) : Int), .int .i64 m.o.best.val, .bool true, .int .u32 0, .int .i64 ((m.o.many + 1 : Nat) : Int)]) (rfl) (l' := [Hp.rec_ b5 [.int .i64 ((c0.n : Nat) : Int), .int .i64 ((c0.who : Nat) : Int), .int .i64 c0.val], Hp.rec_ S [cv, ov, nowV (mo.map Om.b) a0, nowV (mo.map Om.b) (some k), nowV (mo.map Om.b) a2, nowV (mo.map Om.b) a3], Hp.own Fsd 3 cv cs, Hp.own FP 1 ov (mo.map Om.b), Hp.rec_ m.b [ptr m.b2 0, .int .i64 ((m.o.best.n : Nat) : Int), .int .i64 ((m.o.best.who : Nat) : Int), .int .i64 m.o.best.val, .bool true, .int .u32 0, .int .i64 ((m.o.many + 1 : Nat) : Int)], Hp.rec_ m.b2 [.int .i64 1, .int .i64 0, .bool m.o.wr, .int .i64 m.o.val, .int .i64 ((m.o.frm : Nat) : Int), .int .i64 m.o.to], R0, R]) rfl) ?_
        rintro _ _ rfl
        refine Gx.val rfl rfl rfl (val_nilCheck rfl rfl) ?_
        refine Gx.val rfl rfl rfl (Val.cast (val_fieldAddr rfl Try.underlying54 rfl Try.ty3 rfl rfl) (v' := ptr m.b 6) rfl) ?_
        refine Gx.eff0 rfl rfl (eff_store rfl Try.ty3 rfl rfl (us := [.int .i64 0]) rfl rfl rfl (k := 4) rfl (rfl) (vs' := [ptr m.b2 0, .int .i64 ((m.o.best.n : Nat) : Int), .int .i64 ((m.o.best.who : Nat) : Int), .int .i64 m.o.best.val, .bool true, .int .u32 0, .int .i64 0]) (rfl) (l' := [Hp.rec_ b5 [.int .i64 ((c0.n : Nat) : Int), .int .i64 ((c0.who : Nat) : Int), .int .i64 c0.val], Hp.rec_ S [cv, ov, nowV (mo.map Om.b) a0, nowV (mo.map Om.b) (some k), nowV (mo.map Om.b) a2, nowV (mo.map Om.b) a3], Hp.own Fsd 3 cv cs, Hp.own FP 1 ov (mo.map Om.b), Hp.rec_ m.b [ptr m.b2 0, .int .i64 ((m.o.best.n : Nat) : Int), .int .i64 ((m.o.best.who : Nat) : Int), .int .i64 m.o.best.val, .bool true, .int .u32 0, .int .i64 0], Hp.rec_ m.b2 [.int .i64 1, .int .i64 0, .bool m.o.wr, .int .i64 m.o.val, .int .i64 ((m.o.frm : Nat) : Int), .int .i64 m.o.to], R0, R]) rfl) ?_
        rintro _ _ rfl
        refine Gx.done ?_
        refine Gx.thenN ?_
        refine Gx.seq ?_
        refine Gx.seq ?_
        refine Gx.region ?_
        refine Gx.val rfl rfl rfl (val_move rfl rfl) ?_
        refine Gx.val rfl rfl rfl (val_nilCheck rfl rfl) ?_
        refine Gx.val rfl rfl rfl (Val.cast (val_fieldAddr rfl Try.underlying54 rfl Try.ty49 rfl rfl) (v' := ptr m.b 0) rfl) ?_
        refine Gx.val rfl rfl rfl (val_load rfl Try.ty49 rfl rfl (cell_rec (k := 4) rfl rfl)) ?_
        refine Gx.val rfl rfl rfl (val_nilCheck rfl rfl) ?_
        refine Gx.val rfl rfl rfl (Val.cast (val_fieldAddr rfl Try.underlying33 rfl Try.ty4 rfl rfl) (v' := ptr m.b2 2) rfl) ?_
        refine Gx.val rfl rfl rfl (val_load rfl Try.ty4 rfl rfl (cell_rec (k := 5) rfl rfl)) ?_
        refine Gx.done ?_
        refine Gx.thenN ?_
        refine Gx.bool rfl (fun h10 => ?_) (fun h10 => ?_)
        · refine Gx.regionO (fun j => false) 24 [0, 1, 2, 3, 4, 5, 6, 7, 8, 9, 10, 11, 12, 13, 14, 15, 16, 17, 18, 19, 20, 21, 22, 23] (fun _ => [Hp.rec_ b5 [.int .i64 ((c0.n : Nat) : Int), .int .i64 ((c0.who : Nat) : Int), .int .i64 c0.val], Hp.rec_ S [cv, ov, nowV (mo.map Om.b) a0, nowV (mo.map Om.b) (some k), nowV (mo.map Om.b) a2, nowV (mo.map Om.b) a3], Hp.own Fsd 3 cv cs, Hp.own FP 1 ov (mo.map Om.b), Hp.rec_ m.b [ptr m.b2 0, .int .i64 ((m.o.best.n : Nat) : Int), .int .i64 ((m.o.best.who : Nat) : Int), .int .i64 m.o.best.val, .bool true, .int .u32 0, .int .i64 0], Hp.rec_ m.b2 [.int .i64 1, .int .i64 0, .bool m.o.wr, .int .i64 m.o.val, .int .i64 ((m.o.frm : Nat) : Int), .int .i64 m.o.to], R0, R]) Try.mixed (by kernel_rfl) rfl ?_
          refine Gw.val rfl rfl rfl rfl rfl (fun us => val_move rfl rfl) ?_
          refine Gw.val rfl rfl rfl rfl rfl (fun us => val_move rfl rfl) ?_
          refine Gw.val rfl rfl rfl rfl rfl (fun us => val_nilCheck rfl rfl) ?_
          refine Gw.val rfl rfl rfl rfl rfl (fun us => Val.cast (val_fieldAddr rfl Try.underlying54 rfl Try.ty51 rfl rfl) (v' := ptr m.b 1) rfl) ?_
          refine Gw.val rfl rfl rfl rfl rfl (fun us => Val.cast (val_fieldAddr rfl Try.underlying51 rfl Try.ty3 rfl rfl) (v' := ptr m.b 1) rfl) ?_
          refine Gw.val0 rfl rfl rfl (by kernel_rfl) rfl rfl (val_load rfl Try.ty3 rfl rfl (cell_rec (k := 4) rfl rfl)) ?_
          refine Gw.val rfl rfl rfl rfl rfl (fun us => val_add rfl rfl rfl (r := ((m.o.best.n + 1 : Nat) : Int)) (w64 (by omega) (by omega))) ?_
          refine Gw.val rfl rfl rfl rfl rfl (fun us => val_move rfl rfl) ?_
          refine Gw.val rfl rfl rfl rfl rfl (fun us => val_nilCheck rfl rfl) ?_
          refine Gw.val rfl rfl rfl rfl rfl (fun us => Val.cast (val_fieldAddr rfl Try.underlying54 rfl Try.ty49 rfl rfl) (v' := ptr m.b 0) rfl) ?_
          refine Gw.val0 rfl rfl rfl (by kernel_rfl) rfl rfl (val_load rfl Try.ty49 rfl rfl (cell_rec (k := 4) rfl rfl)) ?_
          refine Gw.val rfl rfl rfl rfl rfl (fun us => val_nilCheck rfl rfl) ?_
          refine Gw.val rfl rfl rfl rfl rfl (fun us => Val.cast (val_fieldAddr rfl Try.underlying33 rfl Try.ty3 rfl rfl) (v' := ptr m.b2 0) rfl) ?_
          refine Gw.val0 rfl rfl rfl (by kernel_rfl) rfl rfl (val_load rfl Try.ty3 rfl rfl (cell_rec (k := 5) rfl rfl)) ?_
          refine Gw.val rfl rfl rfl rfl rfl (fun us => val_move rfl rfl) ?_
          refine Gw.val rfl rfl rfl rfl rfl (fun us => val_nilCheck rfl rfl) ?_
          refine Gw.val rfl rfl rfl rfl rfl (fun us => Val.cast (val_fieldAddr rfl Try.underlying54 rfl Try.ty49 rfl rfl) (v' := ptr m.b 0) rfl) ?_
          refine Gw.val0 rfl rfl rfl (by kernel_rfl) rfl rfl (val_load rfl Try.ty49 rfl rfl (cell_rec (k := 4) rfl rfl)) ?_
          refine Gw.val rfl rfl rfl rfl rfl (fun us => val_nilCheck rfl rfl) ?_
          refine Gw.val rfl rfl rfl rfl rfl (fun us => Val.cast (val_fieldAddr rfl Try.underlying33 rfl Try.ty2 rfl rfl) (v' := ptr m.b2 3) rfl) ?_
          refine Gw.val0 rfl rfl rfl (by kernel_rfl) rfl rfl (val_load rfl Try.ty2 rfl rfl (cell_rec (k := 5) rfl rfl)) ?_
          refine Gw.val rfl rfl rfl rfl rfl (fun us => val_build rfl (qs := [(0, .int .i64 ((m.o.best.n + 1 : Nat) : Int)), (1, .int .i64 1), (2, .int .i64 m.o.val)]) rfl rfl (fun w => by go_simp) (v := .agg #[.int .i64 ((m.o.best.n + 1 : Nat) : Int), .int .i64 1, .int .i64 m.o.val])) ?_
          refine Gw.val rfl rfl rfl rfl rfl (fun us => val_nilCheck rfl rfl) ?_
          refine Gw.val rfl rfl rfl rfl rfl (fun us => Val.cast (val_fieldAddr rfl Try.underlying54 rfl Try.ty51 rfl rfl) (v' := ptr m.b 1) rfl) ?_
          refine Gw.done ?_
          refine Gx.norm (l' := [Hp.rec_ b5 [.int .i64 ((c0.n : Nat) : Int), .int .i64 ((c0.who : Nat) : Int), .int .i64 c0.val], Hp.rec_ S [cv, ov, nowV (mo.map Om.b) a0, nowV (mo.map Om.b) (some k), nowV (mo.map Om.b) a2, nowV (mo.map Om.b) a3], Hp.own Fsd 3 cv cs, Hp.own FP 1 ov (mo.map Om.b), Hp.rec_ m.b [ptr m.b2 0, .int .i64 ((m.o.best.n : Nat) : Int), .int .i64 ((m.o.best.who : Nat) : Int), .int .i64 m.o.best.val, .bool true, .int .u32 0, .int .i64 0], Hp.rec_ m.b2 [.int .i64 1, .int .i64 0, .bool m.o.wr, .int .i64 m.o.val, .int .i64 ((m.o.frm : Nat) : Int), .int .i64 m.o.to], R0, R]) rfl ?_
          refine Gx.eff0 rfl rfl (eff_store rfl Try.ty51 rfl rfl (us := [.int .i64 ((m.o.best.n + 1 : Nat) : Int), .int .i64 1, .int .i64 m.o.val]) rfl rfl rfl (k := 4) rfl (rfl) (vs' := [ptr m.b2 0, .int .i64 ((m.o.best.n + 1 : Nat) : Int), .int .i64 1, .int .i64 m.o.val, .bool true, .int .u32 0, .int .i64 0]) (rfl) (l' := [Hp.rec_ b5 [.int .i64 ((c0.n : Nat) : Int), .int .i64 ((c0.who : Nat) : Int), .int .i64 c0.val], Hp.rec_ S [cv, ov, nowV (mo.map Om.b) a0, nowV (mo.map Om.b) (some k), nowV (mo.map Om.b) a2, nowV (mo.map Om.b) a3], Hp.own Fsd 3 cv cs, Hp.own FP 1 ov (mo.map Om.b), Hp.rec_ m.b [ptr m.b2 0, .int .i64 ((m.o.best.n + 1 : Nat) : Int), .int .i64 1, .int .i64 m.o.val, .bool true, .int .u32 0, .int .i64 0], Hp.rec_ m.b2 [.int .i64 1, .int .i64 0, .bool m.o.wr, .int .i64 m.o.val, .int .i64 ((m.o.frm : Nat) : Int), .int .i64 m.o.to], R0, R]) rfl) ?_
          rintro _ _ rfl
          refine Gx.done ?_
          refine Gx.thenN ?_
          refine Gx.seq ?_
          refine Gx.region ?_
          refine Gx.val rfl rfl rfl (val_assign rfl rfl) ?_
          refine Gx.done ?_
          refine Gx.thenN ?_
          refine Gx.ret ?_
          refine Gx.drop 0 rfl ?_
          have ht : ¬ 2 * (m.o.many + 1) ≤ cs.length := by omega
          have hO : (if 2 * (m.o.many + 1) ≤ cs.length then seeR cs i m.o else turnO (seeR cs i m.o) mom) = ⟨1, m.o.wr, m.o.val, m.o.frm, m.o.to, ⟨m.o.best.n + 1, 1, m.o.val⟩, true, [], 0⟩ := by
            rw [if_neg ht]
            obtain ⟨b1, b2, ⟨o1, o2, o3, o4, o5, o6, o7, o8, o9⟩⟩ := m
            dsimp only at *
            subst hw
            simp only [seeR, turnO, hci, h1, h6, h10, if_true, if_false, Bool.false_eq_true]
          have hC : (if m.o.sec = true then storeR cs i m.o.best else cs) = cs := by rw [if_neg (by rw [h1]; decide)]
          have hN : (if 2 * (m.o.many + 1) ≤ cs.length then ([a0, (some k), a2, a3] : List (Option Nat)) else if m.o.sec = true then [a0, none, a2, a3] else [a0, (some k), a2, a3]) = [a0, (some k), a2, a3] := by rw [if_neg ht, if_neg (by rw [h1]; decide)]
          refine Gx.ret1 Try.results15 rfl ?_
          refine ⟨rfl, ?_⟩
          rw [hO, hC, hN]
          exact reg_shut (a0 := a0) (a1 := (some k)) (a2 := a2) (a3 := a3) hk hb2 (⟨m.b, m.b2, ⟨1, m.o.wr, m.o.val, m.o.frm, m.o.to, ⟨m.o.best.n + 1, 1, m.o.val⟩, true, [], 0⟩⟩ : Om) rfl
        · refine Gx.skip ?_
          refine Gx.thenN ?_
          refine Gx.seq ?_
          refine Gx.region ?_
          refine Gx.val rfl rfl rfl (val_assign rfl rfl) ?_
          refine Gx.done ?_
          refine Gx.thenN ?_
          refine Gx.ret ?_
          refine Gx.drop 0 rfl ?_
          have ht : ¬ 2 * (m.o.many + 1) ≤ cs.length := by omega
          have hO : (if 2 * (m.o.many + 1) ≤ cs.length then seeR cs i m.o else turnO (seeR cs i m.o) mom) = ⟨1, m.o.wr, m.o.val, m.o.frm, m.o.to, m.o.best, true, [], 0⟩ := by
            rw [if_neg ht]
            obtain ⟨b1, b2, ⟨o1, o2, o3, o4, o5, o6, o7, o8, o9⟩⟩ := m
            dsimp only at *
            subst hw
            simp only [seeR, turnO, hci, h1, h6, h10, if_true, if_false, Bool.false_eq_true]
          have hC : (if m.o.sec = true then storeR cs i m.o.best else cs) = cs := by rw [if_neg (by rw [h1]; decide)]
          have hN : (if 2 * (m.o.many + 1) ≤ cs.length then ([a0, (some k), a2, a3] : List (Option Nat)) else if m.o.sec = true then [a0, none, a2, a3] else [a0, (some k), a2, a3]) = [a0, (some k), a2, a3] := by rw [if_neg ht, if_neg (by rw [h1]; decide)]
          refine Gx.ret1 Try.results15 rfl ?_
          refine ⟨rfl, ?_⟩
          rw [hO, hC, hN]
          exact reg_shut (a0 := a0) (a1 := (some k)) (a2 := a2) (a3 := a3) hk hb2 (⟨m.b, m.b2, ⟨1, m.o.wr, m.o.val, m.o.frm, m.o.to, m.o.best, true, [], 0⟩⟩ : Om) rfl

theorem reach_go2 {W w : World} {S k i mom : Nat} {a0 a1 a3 : Option Nat} {cv ov : Value} {cs : List Sd} {mo : List Om} {m : Om} {R : Hp} (hk : mo[k]? = some m) (hw : m.o.who = 2) (hi : i < cs.length) (hs : ¬ i ∈ m.o.seen) (h5 : cs.length ≤ 5) (hmk : mk m.o.seen < 4294967296) (hmany : m.o.many ≤ 5) (hbn : m.o.best.n ≤ 1000) (hcn : ∀ c ∈ cs, c.n ≤ 1000) (H : Sat W w (regP S [a0, a1, (some k), a3] cv ov cs mo * R)) :
    Calls Try.prog 15 #[ptr S 0, ptr m.b 0, .int .i64 ((i : Nat) : Int), .int .i64 ((mom : Nat) : Int)] w (Ret W fun v l => v = .int .i64 0 ∧ sep l = regP S (if 2 * (m.o.many + 1) ≤ cs.length then [a0, a1, (some k), a3] else if m.o.sec = true then [a0, a1, none, a3] else [a0, a1, (some k), a3]) cv ov (if m.o.sec = true then storeR cs i m.o.best else cs) (mo.set k ⟨m.b, m.b2, if 2 * (m.o.many + 1) ≤ cs.length then seeR cs i m.o else turnO (seeR cs i m.o) mom⟩) * R) := by
  obtain ⟨c0, hci⟩ := get_of_lt hi
  have hsl := storeR_len cs i m.o.best
  have hc0 := hcn c0 (List.mem_of_getElem? hci)
  obtain ⟨R0, hb1, hb2⟩ := Hp.big_focus opH mo k m hk
  have hopen := reg_open (k := k) hb1 H
  rw [hw] at hopen
  refine Gx.enter (l := [Hp.rec_ S [cv, ov, nowV (mo.map Om.b) a0, nowV (mo.map Om.b) a1, nowV (mo.map Om.b) (some k), nowV (mo.map Om.b) a3], Hp.own Fsd 3 cv cs, Hp.own FP 1 ov (mo.map Om.b), Hp.rec_ m.b [ptr m.b2 0, .int .i64 ((m.o.best.n : Nat) : Int), .int .i64 ((m.o.best.who : Nat) : Int), .int .i64 m.o.best.val, .bool m.o.sec, .int .u32 (((mk m.o.seen) : Nat) : Int), .int .i64 ((m.o.many : Nat) : Int)], Hp.rec_ m.b2 [.int .i64 2, .int .i64 0, .bool m.o.wr, .int .i64 m.o.val, .int .i64 ((m.o.frm : Nat) : Int), .int .i64 m.o.to], R0, R]) Try.func15 rfl Try.ntmps15 rfl (hopen) ?_
  refine Gx.know (m' := [(0, ptr S 0), (1, ptr m.b 0), (2, .int .i64 ((i : Nat) : Int)), (3, .int .i64 ((mom : Nat) : Int))]) (.cons rfl (.cons rfl (.cons rfl (.cons rfl .nil)))) ?_
  refine Gx.seq ?_
  refine Gx.region ?_
  refine Gx.val rfl rfl rfl (val_assign rfl rfl) ?_
  refine Gx.done ?_
  refine Gx.thenN ?_
  refine Gx.seq ?_
  refine Gx.seq ?_
  refine Gx.region ?_
  refine Gx.val rfl rfl rfl (val_move rfl rfl) ?_
  refine Gx.val rfl rfl rfl (Val.cast (val_eqlP rfl Try.underlying44 (by kernel_rfl) rfl rfl) (v' := .bool false) rfl) ?_
  refine Gx.val rfl rfl rfl (val_move rfl rfl) ?_
  refine Gx.valg rfl rfl rfl rfl rfl (val_move rfl rfl) ?_
  refine Gx.valg rfl rfl rfl rfl rfl (val_nilCheck rfl rfl) ?_
  refine Gx.valg rfl rfl rfl rfl rfl (Val.cast (val_fieldAddr rfl Try.underlying54 rfl Try.ty52 rfl rfl) (v' := ptr m.b 5) rfl) ?_
  refine Gx.valg rfl rfl rfl rfl rfl (val_load rfl Try.ty52 rfl rfl (cell_rec (k := 3) rfl rfl)) ?_
  refine Gx.valg rfl rfl rfl rfl rfl (val_move rfl rfl) ?_
  refine Gx.valg rfl rfl rfl rfl rfl (val_shr (b := i) rfl rfl rfl rfl (by show i ≤ 32; omega) (shr32 _ _)) ?_
  refine Gx.valg rfl rfl rfl rfl rfl (val_and rfl rfl rfl (and_mk i hmk)) ?_
  refine Gx.valg rfl rfl rfl rfl rfl (val_eql rfl rfl rfl) ?_
  refine Gx.val rfl rfl rfl (val_pickF rfl rfl rfl) ?_
  refine Gx.done ?_
  refine Gx.thenN ?_
  refine Gx.decF rfl (by rw [if_neg hs]; decide) ?_
  refine Gx.skip ?_
  refine Gx.thenN ?_
  refine Gx.seq ?_
  refine Gx.regionO (fun j => false) 9 [0, 1, 2, 3, 4, 5, 6, 7, 8] (fun _ => [Hp.rec_ S [cv, ov, nowV (mo.map Om.b) a0, nowV (mo.map Om.b) a1, nowV (mo.map Om.b) (some k), nowV (mo.map Om.b) a3], Hp.own Fsd 3 cv cs, Hp.own FP 1 ov (mo.map Om.b), Hp.rec_ m.b [ptr m.b2 0, .int .i64 ((m.o.best.n : Nat) : Int), .int .i64 ((m.o.best.who : Nat) : Int), .int .i64 m.o.best.val, .bool m.o.sec, .int .u32 (((mk m.o.seen) : Nat) : Int), .int .i64 ((m.o.many : Nat) : Int)], Hp.rec_ m.b2 [.int .i64 2, .int .i64 0, .bool m.o.wr, .int .i64 m.o.val, .int .i64 ((m.o.frm : Nat) : Int), .int .i64 m.o.to], R0, R]) Try.mixed (by kernel_rfl) rfl ?_
  refine Gw.val rfl rfl rfl rfl rfl (fun us => val_move rfl rfl) ?_
  refine Gw.val rfl rfl rfl rfl rfl (fun us => val_nilCheck rfl rfl) ?_
  refine Gw.val rfl rfl rfl rfl rfl (fun us => Val.cast (val_fieldAddr rfl Try.underlying54 rfl Try.ty52 rfl rfl) (v' := ptr m.b 5) rfl) ?_
  refine Gw.val0 rfl rfl rfl (by kernel_rfl) rfl rfl (val_load rfl Try.ty52 rfl rfl (cell_rec (k := 3) rfl rfl)) ?_
  refine Gw.val rfl rfl rfl rfl rfl (fun us => val_move rfl rfl) ?_
  refine Gw.val rfl rfl rfl rfl rfl (fun us => val_shl (b := i) rfl rfl rfl rfl (by show i ≤ 32; omega) (shl1 (by omega))) ?_
  refine Gw.val rfl rfl rfl rfl rfl (fun us => val_or rfl rfl rfl ((or32 hmk (pow32 (by omega))).trans (congrArg Nat.cast (mk_snoc _ i).symm))) ?_
  refine Gw.val rfl rfl rfl rfl rfl (fun us => val_nilCheck rfl rfl) ?_
  refine Gw.val rfl rfl rfl rfl rfl (fun us => Val.cast (val_fieldAddr rfl Try.underlying54 rfl Try.ty52 rfl rfl) (v' := ptr m.b 5) rfl) ?_
  refine Gw.done ?_
  refine Gx.norm (l' := [Hp.rec_ S [cv, ov, nowV (mo.map Om.b) a0, nowV (mo.map Om.b) a1, nowV (mo.map Om.b) (some k), nowV (mo.map Om.b) a3], Hp.own Fsd 3 cv cs, Hp.own FP 1 ov (mo.map Om.b), Hp.rec_ m.b [ptr m.b2 0, .int .i64 ((m.o.best.n : Nat) : Int), .int .i64 ((m.o.best.who : Nat) : Int), .int .i64 m.o.best.val, .bool m.o.sec, .int .u32 (((mk m.o.seen) : Nat) : Int), .int .i64 ((m.o.many : Nat) : Int)], Hp.rec_ m.b2 [.int .i64 2, .int .i64 0, .bool m.o.wr, .int .i64 m.o.val, .int .i64 ((m.o.frm : Nat) : Int), .int .i64 m.o.to], R0, R]) rfl ?_
  refine Gx.eff0 rfl rfl (eff_store rfl Try.ty52 rfl rfl (us := [.int .u32 ((mk (m.o.seen ++ [i]) : Nat) : Int)]) rfl rfl rfl (k := 3) rfl (rfl) (vs' := [ptr m.b2 0, .int .i64 ((m.o.best.n : Nat) : Int), .int .i64 ((m.o.best.who : Nat) : Int), .int .i64 m.o.best.val, .bool m.o.sec, .int .u32 ((mk (m.o.seen ++ [i]) : Nat) : Int), .int .i64 ((m.o.many : Nat) : Int)]) (rfl) (l' := [Hp.rec_ S [cv, ov, nowV (mo.map Om.b) a0, nowV (mo.map Om.b) a1, nowV (mo.map Om.b) (some k), nowV (mo.map Om.b) a3], Hp.own Fsd 3 cv cs, Hp.own FP 1 ov (mo.map Om.b), Hp.rec_ m.b [ptr m.b2 0, .int .i64 ((m.o.best.n : Nat) : Int), .int .i64 ((m.o.best.who : Nat) : Int), .int .i64 m.o.best.val, .bool m.o.sec, .int .u32 ((mk (m.o.seen ++ [i]) : Nat) : Int), .int .i64 ((m.o.many : Nat) : Int)], Hp.rec_ m.b2 [.int .i64 2, .int .i64 0, .bool m.o.wr, .int .i64 m.o.val, .int .i64 ((m.o.frm : Nat) : Int), .int .i64 m.o.to], R0, R]) rfl) ?_
  rintro _ _ rfl
  refine Gx.done ?_
  refine Gx.thenN ?_
  refine Gx.seq ?_
  refine Gx.region ?_
  refine Gx.val rfl rfl rfl (val_move rfl rfl) ?_
  refine Gx.val rfl rfl rfl (val_nilCheck rfl rfl) ?_
  refine Gx.val rfl rfl rfl (Val.cast (val_fieldAddr rfl Try.underlying54 rfl Try.ty3 rfl rfl) (v' := ptr m.b 6) rfl) ?_
  refine Gx.val rfl rfl rfl (val_load rfl Try.ty3 rfl rfl (cell_rec (k := 3) rfl rfl)) ?_
  refine Gx.val rfl rfl rfl (val_add rfl rfl rfl (r := ((m.o.many + 1 : Nat) : Int)) (w64 (by omega) (by omega))) ?_
  refine Gx.val rfl rfl rfl (val_nilCheck rfl rfl) ?_
  refine Gx.val rfl rfl rfl (Val.cast (val_fieldAddr rfl Try.underlying54 rfl Try.ty3 rfl rfl) (v' := ptr m.b 6) rfl) ?_
  refine Gx.eff0 rfl rfl (eff_store rfl Try.ty3 rfl rfl (us := [.int .i64 ((m.o.many + 1 : Nat) : Int)]) rfl rfl rfl (k := 3) rfl (rfl) (vs' := [ptr m.b2 0, .int .i64 ((m.o.best.n : Nat) : Int), .int .i64 ((m.o.best.who : Nat) : Int), .int .i64 m.o.best.val, .bool m.o.sec, .int .u32 ((mk (m.o.seen ++ [i]) : Nat) : Int), .int .i64 ((m.o.many + 1 : Nat) : Int)]) (rfl) (l' := [Hp.rec_ S [cv, ov, nowV (mo.map Om.b) a0, nowV (mo.map Om.b) a1, nowV (mo.map Om.b) (some k), nowV (mo.map Om.b) a3], Hp.own Fsd 3 cv cs, Hp.own FP 1 ov (mo.map Om.b), Hp.rec_ m.b [ptr m.b2 0, .int .i64 ((m.o.best.n : Nat) : Int), .int .i64 ((m.o.best.who : Nat) : Int), .int .i64 m.o.best.val, .bool m.o.sec, .int .u32 ((mk (m.o.seen ++ [i]) : Nat) : Int), .int .i64 ((m.o.many + 1 : Nat) : Int)], Hp.rec_ m.b2 [.int .i64 2, .int .i64 0, .bool m.o.wr, .int .i64 m.o.val, .int .i64 ((m.o.frm : Nat) : Int), .int .i64 m.o.to], R0, R]) rfl) ?_
  rintro _ _ rfl
  refine Gx.done ?_
  refine Gx.thenN ?_
  refine Gx.seq ?_
  refine Gx.seq ?_
  refine Gx.region ?_
  refine Gx.val rfl rfl rfl (val_move rfl rfl) ?_
  refine Gx.val rfl rfl rfl (val_nilCheck rfl rfl) ?_
  refine Gx.val rfl rfl rfl (Val.cast (val_fieldAddr rfl Try.underlying54 rfl Try.ty4 rfl rfl) (v' := ptr m.b 4) rfl) ?_
  refine Gx.val rfl rfl rfl (val_load rfl Try.ty4 rfl rfl (cell_rec (k := 3) rfl rfl)) ?_
  refine Gx.done ?_
  refine Gx.thenN ?_
  refine Gx.bool rfl (fun h1 => ?_) (fun h1 => ?_)
  · refine Gx.region ?_
    refine Gx.val rfl rfl rfl (val_move rfl rfl) ?_
    refine Gx.val rfl rfl rfl (val_move rfl rfl) ?_
    refine Gx.val rfl rfl rfl (val_move rfl rfl) ?_
    refine Gx.val rfl rfl rfl (val_nilCheck rfl rfl) ?_
    refine Gx.val rfl rfl rfl (Val.cast (val_fieldAddr rfl Try.underlying54 rfl Try.ty51 rfl rfl) (v' := ptr m.b 1) rfl) ?_
    refine Gx.val rfl rfl rfl (Val.cast (val_loadA rfl Try.ty51 rfl rfl (us := [.int .i64 ((m.o.best.n : Nat) : Int), .int .i64 ((m.o.best.who : Nat) : Int), .int .i64 m.o.best.val]) rfl (cells_rec_at (k := 3) (i := 1) (n := 3) rfl rfl)) (v' := .agg #[.int .i64 ((m.o.best.n : Nat) : Int), .int .i64 ((m.o.best.who : Nat) : Int), .int .i64 m.o.best.val]) rfl) ?_
    refine Gx.eff rfl rfl rfl (eff_call (vs := [ptr S 0, .int .i64 ((i : Nat) : Int), .agg #[.int .i64 ((m.o.best.n : Nat) : Int), .int .i64 ((m.o.best.who : Nat) : Int), .int .i64 m.o.best.val]]) rfl Try.fn16 rfl (fun w H => store_any m.o.best hi (H.at2 (k := 0) (k' := 0) rfl rfl))) ?_
    rintro _ l2 ⟨rfl, hl2⟩
    refine Gx.sepEq (l' := [Hp.rec_ S [cv, ov, nowV (mo.map Om.b) a0, nowV (mo.map Om.b) a1, nowV (mo.map Om.b) (some k), nowV (mo.map Om.b) a3], Hp.own Fsd 3 cv (storeR cs i m.o.best), Hp.own FP 1 ov (mo.map Om.b), Hp.rec_ m.b [ptr m.b2 0, .int .i64 ((m.o.best.n : Nat) : Int), .int .i64 ((m.o.best.who : Nat) : Int), .int .i64 m.o.best.val, .bool m.o.sec, .int .u32 ((mk (m.o.seen ++ [i]) : Nat) : Int), .int .i64 ((m.o.many + 1 : Nat) : Int)], Hp.rec_ m.b2 [.int .i64 2, .int .i64 0, .bool m.o.wr, .int .i64 m.o.val, .int .i64 ((m.o.frm : Nat) : Int), .int .i64 m.o.to], R0, R]) hl2 ?_
    refine Gx.done ?_
    refine Gx.thenN ?_
    refine Gx.seq ?_
    refine Gx.seq ?_
    refine Gx.regionQ Try.mixed (by kernel_rfl) ?_
    refine Gq.val rfl rfl rfl (val_move rfl rfl) ?_
    refine Gq.val rfl rfl rfl (val_nilCheck rfl rfl) ?_
    refine Gq.val rfl rfl rfl (Val.cast (val_fieldAddr rfl Try.underlying54 rfl Try.ty3 rfl rfl) (v' := ptr m.b 6) rfl) ?_
    refine Gq.val rfl rfl rfl (val_load rfl Try.ty3 rfl rfl (cell_rec (k := 3) rfl rfl)) ?_
    refine Gq.val rfl rfl rfl (val_mul rfl rfl rfl (r := ((2 * (m.o.many + 1) : Nat) : Int)) (w64 (by omega) (by omega))) ?_
    refine Gq.val rfl rfl rfl (val_move rfl rfl) ?_
    refine Gq.val rfl rfl rfl (val_nilCheck rfl rfl) ?_
    refine Gq.val rfl rfl rfl (Val.cast (val_fieldAddr rfl Try.underlying47 rfl Try.ty42 rfl rfl) (v' := ptr S 0) rfl) ?_
    refine Gq.val rfl rfl rfl (val_load rfl Try.ty42 rfl rfl (cell_rec (k := 0) rfl rfl)) ?_
    refine Gq.val rfl rfl rfl (val_len rfl Try.underlying42 rfl (len_own (k := 1) rfl)) ?_
    refine Gq.val rfl rfl rfl (val_leq rfl rfl rfl) ?_
    refine Gq.done ?_
    refine Gx.thenN ?_
    refine Gx.dec rfl (fun h3 => ?_) (fun h3 => ?_)
    · refine Gx.seq ?_
      refine Gx.region ?_
      refine Gx.val rfl rfl rfl (val_assign rfl rfl) ?_
      refine Gx.done ?_
      refine Gx.thenN ?_
      refine Gx.ret ?_
      refine Gx.thenR ?_
      have ht : 2 * (m.o.many + 1) ≤ cs.length := by omega
      have hO : (if 2 * (m.o.many + 1) ≤ cs.length then seeR cs i m.o else turnO (seeR cs i m.o) mom) = ⟨2, m.o.wr, m.o.val, m.o.frm, m.o.to, m.o.best, m.o.sec, (m.o.seen ++ [i]), (m.o.many + 1)⟩ := by
        rw [if_pos ht]
        obtain ⟨b1, b2, ⟨o1, o2, o3, o4, o5, o6, o7, o8, o9⟩⟩ := m
        dsimp only at *
        subst hw
        simp only [seeR, turnO, hci, h1, if_true, if_false, Bool.false_eq_true]
      have hC : (if m.o.sec = true then storeR cs i m.o.best else cs) = (storeR cs i m.o.best) := by rw [if_pos h1]
      have hN : (if 2 * (m.o.many + 1) ≤ cs.length then ([a0, a1, (some k), a3] : List (Option Nat)) else if m.o.sec = true then [a0, a1, none, a3] else [a0, a1, (some k), a3]) = [a0, a1, (some k), a3] := by rw [if_pos ht]
      refine Gx.ret1 Try.results15 rfl ?_
      refine ⟨rfl, ?_⟩
      rw [hO, hC, hN]
      exact reg_shut (a0 := a0) (a1 := a1) (a2 := (some k)) (a3 := a3) hk hb2 (⟨m.b, m.b2, ⟨2, m.o.wr, m.o.val, m.o.frm, m.o.to, m.o.best, m.o.sec, (m.o.seen ++ [i]), (m.o.many + 1)⟩⟩ : Om) rfl
    · refine Gx.skip ?_
      refine Gx.thenN ?_
      refine Gx.seq ?_
      refine Gx.seq ?_
      refine Gx.region ?_
      refine Gx.val rfl rfl rfl (val_move rfl rfl) ?_
      refine Gx.val rfl rfl rfl (val_nilCheck rfl rfl) ?_
      refine Gx.val rfl rfl rfl (Val.cast (val_fieldAddr rfl Try.underlying54 rfl Try.ty4 rfl rfl) (v' := ptr m.b 4) rfl) ?_
      refine Gx.val rfl rfl rfl (val_load rfl Try.ty4 rfl rfl (cell_rec (k := 3) rfl rfl)) ?_
      refine Gx.done ?_
      refine Gx.thenN ?_
      refine Gx.boolT rfl (h1) ?_
      refine Gx.seq ?_
      refine Gx.region ?_
      refine Gx.val rfl rfl rfl (val_move rfl rfl) ?_
      refine Gx.val rfl rfl rfl (val_nilCheck rfl rfl) ?_
      refine Gx.val rfl rfl rfl (Val.cast (val_fieldAddr rfl Try.underlying54 rfl Try.ty49 rfl rfl) (v' := ptr m.b 0) rfl) ?_
      refine Gx.val rfl rfl rfl (val_load rfl Try.ty49 rfl rfl (cell_rec (k := 3) rfl rfl)) ?_
      refine Gx.val rfl rfl rfl (val_move rfl rfl) ?_
      refine Gx.val rfl rfl rfl (val_nilCheck rfl rfl) ?_
      refine Gx.val rfl rfl rfl (Val.cast (val_fieldAddr rfl Try.underlying33 rfl Try.ty3 rfl rfl) (v' := ptr m.b2 5) rfl) ?_
      refine Gx.eff0 rfl rfl (eff_store rfl Try.ty3 rfl rfl (us := [.int .i64 ((mom : Nat) : Int)]) rfl rfl rfl (k := 4) rfl (rfl) (vs' := [.int .i64 2, .int .i64 0, .bool m.o.wr, .int .i64 m.o.val, .int .i64 ((m.o.frm : Nat) : Int), .int .i64 ((mom : Nat) : Int)]) (rfl) (l' := [Hp.rec_ S [cv, ov, nowV (mo.map Om.b) a0, nowV (mo.map Om.b) a1, nowV (mo.map Om.b) (some k), nowV (mo.map Om.b) a3], Hp.own Fsd 3 cv (storeR cs i m.o.best), Hp.own FP 1 ov (mo.map Om.b), Hp.rec_ m.b [ptr m.b2 0, .int .i64 ((m.o.best.n : Nat) : Int), .int .i64 ((m.o.best.who : Nat) : Int), .int .i64 m.o.best.val, .bool m.o.sec, .int .u32 ((mk (m.o.seen ++ [i]) : Nat) : Int), .int .i64 ((m.o.many + 1 : Nat) : Int)], Hp.rec_ m.b2 [.int .i64 2, .int .i64 0, .bool m.o.wr, .int .i64 m.o.val, .int .i64 ((m.o.frm : Nat) : Int), .int .i64 ((mom : Nat) : Int)], R0, R]) rfl) ?_
      rintro _ _ rfl
      refine Gx.done ?_
      refine Gx.thenN ?_
      refine Gx.seq ?_
      refine Gx.seq ?_
      refine Gx.region ?_
      refine Gx.val rfl rfl rfl (val_move rfl rfl) ?_
      refine Gx.val rfl rfl rfl (val_nilCheck rfl rfl) ?_
      refine Gx.val rfl rfl rfl (Val.cast (val_fieldAddr rfl Try.underlying54 rfl Try.ty49 rfl rfl) (v' := ptr m.b 0) rfl) ?_
      refine Gx.val rfl rfl rfl (val_load rfl Try.ty49 rfl rfl (cell_rec (k := 3) rfl rfl)) ?_
      refine Gx.val rfl rfl rfl (val_nilCheck rfl rfl) ?_
      refine Gx.val rfl rfl rfl (Val.cast (val_fieldAddr rfl Try.underlying33 rfl Try.ty4 rfl rfl) (v' := ptr m.b2 2) rfl) ?_
      refine Gx.val rfl rfl rfl (val_load rfl Try.ty4 rfl rfl (cell_rec (k := 4) rfl rfl)) ?_
      refine Gx.val rfl rfl rfl (val_not rfl rfl) ?_
      refine Gx.done ?_
      refine Gx.thenN ?_
      refine Gx.bool rfl (fun h4 => ?_) (fun h4 => ?_)
      · refine Gx.regionO (fun j => false) 11 [0, 1, 2, 3, 4, 5, 6, 7, 8, 9, 10] (fun _ => [Hp.rec_ S [cv, ov, nowV (mo.map Om.b) a0, nowV (mo.map Om.b) a1, nowV (mo.map Om.b) (some k), nowV (mo.map Om.b) a3], Hp.own Fsd 3 cv (storeR cs i m.o.best), Hp.own FP 1 ov (mo.map Om.b), Hp.rec_ m.b [ptr m.b2 0, .int .i64 ((m.o.best.n : Nat) : Int), .int .i64 ((m.o.best.who : Nat) : Int), .int .i64 m.o.best.val, .bool m.o.sec, .int .u32 ((mk (m.o.seen ++ [i]) : Nat) : Int), .int .i64 ((m.o.many + 1 : Nat) : Int)], Hp.rec_ m.b2 [.int .i64 2, .int .i64 0, .bool m.o.wr, .int .i64 m.o.val, .int .i64 ((m.o.frm : Nat) : Int), .int .i64 ((mom : Nat) : Int)], R0, R]) Try.mixed (by kernel_rfl) rfl ?_
        refine Gw.val rfl rfl rfl rfl rfl (fun us => val_move rfl rfl) ?_
        refine Gw.val rfl rfl rfl rfl rfl (fun us => val_nilCheck rfl rfl) ?_
        refine Gw.val rfl rfl rfl rfl rfl (fun us => Val.cast (val_fieldAddr rfl Try.underlying54 rfl Try.ty49 rfl rfl) (v' := ptr m.b 0) rfl) ?_
        refine Gw.val0 rfl rfl rfl (by kernel_rfl) rfl rfl (val_load rfl Try.ty49 rfl rfl (cell_rec (k := 3) rfl rfl)) ?_
        refine Gw.val rfl rfl rfl rfl rfl (fun us => val_move rfl rfl) ?_
        refine Gw.val rfl rfl rfl rfl rfl (fun us => val_nilCheck rfl rfl) ?_
        refine Gw.val rfl rfl rfl rfl rfl (fun us => Val.cast (val_fieldAddr rfl Try.underlying54 rfl Try.ty51 rfl rfl) (v' := ptr m.b 1) rfl) ?_
        refine Gw.val rfl rfl rfl rfl rfl (fun us => Val.cast (val_fieldAddr rfl Try.underlying51 rfl Try.ty2 rfl rfl) (v' := ptr m.b 3) rfl) ?_
        refine Gw.val0 rfl rfl rfl (by kernel_rfl) rfl rfl (val_load rfl Try.ty2 rfl rfl (cell_rec (k := 3) rfl rfl)) ?_
        refine Gw.val rfl rfl rfl rfl rfl (fun us => val_nilCheck rfl rfl) ?_
        refine Gw.val rfl rfl rfl rfl rfl (fun us => Val.cast (val_fieldAddr rfl Try.underlying33 rfl Try.ty2 rfl rfl) (v' := ptr m.b2 3) rfl) ?_
        refine Gw.done ?_
        refine Gx.norm (l' := [Hp.rec_ S [cv, ov, nowV (mo.map Om.b) a0, nowV (mo.map Om.b) a1, nowV (mo.map Om.b) (some k), nowV (mo.map Om.b) a3], Hp.own Fsd 3 cv (storeR cs i m.o.best), Hp.own FP 1 ov (mo.map Om.b), Hp.rec_ m.b [ptr m.b2 0, .int .i64 ((m.o.best.n : Nat) : Int), .int .i64 ((m.o.best.who : Nat) : Int), .int .i64 m.o.best.val, .bool m.o.sec, .int .u32 ((mk (m.o.seen ++ [i]) : Nat) : Int), .int .i64 ((m.o.many + 1 : Nat) : Int)], Hp.rec_ m.b2 [.int .i64 2, .int .i64 0, .bool m.o.wr, .int .i64 m.o.val, .int .i64 ((m.o.frm : Nat) : Int), .int .i64 ((mom : Nat) : Int)], R0, R]) rfl ?_
        refine Gx.eff0 rfl rfl (eff_store rfl Try.ty2 rfl rfl (us := [.int .i64 m.o.best.val]) rfl rfl rfl (k := 4) rfl (rfl) (vs' := [.int .i64 2, .int .i64 0, .bool m.o.wr, .int .i64 m.o.best.val, .int .i64 ((m.o.frm : Nat) : Int), .int .i64 ((mom : Nat) : Int)]) (rfl) (l' := [Hp.rec_ S [cv, ov, nowV (mo.map Om.b) a0, nowV (mo.map Om.b) a1, nowV (mo.map Om.b) (some k), nowV (mo.map Om.b) a3], Hp.own Fsd 3 cv (storeR cs i m.o.best), Hp.own FP 1 ov (mo.map Om.b), Hp.rec_ m.b [ptr m.b2 0, .int .i64 ((m.o.best.n : Nat) : Int), .int .i64 ((m.o.best.who : Nat) : Int), .int .i64 m.o.best.val, .bool m.o.sec, .int .u32 ((mk (m.o.seen ++ [i]) : Nat) : Int), .int .i64 ((m.o.many + 1 : Nat) : Int)], Hp.rec_ m.b2 [.int .i64 2, .int .i64 0, .bool m.o.wr, .int .i64 m.o.best.val, .int .i64 ((m.o.frm : Nat) : Int), .int .i64 ((mom : Nat) : Int)], R0, R]) rfl) ?_
        rintro _ _ rfl
        refine Gx.done ?_
        refine Gx.thenN ?_
        refine Gx.seq ?_
        refine Gx.regionO (fun j => false) 11 [0, 1, 2, 3, 4, 5, 6, 7, 8, 9, 10] (fun _ => [Hp.rec_ S [cv, ov, nowV (mo.map Om.b) a0, nowV (mo.map Om.b) a1, nowV (mo.map Om.b) (some k), nowV (mo.map Om.b) a3], Hp.own Fsd 3 cv (storeR cs i m.o.best), Hp.own FP 1 ov (mo.map Om.b), Hp.rec_ m.b [ptr m.b2 0, .int .i64 ((m.o.best.n : Nat) : Int), .int .i64 ((m.o.best.who : Nat) : Int), .int .i64 m.o.best.val, .bool m.o.sec, .int .u32 ((mk (m.o.seen ++ [i]) : Nat) : Int), .int .i64 ((m.o.many + 1 : Nat) : Int)], Hp.rec_ m.b2 [.int .i64 2, .int .i64 0, .bool m.o.wr, .int .i64 m.o.best.val, .int .i64 ((m.o.frm : Nat) : Int), .int .i64 ((mom : Nat) : Int)], R0, R]) Try.mixed (by kernel_rfl) rfl ?_
        refine Gw.val rfl rfl rfl rfl rfl (fun us => val_move rfl rfl) ?_
        refine Gw.val rfl rfl rfl rfl rfl (fun us => val_move rfl rfl) ?_
        refine Gw.val rfl rfl rfl rfl rfl (fun us => val_nilCheck rfl rfl) ?_
        refine Gw.val rfl rfl rfl rfl rfl (fun us => Val.cast (val_fieldAddr rfl Try.underlying54 rfl Try.ty49 rfl rfl) (v' := ptr m.b 0) rfl) ?_
        refine Gw.val0 rfl rfl rfl (by kernel_rfl) rfl rfl (val_load rfl Try.ty49 rfl rfl (cell_rec (k := 3) rfl rfl)) ?_
        refine Gw.val rfl rfl rfl rfl rfl (fun us => val_nilCheck rfl rfl) ?_
        refine Gw.val rfl rfl rfl rfl rfl (fun us => Val.cast (val_fieldAddr rfl Try.underlying33 rfl Try.ty3 rfl rfl) (v' := ptr m.b2 0) rfl) ?_
        refine Gw.val0 rfl rfl rfl (by kernel_rfl) rfl rfl (val_load rfl Try.ty3 rfl rfl (cell_rec (k := 4) rfl rfl)) ?_
        refine Gw.val rfl rfl rfl rfl rfl (fun us => val_nilCheck rfl rfl) ?_
        refine Gw.val rfl rfl rfl rfl rfl (fun us => Val.cast (val_fieldAddr rfl Try.underlying47 rfl Try.ty45 rfl rfl) (v' := ptr S 2) rfl) ?_
        refine Gw.val rfl rfl rfl rfl rfl (fun us => Val.cast (val_ixaA rfl Try.underlying45 Try.ty44 rfl rfl (j := 2) (rfl) (by omega)) (v' := ptr S 4) rfl) ?_
        refine Gw.done ?_
        refine Gx.norm (l' := [Hp.rec_ S [cv, ov, nowV (mo.map Om.b) a0, nowV (mo.map Om.b) a1, nowV (mo.map Om.b) (some k), nowV (mo.map Om.b) a3], Hp.own Fsd 3 cv (storeR cs i m.o.best), Hp.own FP 1 ov (mo.map Om.b), Hp.rec_ m.b [ptr m.b2 0, .int .i64 ((m.o.best.n : Nat) : Int), .int .i64 ((m.o.best.who : Nat) : Int), .int .i64 m.o.best.val, .bool m.o.sec, .int .u32 ((mk (m.o.seen ++ [i]) : Nat) : Int), .int .i64 ((m.o.many + 1 : Nat) : Int)], Hp.rec_ m.b2 [.int .i64 2, .int .i64 0, .bool m.o.wr, .int .i64 m.o.best.val, .int .i64 ((m.o.frm : Nat) : Int), .int .i64 ((mom : Nat) : Int)], R0, R]) rfl ?_
        refine Gx.eff0 rfl rfl (eff_store rfl Try.ty44 rfl rfl (us := [.pointer none]) rfl rfl rfl (k := 0) rfl (rfl) (vs' := [cv, ov, nowV (mo.map Om.b) a0, nowV (mo.map Om.b) a1, .pointer none, nowV (mo.map Om.b) a3]) (rfl) (l' := [Hp.rec_ S [cv, ov, nowV (mo.map Om.b) a0, nowV (mo.map Om.b) a1, .pointer none, nowV (mo.map Om.b) a3], Hp.own Fsd 3 cv (storeR cs i m.o.best), Hp.own FP 1 ov (mo.map Om.b), Hp.rec_ m.b [ptr m.b2 0, .int .i64 ((m.o.best.n : Nat) : Int), .int .i64 ((m.o.best.who : Nat) : Int), .int .i64 m.o.best.val, .bool m.o.sec, .int .u32 ((mk (m.o.seen ++ [i]) : Nat) : Int), .int .i64 ((m.o.many + 1 : Nat) : Int)], Hp.rec_ m.b2 [.int .i64 2, .int .i64 0, .bool m.o.wr, .int .i64 m.o.best.val, .int .i64 ((m.o.frm : Nat) : Int), .int .i64 ((mom : Nat) : Int)], R0, R]) rfl) ?_
        rintro _ _ rfl
        refine Gx.done ?_
        refine Gx.thenN ?_
        refine Gx.seq ?_
        refine Gx.region ?_
        refine Gx.val rfl rfl rfl (val_assign rfl rfl) ?_
        refine Gx.done ?_
        refine Gx.thenN ?_
        refine Gx.ret ?_
        refine Gx.thenR ?_
        have ht : ¬ 2 * (m.o.many + 1) ≤ cs.length := by omega
        have hO : (if 2 * (m.o.many + 1) ≤ cs.length then seeR cs i m.o else turnO (seeR cs i m.o) mom) = ⟨2, m.o.wr, m.o.best.val, m.o.frm, ((mom : Nat) : Int), m.o.best, m.o.sec, (m.o.seen ++ [i]), (m.o.many + 1)⟩ := by
          rw [if_neg ht]
          obtain ⟨b1, b2, ⟨o1, o2, o3, o4, o5, o6, o7, o8, o9⟩⟩ := m
          dsimp only at *
          subst hw
          simp only [seeR, turnO, hci, h1, (by simpa using h4), if_true, if_false, Bool.false_eq_true]
        have hC : (if m.o.sec = true then storeR cs i m.o.best else cs) = (storeR cs i m.o.best) := by rw [if_pos h1]
        have hN : (if 2 * (m.o.many + 1) ≤ cs.length then ([a0, a1, (some k), a3] : List (Option Nat)) else if m.o.sec = true then [a0, a1, none, a3] else [a0, a1, (some k), a3]) = [a0, a1, none, a3] := by rw [if_neg ht, if_pos h1]
        refine Gx.ret1 Try.results15 rfl ?_
        refine ⟨rfl, ?_⟩
        rw [hO, hC, hN]
        exact reg_shut (a0 := a0) (a1 := a1) (a2 := none) (a3 := a3) hk hb2 (⟨m.b, m.b2, ⟨2, m.o.wr, m.o.best.val, m.o.frm, ((mom : Nat) : Int), m.o.best, m.o.sec, (m.o.seen ++ [i]), (m.o.many + 1)⟩⟩ : Om) rfl
      · refine Gx.skip ?_
        refine Gx.thenN ?_
        refine Gx.seq ?_
        refine Gx.regionO (fun j => false) 11 [0, 1, 2, 3, 4, 5, 6, 7, 8, 9, 10] (fun _ => [Hp.rec_ S [cv, ov, nowV (mo.map Om.b) a0, nowV (mo.map Om.b) a1, nowV (mo.map Om.b) (some k), nowV (mo.map Om.b) a3], Hp.own Fsd 3 cv (storeR cs i m.o.best), Hp.own FP 1 ov (mo.map Om.b), Hp.rec_ m.b [ptr m.b2 0, .int .i64 ((m.o.best.n : Nat) : Int), .int .i64 ((m.o.best.who : Nat) : Int), .int .i64 m.o.best.val, .bool m.o.sec, .int .u32 ((mk (m.o.seen ++ [i]) : Nat) : Int), .int .i64 ((m.o.many + 1 : Nat) : Int)], Hp.rec_ m.b2 [.int .i64 2, .int .i64 0, .bool m.o.wr, .int .i64 m.o.val, .int .i64 ((m.o.frm : Nat) : Int), .int .i64 ((mom : Nat) : Int)], R0, R]) Try.mixed (by kernel_rfl) rfl ?_
        refine Gw.val rfl rfl rfl rfl rfl (fun us => val_move rfl rfl) ?_
        refine Gw.val rfl rfl rfl rfl rfl (fun us => val_move rfl rfl) ?_
        refine Gw.val rfl rfl rfl rfl rfl (fun us => val_nilCheck rfl rfl) ?_
        refine Gw.val rfl rfl rfl rfl rfl (fun us => Val.cast (val_fieldAddr rfl Try.underlying54 rfl Try.ty49 rfl rfl) (v' := ptr m.b 0) rfl) ?_
        refine Gw.val0 rfl rfl rfl (by kernel_rfl) rfl rfl (val_load rfl Try.ty49 rfl rfl (cell_rec (k := 3) rfl rfl)) ?_
        refine Gw.val rfl rfl rfl rfl rfl (fun us => val_nilCheck rfl rfl) ?_
        refine Gw.val rfl rfl rfl rfl rfl (fun us => Val.cast (val_fieldAddr rfl Try.underlying33 rfl Try.ty3 rfl rfl) (v' := ptr m.b2 0) rfl) ?_
        refine Gw.val0 rfl rfl rfl (by kernel_rfl) rfl rfl (val_load rfl Try.ty3 rfl rfl (cell_rec (k := 4) rfl rfl)) ?_
        refine Gw.val rfl rfl rfl rfl rfl (fun us => val_nilCheck rfl rfl) ?_
        refine Gw.val rfl rfl rfl rfl rfl (fun us => Val.cast (val_fieldAddr rfl Try.underlying47 rfl Try.ty45 rfl rfl) (v' := ptr S 2) rfl) ?_
        refine Gw.val rfl rfl rfl rfl rfl (fun us => Val.cast (val_ixaA rfl Try.underlying45 Try.ty44 rfl rfl (j := 2) (rfl) (by omega)) (v' := ptr S 4) rfl) ?_
        refine Gw.done ?_
        refine Gx.norm (l' := [Hp.rec_ S [cv, ov, nowV (mo.map Om.b) a0, nowV (mo.map Om.b) a1, nowV (mo.map Om.b) (some k), nowV (mo.map Om.b) a3], Hp.own Fsd 3 cv (storeR cs i m.o.best), Hp.own FP 1 ov (mo.map Om.b), Hp.rec_ m.b [ptr m.b2 0, .int .i64 ((m.o.best.n : Nat) : Int), .int .i64 ((m.o.best.who : Nat) : Int), .int .i64 m.o.best.val, .bool m.o.sec, .int .u32 ((mk (m.o.seen ++ [i]) : Nat) : Int), .int .i64 ((m.o.many + 1 : Nat) : Int)], Hp.rec_ m.b2 [.int .i64 2, .int .i64 0, .bool m.o.wr, .int .i64 m.o.val, .int .i64 ((m.o.frm : Nat) : Int), .int .i64 ((mom : Nat) : Int)], R0, R]) rfl ?_
        refine Gx.eff0 rfl rfl (eff_store rfl Try.ty44 rfl rfl (us := [.pointer none]) rfl rfl rfl (k := 0) rfl (rfl) (vs' := [cv, ov, nowV (mo.map Om.b) a0, nowV (mo.map Om.b) a1, .pointer none, nowV (mo.map Om.b) a3]) (rfl) (l' := [Hp.rec_ S [cv, ov, nowV (mo.map Om.b) a0, nowV (mo.map Om.b) a1, .pointer none, nowV (mo.map Om.b) a3], Hp.own Fsd 3 cv (storeR cs i m.o.best), Hp.own FP 1 ov (mo.map Om.b), Hp.rec_ m.b [ptr m.b2 0, .int .i64 ((m.o.best.n : Nat) : Int), .int .i64 ((m.o.best.who : Nat) : Int), .int .i64 m.o.best.val, .bool m.o.sec, .int .u32 ((mk (m.o.seen ++ [i]) : Nat) : Int), .int .i64 ((m.o.many + 1 : Nat) : Int)], Hp.rec_ m.b2 [.int .i64 2, .int .i64 0, .bool m.o.wr, .int .i64 m.o.val, .int .i64 ((m.o.frm : Nat) : Int), .int .i64 ((mom : Nat) : Int)], R0, R]) rfl) ?_
        rintro _ _ rfl
        refine Gx.done ?_
        refine Gx.thenN ?_
        refine Gx.seq ?_
        refine Gx.region ?_
        refine Gx.val rfl rfl rfl (val_assign rfl rfl) ?_
        refine Gx.done ?_
        refine Gx.thenN ?_
        refine Gx.ret ?_
        refine Gx.thenR ?_
        have ht : ¬ 2 * (m.o.many + 1) ≤ cs.length := by omega
        have hO : (if 2 * (m.o.many + 1) ≤ cs.length then seeR cs i m.o else turnO (seeR cs i m.o) mom) = ⟨2, m.o.wr, m.o.val, m.o.frm, ((mom : Nat) : Int), m.o.best, m.o.sec, (m.o.seen ++ [i]), (m.o.many + 1)⟩ := by
          rw [if_neg ht]
          obtain ⟨b1, b2, ⟨o1, o2, o3, o4, o5, o6, o7, o8, o9⟩⟩ := m
          dsimp only at *
          subst hw
          simp only [seeR, turnO, hci, h1, (by simpa using h4), if_true, if_false, Bool.false_eq_true]
        have hC : (if m.o.sec = true then storeR cs i m.o.best else cs) = (storeR cs i m.o.best) := by rw [if_pos h1]
        have hN : (if 2 * (m.o.many + 1) ≤ cs.length then ([a0, a1, (some k), a3] : List (Option Nat)) else if m.o.sec = true then [a0, a1, none, a3] else [a0, a1, (some k), a3]) = [a0, a1, none, a3] := by rw [if_neg ht, if_pos h1]
        refine Gx.ret1 Try.results15 rfl ?_
        refine ⟨rfl, ?_⟩
        rw [hO, hC, hN]
        exact reg_shut (a0 := a0) (a1 := a1) (a2 := none) (a3 := a3) hk hb2 (⟨m.b, m.b2, ⟨2, m.o.wr, m.o.val, m.o.frm, ((mom : Nat) : Int), m.o.best, m.o.sec, (m.o.seen ++ [i]), (m.o.many + 1)⟩⟩ : Om) rfl
  · refine Gx.seq ?_
    refine Gx.region ?_
    refine Gx.val rfl rfl rfl (val_move rfl rfl) ?_
    refine Gx.val rfl rfl rfl (val_nilCheck rfl rfl) ?_
    refine Gx.val rfl rfl rfl (Val.cast (val_fieldAddr rfl Try.underlying47 rfl Try.ty42 rfl rfl) (v' := ptr S 0) rfl) ?_
    refine Gx.val rfl rfl rfl (val_load rfl Try.ty42 rfl rfl (cell_rec (k := 0) rfl rfl)) ?_
    refine Gx.val rfl rfl rfl (val_move rfl rfl) ?_
    refine Gx.val rfl rfl rfl (val_ixa rfl Try.underlying42 Try.ty51 rfl rfl (j := i) (rfl) (reach_own (k := 1) rfl hci)) ?_
    refine Gx.val rfl rfl rfl (Val.cast (val_loadA rfl Try.ty51 rfl rfl rfl (cells_own (k := 1) rfl hci)) (v' := .agg #[.int .i64 ((c0.n : Nat) : Int), .int .i64 ((c0.who : Nat) : Int), .int .i64 c0.val]) rfl) ?_
    refine Gx.eff rfl rfl rfl (eff_alloc rfl Try.ty51 (vs := [.int .i64 0, .int .i64 0, .int .i64 0]) rfl) ?_
    rintro _ _ ⟨b5, rfl, rfl⟩
    refine Gx.eff0 rfl rfl (eff_store rfl Try.ty51 rfl rfl (us := [.int .i64 ((c0.n : Nat) : Int), .int .i64 ((c0.who : Nat) : Int), .int .i64 c0.val]) rfl rfl rfl (k := 0) rfl (rfl) (vs' := [.int .i64 ((c0.n : Nat) : Int), .int .i64 ((c0.who : Nat) : Int), .int .i64 c0.val]) (rfl) (l' := [Hp.rec_ b5 [.int .i64 ((c0.n : Nat) : Int), .int .i64 ((c0.who : Nat) : Int), .int .i64 c0.val], Hp.rec_ S [cv, ov, nowV (mo.map Om.b) a0, nowV (mo.map Om.b) a1, nowV (mo.map Om.b) (some k), nowV (mo.map Om.b) a3], Hp.own Fsd 3 cv cs, Hp.own FP 1 ov (mo.map Om.b), Hp.rec_ m.b [ptr m.b2 0, .int .i64 ((m.o.best.n : Nat) : Int), .int .i64 ((m.o.best.who : Nat) : Int), .int .i64 m.o.best.val, .bool m.o.sec, .int .u32 ((mk (m.o.seen ++ [i]) : Nat) : Int), .int .i64 ((m.o.many + 1 : Nat) : Int)], Hp.rec_ m.b2 [.int .i64 2, .int .i64 0, .bool m.o.wr, .int .i64 m.o.val, .int .i64 ((m.o.frm : Nat) : Int), .int .i64 m.o.to], R0, R]) rfl) ?_
    rintro _ _ rfl
    refine Gx.done ?_
    refine Gx.thenN ?_
    refine Gx.seq ?_
    refine Gx.regionQ Try.mixed (by kernel_rfl) ?_
    refine Gq.val rfl rfl rfl (Val.cast (val_loadA rfl Try.ty51 rfl rfl rfl (cells_rec (k := 0) rfl)) (v' := .agg #[.int .i64 ((c0.n : Nat) : Int), .int .i64 ((c0.who : Nat) : Int), .int .i64 c0.val]) rfl) ?_
    refine Gq.val rfl rfl rfl (val_move rfl rfl) ?_
    refine Gq.val rfl rfl rfl (val_nilCheck rfl rfl) ?_
    refine Gq.val rfl rfl rfl (Val.cast (val_fieldAddr rfl Try.underlying54 rfl Try.ty51 rfl rfl) (v' := ptr m.b 1) rfl) ?_
    refine Gq.val rfl rfl rfl (Val.cast (val_loadA rfl Try.ty51 rfl rfl (us := [.int .i64 ((m.o.best.n : Nat) : Int), .int .i64 ((m.o.best.who : Nat) : Int), .int .i64 m.o.best.val]) rfl (cells_rec_at (k := 4) (i := 1) (n := 3) rfl rfl)) (v' := .agg #[.int .i64 ((m.o.best.n : Nat) : Int), .int .i64 ((m.o.best.who : Nat) : Int), .int .i64 m.o.best.val]) rfl) ?_
    refine Gq.val rfl rfl rfl (val_call (vs := [.agg #[.int .i64 ((c0.n : Nat) : Int), .int .i64 ((c0.who : Nat) : Int), .int .i64 c0.val], .agg #[.int .i64 ((m.o.best.n : Nat) : Int), .int .i64 ((m.o.best.who : Nat) : Int), .int .i64 m.o.best.val]]) rfl Try.fn20 rfl (fun w H => later_any c0 m.o.best)) ?_
    refine Gq.done ?_
    refine Gx.thenN ?_
    refine Gx.bool rfl (fun h6 => ?_) (fun h6 => ?_)
    · refine Gx.region ?_
      refine Gx.val rfl rfl rfl (val_move rfl rfl) ?_
      refine Gx.val rfl rfl rfl (Val.cast (val_loadA rfl Try.ty51 rfl rfl rfl (cells_rec (k := 0) rfl)) (v' := .agg #[.int .i64 ((c0.n : Nat) : Int), .int .i64 ((c0.who : Nat) : Int), .int .i64 c0.val]) rfl) ?_
      refine Gx.val rfl rfl rfl (val_nilCheck rfl rfl) ?_
      refine Gx.val rfl rfl rfl (Val.cast (val_fieldAddr rfl Try.underlying54 rfl Try.ty51 rfl rfl) (v' := ptr m.b 1) rfl) ?_
      refine Gx.eff0 rfl rfl (eff_store rfl Try.ty51 rfl rfl (us := [.int .i64 ((c0.n : Nat) : Int), .int .i64 ((c0.who : Nat) : Int), .int .i64 c0.val]) rfl rfl rfl (k := 4) rfl (rfl) (vs' := [ptr m.b2 0, .int .i64 ((c0.n : Nat) : Int), .int .i64 ((c0.who : Nat) : Int), .int .i64 c0.val, .bool m.o.sec, .int .u32 ((mk (m.o.seen ++ [i]) : Nat) : Int), .int .i64 ((m.o.many + 1 : Nat) : Int)]) (rfl) (l' := [Hp.rec_ b5 [.int .i64 ((c0.n : Nat) : Int), .int .i64 ((c0.who : Nat) : Int), .int .i64 c0.val], Hp.rec_ S [cv, ov, nowV (mo.map Om.b) a0, nowV (mo.map Om.b) a1, nowV (mo.map Om.b) (some k), nowV (mo.map Om.b) a3], Hp.own Fsd 3 cv cs, Hp.own FP 1 ov (mo.map Om.b), Hp.rec_ m.b [ptr m.b2 0, .int .i64 ((c0.n : Nat) : Int), .int .i64 ((c0.who : Nat) : Int), .int .i64 c0.val, .bool m.o.sec, .int .u32 ((mk (m.o.seen ++ [i]) : Nat) : Int), .int .i64 ((m.o.many + 1 : Nat) : Int)], Hp.rec_ m.b2 [.int .i64 2, .int .i64 0, .bool m.o.wr, .int .i64 m.o.val, .int .i64 ((m.o.frm : Nat) : Int), .int .i64 m.o.to], R0, R]) rfl) ?_
      rintro _ _ rfl
      refine Gx.done ?_
      refine Gx.thenN ?_
      refine Gx.seq ?_
      refine Gx.seq ?_
      refine Gx.regionQ Try.mixed (by kernel_rfl) ?_
      refine Gq.val rfl rfl rfl (val_move rfl rfl) ?_
      refine Gq.val rfl rfl rfl (val_nilCheck rfl rfl) ?_
      refine Gq.val rfl rfl rfl (Val.cast (val_fieldAddr rfl Try.underlying54 rfl Try.ty3 rfl rfl) (v' := ptr m.b 6) rfl) ?_
      refine Gq.val rfl rfl rfl (val_load rfl Try.ty3 rfl rfl (cell_rec (k := 4) rfl rfl)) ?_
      refine Gq.val rfl rfl rfl (val_mul rfl rfl rfl (r := ((2 * (m.o.many + 1) : Nat) : Int)) (w64 (by omega) (by omega))) ?_
      refine Gq.val rfl rfl rfl (val_move rfl rfl) ?_
      refine Gq.val rfl rfl rfl (val_nilCheck rfl rfl) ?_
      refine Gq.val rfl rfl rfl (Val.cast (val_fieldAddr rfl Try.underlying47 rfl Try.ty42 rfl rfl) (v' := ptr S 0) rfl) ?_
      refine Gq.val rfl rfl rfl (val_load rfl Try.ty42 rfl rfl (cell_rec (k := 1) rfl rfl)) ?_
      refine Gq.val rfl rfl rfl (val_len rfl Try.underlying42 rfl (len_own (k := 2) rfl)) ?_
      refine Gq.val rfl rfl rfl (val_leq rfl rfl rfl) ?_
      refine Gq.done ?_
      refine Gx.thenN ?_
      refine Gx.dec rfl (fun h7 => ?_) (fun h7 => ?_)
      · refine Gx.seq ?_
        refine Gx.region ?_
        refine Gx.val rfl rfl rfl (val_assign rfl rfl) ?_
        refine Gx.done ?_
        refine Gx.thenN ?_
        refine Gx.ret ?_
        refine Gx.thenR ?_
        refine Gx.drop 0 rfl ?_
        have ht : 2 * (m.o.many + 1) ≤ cs.length := by omega
        have hO : (if 2 * (m.o.many + 1) ≤ cs.length then seeR cs i m.o else turnO (seeR cs i m.o) mom) = ⟨2, m.o.wr, m.o.val, m.o.frm, m.o.to, c0, m.o.sec, (m.o.seen ++ [i]), (m.o.many + 1)⟩ := by
          rw [if_pos ht]
          obtain ⟨b1, b2, ⟨o1, o2, o3, o4, o5, o6, o7, o8, o9⟩⟩ := m
          dsimp only at *
          subst hw
          simp only [seeR, turnO, hci, h1, h6, if_true, if_false, Bool.false_eq_true]
        have hC : (if m.o.sec = true then storeR cs i m.o.best else cs) = cs := by rw [if_neg (by rw [h1]; decide)]
        have hN : (if 2 * (m.o.many + 1) ≤ cs.length then ([a0, a1, (some k), a3] : List (Option Nat)) else if m.o.sec = true then [a0, a1, none, a3] else [a0, a1, (some k), a3]) = [a0, a1, (some k), a3] := by rw [if_pos ht]
        refine Gx.ret1 Try.results15 rfl ?_
        refine ⟨rfl, ?_⟩
        rw [hO, hC, hN]
        exact reg_shut (a0 := a0) (a1 := a1) (a2 := (some k)) (a3 := a3) hk hb2 (⟨m.b, m.b2, ⟨2, m.o.wr, m.o.val, m.o.frm, m.o.to, c0, m.o.sec, (m.o.seen ++ [i]), (m.o.many + 1)⟩⟩ : Om) rfl
      · refine Gx.skip ?_
        refine Gx.thenN ?_
        refine Gx.seq ?_
        refine Gx.seq ?_
        refine Gx.region ?_
        refine Gx.val rfl rfl rfl (val_move rfl rfl) ?_
        refine Gx.val rfl rfl rfl (val_nilCheck rfl rfl) ?_
        refine Gx.val rfl rfl rfl (Val.cast (val_fieldAddr rfl Try.underlying54 rfl Try.ty4 rfl rfl) (v' := ptr m.b 4) rfl) ?_
        refine Gx.val rfl rfl rfl (val_load rfl Try.ty4 rfl rfl (cell_rec (k := 4) rfl rfl)) ?_
        refine Gx.done ?_
        refine Gx.thenN ?_
        refine Gx.boolF rfl (h1) ?_
        refine Gx.skip ?_
        refine Gx.thenN ?_
        refine Gx.seq ?_
        refine Gx.region ?_
        refine Gx.val rfl rfl rfl (val_move rfl rfl) ?_
        refine Gx.val rfl rfl rfl (val_move rfl rfl) ?_
        refine Gx.val rfl rfl rfl (val_move rfl rfl) ?_
        refine Gx.val rfl rfl rfl (val_nilCheck rfl rfl) ?_
        refine Gx.val rfl rfl rfl (Val.cast (val_fieldAddr rfl Try.underlying54 rfl Try.ty4 rfl rfl) (v' := ptr m.b 4) rfl) ?_
        refine Gx.eff0 rfl rfl (eff_store rfl Try.ty4 rfl rfl (us := [.bool true]) rfl rfl rfl (k := 4) rfl (rfl) (vs' := [ptr m.b2 0, .int .i64 ((c0.n : Nat) : Int), .int .i64 ((c0.who : Nat) : Int), .int .i64 c0.val, .bool true, .int .u32 ((mk (m.o.seen ++ [i]) : Nat) : Int), .int .i64 ((m.o.many + 1 : Nat) : Int)]) (rfl) (l' := [Hp.rec_ b5 [.int .i64 ((c0.n : Nat) : Int), .int .i64 ((c0.who : Nat) : Int), .int .i64 c0.val], Hp.rec_ S [cv, ov, nowV (mo.map Om.b) a0, nowV (mo.map Om.b) a1, nowV (mo.map Om.b) (some k), nowV (mo.map Om.b) a3], Hp.own Fsd 3 cv cs, Hp.own FP 1 ov (mo.map Om.b), Hp.rec_ m.b [ptr m.b2 0, .int .i64 ((c0.n : Nat) : Int), .int .i64 ((c0.who : Nat) : Int), .int .i64 c0.val, .bool true, .int .u32 ((mk (m.o.seen ++ [i]) : Nat) : Int), .int .i64 ((m.o.many + 1 : Nat) : Int)], Hp.rec_ m.b2 [.int .i64 2, .int .i64 0, .bool m.o.wr, .int .i64 m.o.val, .int .i64 ((m.o.frm : Nat) : Int), .int .i64 m.o.to], R0, R]) rfl) ?_
        rintro _ _ rfl
        refine Gx.val rfl rfl rfl (val_nilCheck rfl rfl) ?_
        refine Gx.val rfl rfl rfl (Val.cast (val_fieldAddr rfl Try.underlying54 rfl Try.ty52 rfl rfl) (v' := ptr m.b 5) rfl) ?_
        refine Gx.eff0 rfl rfl (eff_store rfl Try.ty52 rfl rfl (us := [.int .u32 0]) rfl rfl rfl (k := 4) rfl (rfl) (vs' := [ptr m.b2 0, .int .i64 ((c0.n : Nat) : Int), .int .i64 ((c0.who : Nat) : Int), .int .i64 c0.val, .bool true, .int .u32 0, .int .i64 ((m.o.many + 1 : Nat) : Int)]) (rfl) (l' := [Hp.rec_ b5 [.int .i64 ((c0.n : Nat) : Int), .int .i64 ((c0.who : Nat) : Int), .int .i64 c0.val], Hp.rec_ S [cv, ov, nowV (mo.map Om.b) a0, nowV (mo.map Om.b) a1, nowV (mo.map Om.b) (some k), nowV (mo.map Om.b) a3], Hp.own Fsd 3 cv cs, Hp.own FP 1 ov (mo.map Om.b), Hp.rec_ m.b [ptr m.b2 0, .int .i64 ((c0.n : Nat) : Int), .int .i64 ((c0.who : Nat) : Int), .int .i64 c0.val, .bool true, .int .u32 0, .int .i64 ((m.o.many + 1 : Nat) : Int)], Hp.rec_ m.b2 [.int .i64 2, .int .i64 0, .bool m.o.wr, .int .i64 m.o.val, .int .i64 ((m.o.frm : Nat) : Int), .int .i64 m.o.to], R0, R]) rfl) ?_
        rintro _ _ rfl
        refine Gx.val rfl rfl rfl (val_nilCheck rfl rfl) ?_
        refine Gx.val rfl rfl rfl (Val.cast (val_fieldAddr rfl Try.underlying54 rfl Try.ty3 rfl rfl) (v' := ptr m.b 6) rfl) ?_
        refine Gx.eff0 rfl rfl (eff_store rfl Try.ty3 rfl rfl (us := [.int .i64 0]) rfl rfl rfl (k := 4) rfl (rfl) (vs' := [ptr m.b2 0, .int .i64 ((c0.n : Nat) : Int), .int .i64 ((c0.who : Nat) : Int), .int .i64 c0.val, .bool true, .int .u32 0, .int .i64 0]) (rfl) (l' := [Hp.rec_ b5 [.int .i64 ((c0.n : Nat) : Int), .int .i64 ((c0.who : Nat) : Int), .int .i64 c0.val], Hp.rec_ S [cv, ov, nowV (mo.map Om.b) a0, nowV (mo.map Om.b) a1, nowV (mo.map Om.b) (some k), nowV (mo.map Om.b) a3], Hp.own Fsd 3 cv cs, Hp.own FP 1 ov (mo.map Om.b), Hp.rec_ m.b [ptr m.b2 0, .int .i64 ((c0.n : Nat) : Int), .int .i64 ((c0.who : Nat) : Int), .int .i64 c0.val, .bool true, .int .u32 0, .int .i64 0], Hp.rec_ m.b2 [.int .i64 2, .int .i64 0, .bool m.o.wr, .int .i64 m.o.val, .int .i64 ((m.o.frm : Nat) : Int), .int .i64 m.o.to], R0, R]) rfl) ?_
        rintro _ _ rfl
        refine Gx.done ?_
        refine Gx.thenN ?_
        refine Gx.seq ?_
        refine Gx.seq ?_
        refine Gx.region ?_
        refine Gx.val rfl rfl rfl (val_move rfl rfl) ?_
        refine Gx.val rfl rfl rfl (val_nilCheck rfl rfl) ?_
        refine Gx.val rfl rfl rfl (Val.cast (val_fieldAddr rfl Try.underlying54 rfl Try.ty49 rfl rfl) (v' := ptr m.b 0) rfl) ?_
        refine Gx.val rfl rfl rfl (val_load rfl Try.ty49 rfl rfl (cell_rec (k := 4) rfl rfl)) ?_
        refine Gx.val rfl rfl rfl (val_nilCheck rfl rfl) ?_
        refine Gx.val rfl rfl rfl (Val.cast (val_fieldAddr rfl Try.underlying33 rfl Try.ty4 rfl rfl) (v' := ptr m.b2 2) rfl) ?_
        refine Gx.val rfl rfl rfl (val_load rfl Try.ty4 rfl rfl (cell_rec (k := 5) rfl rfl)) ?_
        refine Gx.done ?_
        refine Gx.thenN ?_
        refine Gx.bool rfl (fun h8 => ?_) (fun h8 => ?_)
        · refine Gx.regionO (fun j => false) 24 [0, 1, 2, 3, 4, 5, 6, 7, 8, 9, 10, 11, 12, 13, 14, 15, 16, 17, 18, 19, 20, 21, 22, 23] (fun _ => [Hp.rec_ b5 [.int .i64 ((c0.n : Nat) : Int), .int .i64 ((c0.who : Nat) : Int), .int .i64 c0.val], Hp.rec_ S [cv, ov, nowV (mo.map Om.b) a0, nowV (mo.map Om.b) a1, nowV (mo.map Om.b) (some k), nowV (mo.map Om.b) a3], Hp.own Fsd 3 cv cs, Hp.own FP 1 ov (mo.map Om.b), Hp.rec_ m.b [ptr m.b2 0, .int .i64 ((c0.n : Nat) : Int), .int .i64 ((c0.who : Nat) : Int), .int .i64 c0.val, .bool true, .int .u32 0, .int .i64 0], Hp.rec_ m.b2 [.int .i64 2, .int .i64 0, .bool m.o.wr, .int .i64 m.o.val, .int .i64 ((m.o.frm : Nat) : Int), .int .i64 m.o.to], R0, R]) Try.mixed (by kernel_rfl) rfl ?_
          refine Gw.val rfl rfl rfl rfl rfl (fun us => val_move rfl rfl) ?_
          refine Gw.val rfl rfl rfl rfl rfl (fun us => val_move rfl rfl) ?_
          refine Gw.val rfl rfl rfl rfl rfl (fun us => val_nilCheck rfl rfl) ?_
          refine Gw.val rfl rfl rfl rfl rfl (fun us => Val.cast (val_fieldAddr rfl Try.underlying54 rfl Try.ty51 rfl rfl) (v' := ptr m.b 1) rfl) ?_
          refine Gw.val rfl rfl rfl rfl rfl (fun us => Val.cast (val_fieldAddr rfl Try.underlying51 rfl Try.ty3 rfl rfl) (v' := ptr m.b 1) rfl) ?_
          refine Gw.val0 rfl rfl rfl (by kernel_rfl) rfl rfl (val_load rfl Try.ty3 rfl rfl (cell_rec (k := 4) rfl rfl)) ?_
          refine Gw.val rfl rfl rfl rfl rfl (fun us => val_add rfl rfl rfl (r := ((c0.n + 1 : Nat) : Int)) (w64 (by omega) (by omega))) ?_
          refine Gw.val rfl rfl rfl rfl rfl (fun us => val_move rfl rfl) ?_
          refine Gw.val rfl rfl rfl rfl rfl (fun us => val_nilCheck rfl rfl) ?_
          refine Gw.val rfl rfl rfl rfl rfl (fun us => Val.cast (val_fieldAddr rfl Try.underlying54 rfl Try.ty49 rfl rfl) (v' := ptr m.b 0) rfl) ?_
          refine Gw.val0 rfl rfl rfl (by kernel_rfl) rfl rfl (val_load rfl Try.ty49 rfl rfl (cell_rec (k := 4) rfl rfl)) ?_
          refine Gw.val rfl rfl rfl rfl rfl (fun us => val_nilCheck rfl rfl) ?_
          refine Gw.val rfl rfl rfl rfl rfl (fun us => Val.cast (val_fieldAddr rfl Try.underlying33 rfl Try.ty3 rfl rfl) (v' := ptr m.b2 0) rfl) ?_
          refine Gw.val0 rfl rfl rfl (by kernel_rfl) rfl rfl (val_load rfl Try.ty3 rfl rfl (cell_rec (k := 5) rfl rfl)) ?_
          refine Gw.val rfl rfl rfl rfl rfl (fun us => val_move rfl rfl) ?_
          refine Gw.val rfl rfl rfl rfl rfl (fun us => val_nilCheck rfl rfl) ?_
          refine Gw.val rfl rfl rfl rfl rfl (fun us => Val.cast (val_fieldAddr rfl Try.underlying54 rfl Try.ty49 rfl rfl) (v' := ptr m.b 0) rfl) ?_
          refine Gw.val0 rfl rfl rfl (by kernel_rfl) rfl rfl (val_load rfl Try.ty49 rfl rfl (cell_rec (k := 4) rfl rfl)) ?_
          refine Gw.val rfl rfl rfl rfl rfl (fun us => val_nilCheck rfl rfl) ?_
          refine Gw.val rfl rfl rfl rfl rfl (fun us => Val.cast (val_fieldAddr rfl Try.underlying33 rfl Try.ty2 rfl rfl) (v' := ptr m.b2 3) rfl) ?_
          refine Gw.val0 rfl rfl rfl (by kernel_rfl) rfl rfl (val_load rfl Try.ty2 rfl rfl (cell_rec (k := 5) rfl rfl)) ?_
          refine Gw.val rfl rfl rfl rfl rfl (fun us => val_build rfl (qs := [(0, .int .i64 ((c0.n + 1 : Nat) : Int)), (1, .int .i64 2), (2, .int .i64 m.o.val)]) rfl rfl (fun w => by go_simp) (v := .agg #[.int .i64 ((c0.n + 1 : Nat) : Int), .int .i64 2, .int .i64 m.o.val])) ?_
          refine Gw.val rfl rfl rfl rfl rfl (fun us => val_nilCheck rfl rfl) ?_
          refine Gw.val rfl rfl rfl rfl rfl (fun us => Val.cast (val_fieldAddr rfl Try.underlying54 rfl Try.ty51 rfl rfl) (v' := ptr m.b 1) rfl) ?_
          refine Gw.done ?_
          refine Gx.norm (l' := [Hp.rec_ b5 [.int .i64 ((c0.n : Nat) : Int), .int .i64 ((c0.who : Nat) : Int), .int .i64 c0.val], Hp.rec_ S [cv, ov, nowV (mo.map Om.b) a0, nowV (mo.map Om.b) a1, nowV (mo.map Om.b) (some k), nowV (mo.map Om.b) a3], Hp.own Fsd 3 cv cs, Hp.own FP 1 ov (mo.map Om.b), Hp.rec_ m.b [ptr m.b2 0, .int .i64 ((c0.n : Nat) : Int), .int .i64 ((c0.who : Nat) : Int), .int .i64 c0.val, .bool true, .int .u32 0, .int .i64 0], Hp.rec_ m.b2 [.int .i64 2, .int .i64 0, .bool m.o.wr, .int .i64 m.o.val, .int .i64 ((m.o.frm : Nat) : Int), .int .i64 m.o.to], R0, R]) rfl ?_
          refine Gx.eff0 rfl rfl (eff_store rfl Try.ty51 rfl rfl (us := [.int .i64 ((c0.n + 1 : Nat) : Int), .int .i64 2, .int .i64 m.o.val]) rfl rfl rfl (k := 4) rfl (rfl) (vs' := [ptr m.b2 0, .int .i64 ((c0.n + 1 : Nat) : Int), .int .i64 2, .int .i64 m.o.val, .bool true, .int .u32 0, .int .i64 0]) (rfl) (l' := [Hp.rec_ b5 [.int .i64 ((c0.n : Nat) : Int), .int .i64 ((c0.who : Nat) : Int), .int .i64 c0.val], Hp.rec_ S [cv, ov, nowV (mo.map Om.b) a0, nowV (mo.map Om.b) a1, nowV (mo.map Om.b) (some k), nowV (mo.map Om.b) a3], Hp.own Fsd 3 cv cs, Hp.own FP 1 ov (mo.map Om.b), Hp.rec_ m.b [ptr m.b2 0, .int .i64 ((c0.n + 1 : Nat) : Int), .int .i64 2, .int .i64 m.o.val, .bool true, .int .u32 0, .int .i64 0], Hp.rec_ m.b2 [.int .i64 2, .int .i64 0, .bool m.o.wr, .int .i64 m.o.val, .int .i64 ((m.o.frm : Nat) : Int), .int .i64 m.o.to], R0, R]) rfl) ?_
          rintro _ _ rfl
          refine Gx.done ?_
          refine Gx.thenN ?_
          refine Gx.seq ?_
          refine Gx.region ?_
          refine Gx.val rfl rfl rfl (val_assign rfl rfl) ?_
          refine Gx.done ?_
          refine Gx.thenN ?_
          refine Gx.ret ?_
          refine Gx.drop 0 rfl ?_
          have ht : ¬ 2 * (m.o.many + 1) ≤ cs.length := by omega
          have hO : (if 2 * (m.o.many + 1) ≤ cs.length then seeR cs i m.o else turnO (seeR cs i m.o) mom) = ⟨2, m.o.wr, m.o.val, m.o.frm, m.o.to, ⟨c0.n + 1, 2, m.o.val⟩, true, [], 0⟩ := by
            rw [if_neg ht]
            obtain ⟨b1, b2, ⟨o1, o2, o3, o4, o5, o6, o7, o8, o9⟩⟩ := m
            dsimp only at *
            subst hw
            simp only [seeR, turnO, hci, h1, h6, h8, if_true, if_false, Bool.false_eq_true]
          have hC : (if m.o.sec = true then storeR cs i m.o.best else cs) = cs := by rw [if_neg (by rw [h1]; decide)]
          have hN : (if 2 * (m.o.many + 1) ≤ cs.length then ([a0, a1, (some k), a3] : List (Option Nat)) else if m.o.sec = true then [a0, a1, none, a3] else [a0, a1, (some k), a3]) = [a0, a1, (some k), a3] := by rw [if_neg ht, if_neg (by rw [h1]; decide)]
          refine Gx.ret1 Try.results15 rfl ?_
          refine ⟨rfl, ?_⟩
          rw [hO, hC, hN]
          exact reg_shut (a0 := a0) (a1 := a1) (a2 := (some k)) (a3 := a3) hk hb2 (⟨m.b, m.b2, ⟨2, m.o.wr, m.o.val, m.o.frm, m.o.to, ⟨c0.n + 1, 2, m.o.val⟩, true, [], 0⟩⟩ : Om) rfl
        · refine Gx.skip ?_
          refine Gx.thenN ?_
          refine Gx.seq ?_
          refine Gx.region ?_
          refine Gx.val rfl rfl rfl (val_assign rfl rfl) ?_
          refine Gx.done ?_
          refine Gx.thenN ?_
          refine Gx.ret ?_
          refine Gx.drop 0 rfl ?_
          have ht : ¬ 2 * (m.o.many + 1) ≤ cs.length := by omega
          have hO : (if 2 * (m.o.many + 1) ≤ cs.length then seeR cs i m.o else turnO (seeR cs i m.o) mom) = ⟨2, m.o.wr, m.o.val, m.o.frm, m.o.to, c0, true, [], 0⟩ := by
            rw [if_neg ht]
            obtain ⟨b1, b2, ⟨o1, o2, o3, o4, o5, o6, o7, o8, o9⟩⟩ := m
            dsimp only at *
            subst hw
            simp only [seeR, turnO, hci, h1, h6, h8, if_true, if_false, Bool.false_eq_true]
          have hC : (if m.o.sec = true then storeR cs i m.o.best else cs) = cs := by rw [if_neg (by rw [h1]; decide)]
          have hN : (if 2 * (m.o.many + 1) ≤ cs.length then ([a0, a1, (some k), a3] : List (Option Nat)) else if m.o.sec = true then [a0, a1, none, a3] else [a0, a1, (some k), a3]) = [a0, a1, (some k), a3] := by rw [if_neg ht, if_neg (by rw [h1]; decide)]
          refine Gx.ret1 Try.results15 rfl ?_
          refine ⟨rfl, ?_⟩
          rw [hO, hC, hN]
          exact reg_shut (a0 := a0) (a1 := a1) (a2 := (some k)) (a3 := a3) hk hb2 (⟨m.b, m.b2, ⟨2, m.o.wr, m.o.val, m.o.frm, m.o.to, c0, true, [], 0⟩⟩ : Om) rfl
    · refine Gx.skip ?_
      refine Gx.thenN ?_
      refine Gx.seq ?_
      refine Gx.seq ?_
      refine Gx.regionQ Try.mixed (by kernel_rfl) ?_
      refine Gq.val rfl rfl rfl (val_move rfl rfl) ?_
      refine Gq.val rfl rfl rfl (val_nilCheck rfl rfl) ?_
      refine Gq.val rfl rfl rfl (Val.cast (val_fieldAddr rfl Try.underlying54 rfl Try.ty3 rfl rfl) (v' := ptr m.b 6) rfl) ?_
      refine Gq.val rfl rfl rfl (val_load rfl Try.ty3 rfl rfl (cell_rec (k := 4) rfl rfl)) ?_
      refine Gq.val rfl rfl rfl (val_mul rfl rfl rfl (r := ((2 * (m.o.many + 1) : Nat) : Int)) (w64 (by omega) (by omega))) ?_
      refine Gq.val rfl rfl rfl (val_move rfl rfl) ?_
      refine Gq.val rfl rfl rfl (val_nilCheck rfl rfl) ?_
      refine Gq.val rfl rfl rfl (Val.cast (val_fieldAddr rfl Try.underlying47 rfl Try.ty42 rfl rfl) (v' := ptr S 0) rfl) ?_
      refine Gq.val rfl rfl rfl (val_load rfl Try.ty42 rfl rfl (cell_rec (k := 1) rfl rfl)) ?_
      refine Gq.val rfl rfl rfl (val_len rfl Try.underlying42 rfl (len_own (k := 2) rfl)) ?_
      refine Gq.val rfl rfl rfl (val_leq rfl rfl rfl) ?_
      refine Gq.done ?_
      refine Gx.thenN ?_
      refine Gx.dec rfl (fun h9 => ?_) (fun h9 => ?_)
      · refine Gx.seq ?_
        refine Gx.region ?_
        refine Gx.val rfl rfl rfl (val_assign rfl rfl) ?_
        refine Gx.done ?_
        refine Gx.thenN ?_
        refine Gx.ret ?_
        refine Gx.thenR ?_
        refine Gx.drop 0 rfl ?_
        have ht : 2 * (m.o.many + 1) ≤ cs.length := by omega
        have hO : (if 2 * (m.o.many + 1) ≤ cs.length then seeR cs i m.o else turnO (seeR cs i m.o) mom) = ⟨2, m.o.wr, m.o.val, m.o.frm, m.o.to, m.o.best, m.o.sec, (m.o.seen ++ [i]), (m.o.many + 1)⟩ := by
          rw [if_pos ht]
          obtain ⟨b1, b2, ⟨o1, o2, o3, o4, o5, o6, o7, o8, o9⟩⟩ := m
          dsimp only at *
          subst hw
          simp only [seeR, turnO, hci, h1, h6, if_true, if_false, Bool.false_eq_true]
        have hC : (if m.o.sec = true then storeR cs i m.o.best else cs) = cs := by rw [if_neg (by rw [h1]; decide)]
        have hN : (if 2 * (m.o.many + 1) ≤ cs.length then ([a0, a1, (some k), a3] : List (Option Nat)) else if m.o.sec = true then [a0, a1, none, a3] else [a0, a1, (some k), a3]) = [a0, a1, (some k), a3] := by rw [if_pos ht]
        refine Gx.ret1 Try.results15 rfl ?_
        refine ⟨rfl, ?_⟩
        rw [hO, hC, hN]
        exact reg_shut (a0 := a0) (a1 := a1) (a2 := (some k)) (a3 := a3) hk hb2 (⟨m.b, m.b2, ⟨2, m.o.wr, m.o.val, m.o.frm, m.o.to, m.o.best, m.o.sec, (m.o.seen ++ [i]), (m.o.many + 1)⟩⟩ : Om) rfl
      · refine Gx.skip ?_
        refine Gx.thenN ?_
        refine Gx.seq ?_
        refine Gx.seq ?_
        refine Gx.region ?_
        refine Gx.val rfl rfl rfl (val_move rfl rfl) ?_
        refine Gx.val rfl rfl rfl (val_nilCheck rfl rfl) ?_
        refine Gx.val rfl rfl rfl (Val.cast (val_fieldAddr rfl Try.underlying54 rfl Try.ty4 rfl rfl) (v' := ptr m.b 4) rfl) ?_
        refine Gx.val rfl rfl rfl (val_load rfl Try.ty4 rfl rfl (cell_rec (k := 4) rfl rfl)) ?_
        refine Gx.done ?_
        refine Gx.thenN ?_
        refine Gx.boolF rfl (h1) ?_
        refine Gx.skip ?_
        refine Gx.thenN ?_
        refine Gx.seq ?_
        refine Gx.region ?_
        refine Gx.val rfl rfl rfl (val_move rfl rfl) ?_
        refine Gx.val rfl rfl rfl (val_move rfl rfl) ?_
        refine Gx.val rfl rfl rfl (val_move rfl rfl) ?_
        refine Gx.val rfl rfl rfl (val_nilCheck rfl rfl) ?_
        refine Gx.val rfl rfl rfl (Val.cast (val_fieldAddr rfl Try.underlying54 rfl Try.ty4 rfl rfl) (v' := ptr m.b 4) rfl) ?_
        refine Gx.eff0 rfl rfl (eff_store rfl Try.ty4 rfl rfl (us := [.bool true]) rfl rfl rfl (k := 4) rfl (rfl) (vs' := [ptr m.b2 0, .int .i64 ((m.o.best.n : Nat) : Int), .int .i64 ((m.o.best.who : Nat) : Int), .int .i64 m.o.best.val, .bool true, .int .u32 ((mk (m.o.seen ++ [i]) : Nat) : Int), .int .i64 ((m.o.many + 1 : Nat) : Int)]) (rfl) (l' := [Hp.rec_ b5 [.int .i64 ((c0.n : Nat) : Int), .int .i64 ((c0.who : Nat) : Int), .int .i64 c0.val], Hp.rec_ S [cv, ov, nowV (mo.map Om.b) a0, nowV (mo.map Om.b) a1, nowV (mo.map Om.b) (some k), nowV (mo.map Om.b) a3], Hp.own Fsd 3 cv cs, Hp.own FP 1 ov (mo.map Om.b), Hp.rec_ m.b [ptr m.b2 0, .int .i64 ((m.o.best.n : Nat) : Int), .int .i64 ((m.o.best.who : Nat) : Int), .int .i64 m.o.best.val, .bool true, .int .u32 ((mk (m.o.seen ++ [i]) : Nat) : Int), .int .i64 ((m.o.many + 1 : Nat) : Int)], Hp.rec_ m.b2 [.int .i64 2, .int .i64 0, .bool m.o.wr, .int .i64 m.o.val, .int .i64 ((m.o.frm : Nat) : Int), .int .i64 m.o.to], R0, R]) rfl) ?_
        rintro _ _ rfl
        refine Gx.val rfl rfl rfl (val_nilCheck rfl rfl) ?_
        refine Gx.val rfl rfl rfl (Val.cast (val_fieldAddr rfl Try.underlying54 rfl Try.ty52 rfl rfl) (v' := ptr m.b 5) rfl) ?_
        refine Gx.eff0 rfl rfl (eff_store rfl Try.ty52 rfl rfl (us := [.int .u32 0]) rfl rfl rfl (k := 4) rfl (rfl) (vs' := [ptr m.b2 0, .int .i64 ((m.o.best.n : Nat) : Int), .int .i64 ((m.o.best.who : Nat) : Int), .int .i64 m.o.best.val, .bool true, .int .u32 0, .int .i64 ((m.o.many + 1 : Nat) : Int)]) (rfl) (l' := [Hp.rec_ b5 [.int .i64 ((c0.n : Nat) : Int), .int .i64 ((c0.who : Nat) : Int), .int .i64 c0.val], Hp.rec_ S [cv, ov, nowV (mo.map Om.b) a0, nowV (mo.map Om.b) a1, nowV (mo.map Om.b) (some k), nowV (mo.map Om.b) a3], Hp.own Fsd 3 cv cs, Hp.own FP 1 ov (mo.map Om.b), Hp.rec_ m.b [ptr m.b2 0, .int .i64 ((m.o.best.n : Nat) : Int), .int .i64 ((m.o.best.who : Nat) : Int), .int .i64 m.o.best.val, .bool true, .int .u32 0, .int .i64 ((m.o.many + 1 : Nat) : Int)], Hp.rec_ m.b2 [.int .i64 2, .int .i64 0, .bool m.o.wr, .int .i64 m.o.val, .int .i64 ((m.o.frm : Nat) : Int), .int .i64 m.o.to], R0, R]) rfl) ?_
        rintro _ _ rfl
        refine Gx.val rfl rfl rfl (val_nilCheck rfl rfl) ?_
        refine Gx.val rfl rfl rfl (Val.cast (val_fieldAddr rfl Try.underlying54 rfl Try.ty3 rfl rfl) (v' := ptr m.b 6) rfl) ?_
        refine Gx.eff0 rfl rfl (eff_store rfl Try.ty3 rfl rfl (us := [.int .i64 0]) rfl rfl rfl (k := 4) rfl (rfl) (vs' := [ptr m.b2 0, .int .i64 ((m.o.best.n : Nat) : Int), .int .i64 ((m.o.best.who : Nat) : Int), .int .i64 m.o.best.val, .bool true, .int .u32 0, .int .i64 0]) (rfl) (l' := [Hp.rec_ b5 [.int .i64 ((c0.n : Nat) : Int), .int .i64 ((c0.who : Nat) : Int), .int .i64 c0.val], Hp.rec_ S [cv, ov, nowV (mo.map Om.b) a0, nowV (mo.map Om.b) a1, nowV (mo.map Om.b) (some k), nowV (mo.map Om.b) a3], Hp.own Fsd 3 cv cs, Hp.own FP 1 ov (mo.map Om.b), Hp.rec_ m.b [ptr m.b2 0, .int .i64 ((m.o.best.n : Nat) : Int), .int .i64 ((m.o.best.who : Nat) : Int), .int .i64 m.o.best.val, .bool true, .int .u32 0, .int .i64 0], Hp.rec_ m.b2 [.int .i64 2, .int .i64 0, .bool m.o.wr, .int .i64 m.o.val, .int .i64 ((m.o.frm : Nat) : Int), .int .i64 m.o.to], R0, R]) rfl) ?_
        rintro _ _ rfl
        refine Gx.done ?_
        refine Gx.thenN ?_
        refine Gx.seq ?_
        refine Gx.seq ?_
        refine Gx.region ?_
        refine Gx.val rfl rfl rfl (val_move rfl rfl) ?_
        refine Gx.val rfl rfl rfl (val_nilCheck rfl rfl) ?_
        refine Gx.val rfl rfl rfl (Val.cast (val_fieldAddr rfl Try.underlying54 rfl Try.ty49 rfl rfl) (v' := ptr m.b 0) rfl) ?_
        refine Gx.val rfl rfl rfl (val_load rfl Try.ty49 rfl rfl (cell_rec (k := 4) rfl rfl)) ?_
        refine Gx.val rfl rfl rfl (val_nilCheck rfl rfl) ?_
        refine Gx.val rfl rfl rfl (Val.cast (val_fieldAddr rfl Try.underlying33 rfl Try.ty4 rfl rfl) (v' := ptr m.b2 2) rfl) ?_
        refine Gx.val rfl rfl rfl (val_load rfl Try.ty4 rfl rfl (cell_rec (k := 5) rfl rfl)) ?_
        refine Gx.done ?_
        refine Gx.thenN ?_
        refine Gx.bool rfl (fun h10 => ?_) (fun h10 => ?_)
        · refine Gx.regionO (fun j => false) 24 [0, 1, 2, 3, 4, 5, 6, 7, 8, 9, 10, 11, 12, 13, 14, 15, 16, 17, 18, 19, 20, 21, 22, 23] (fun _ => [Hp.rec_ b5 [.int .i64 ((c0.n : Nat) : Int), .int .i64 ((c0.who : Nat) : Int), .int .i64 c0.val], Hp.rec_ S [cv, ov, nowV (mo.map Om.b) a0, nowV (mo.map Om.b) a1, nowV (mo.map Om.b) (some k), nowV (mo.map Om.b) a3], Hp.own Fsd 3 cv cs, Hp.own FP 1 ov (mo.map Om.b), Hp.rec_ m.b [ptr m.b2 0, .int .i64 ((m.o.best.n : Nat) : Int), .int .i64 ((m.o.best.who : Nat) : Int), .int .i64 m.o.best.val, .bool true, .int .u32 0, .int .i64 0], Hp.rec_ m.b2 [.int .i64 2, .int .i64 0, .bool m.o.wr, .int .i64 m.o.val, .int .i64 ((m.o.frm : Nat) : Int), .int .i64 m.o.to], R0, R]) Try.mixed (by kernel_rfl) rfl ?_
          refine Gw.val rfl rfl rfl rfl rfl (fun us => val_move rfl rfl) ?_
          refine Gw.val rfl rfl rfl rfl rfl (fun us => val_move rfl rfl) ?_
          refine Gw.val rfl rfl rfl rfl rfl (fun us => val_nilCheck rfl rfl) ?_
          refine Gw.val rfl rfl rfl rfl rfl (fun us => Val.cast (val_fieldAddr rfl Try.underlying54 rfl Try.ty51 rfl rfl) (v' := ptr m.b 1) rfl) ?_
          refine Gw.val rfl rfl rfl rfl rfl (fun us => Val.cast (val_fieldAddr rfl Try.underlying51 rfl Try.ty3 rfl rfl) (v' := ptr m.b 1) rfl) ?_
          refine Gw.val0 rfl rfl rfl (by kernel_rfl) rfl rfl (val_load rfl Try.ty3 rfl rfl (cell_rec (k := 4) rfl rfl)) ?_
          refine Gw.val rfl rfl rfl rfl rfl (fun us => val_add rfl rfl rfl (r := ((m.o.best.n + 1 : Nat) : Int)) (w64 (by omega) (by omega))) ?_
          refine Gw.val rfl rfl rfl rfl rfl (fun us => val_move rfl rfl) ?_
          refine Gw.val rfl rfl rfl rfl rfl (fun us => val_nilCheck rfl rfl) ?_
          refine Gw.val rfl rfl rfl rfl rfl (fun us => Val.cast (val_fieldAddr rfl Try.underlying54 rfl Try.ty49 rfl rfl) (v' := ptr m.b 0) rfl) ?_
          refine Gw.val0 rfl rfl rfl (by kernel_rfl) rfl rfl (val_load rfl Try.ty49 rfl rfl (cell_rec (k := 4) rfl rfl)) ?_
          refine Gw.val rfl rfl rfl rfl rfl (fun us => val_nilCheck rfl rfl) ?_
          refine Gw.val rfl rfl rfl rfl rfl (fun us => Val.cast (val_fieldAddr rfl Try.underlying33 rfl Try.ty3 rfl rfl) (v' := ptr m.b2 0) rfl) ?_
          refine Gw.val0 rfl rfl rfl (by kernel_rfl) rfl rfl (val_load rfl Try.ty3 rfl rfl (cell_rec (k := 5) rfl rfl)) ?_
          refine Gw.val rfl rfl rfl rfl rfl (fun us => val_move rfl rfl) ?_
          refine Gw.val rfl rfl rfl rfl rfl (fun us => val_nilCheck rfl rfl) ?_
          refine Gw.val rfl rfl rfl rfl rfl (fun us => Val.cast (val_fieldAddr rfl Try.underlying54 rfl Try.ty49 rfl rfl) (v' := ptr m.b 0) rfl) ?_
          refine Gw.val0 rfl rfl rfl (by kernel_rfl) rfl rfl (val_load rfl Try.ty49 rfl rfl (cell_rec (k := 4) rfl rfl)) ?_
          refine Gw.val rfl rfl rfl rfl rfl (fun us => val_nilCheck rfl rfl) ?_
          refine Gw.val rfl rfl rfl rfl rfl (fun us => Val.cast (val_fieldAddr rfl Try.underlying33 rfl Try.ty2 rfl rfl) (v' := ptr m.b2 3) rfl) ?_
          refine Gw.val0 rfl rfl rfl (by kernel_rfl) rfl rfl (val_load rfl Try.ty2 rfl rfl (cell_rec (k := 5) rfl rfl)) ?_
          refine Gw.val rfl rfl rfl rfl rfl (fun us => val_build rfl (qs := [(0, .int .i64 ((m.o.best.n + 1 : Nat) : Int)), (1, .int .i64 2), (2, .int .i64 m.o.val)]) rfl rfl (fun w => by go_simp) (v := .agg #[.int .i64 ((m.o.best.n + 1 : Nat) : Int), .int .i64 2, .int .i64 m.o.val])) ?_
          refine Gw.val rfl rfl rfl rfl rfl (fun us => val_nilCheck rfl rfl) ?_
          refine Gw.val rfl rfl rfl rfl rfl (fun us => Val.cast (val_fieldAddr rfl Try.underlying54 rfl Try.ty51 rfl rfl) (v' := ptr m.b 1) rfl) ?_
          refine Gw.done ?_
          refine Gx.norm (l' := [Hp.rec_ b5 [.int .i64 ((c0.n : Nat) : Int), .int .i64 ((c0.who : Nat) : Int), .int .i64 c0.val], Hp.rec_ S [cv, ov, nowV (mo.map Om.b) a0, nowV (mo.map Om.b) a1, nowV (mo.map Om.b) (some k), nowV (mo.map Om.b) a3], Hp.own Fsd 3 cv cs, Hp.own FP 1 ov (mo.map Om.b), Hp.rec_ m.b [ptr m.b2 0, .int .i64 ((m.o.best.n : Nat) : Int), .int .i64 ((m.o.best.who : Nat) : Int), .int .i64 m.o.best.val, .bool true, .int .u32 0, .int .i64 0], Hp.rec_ m.b2 [.int .i64 2, .int .i64 0, .bool m.o.wr, .int .i64 m.o.val, .int .i64 ((m.o.frm : Nat) : Int), .int .i64 m.o.to], R0, R]) rfl ?_
          refine Gx.eff0 rfl rfl (eff_store rfl Try.ty51 rfl rfl (us := [.int .i64 ((m.o.best.n + 1 : Nat) : Int), .int .i64 2, .int .i64 m.o.val]) rfl rfl rfl (k := 4) rfl (rfl) (vs' := [ptr m.b2 0, .int .i64 ((m.o.best.n + 1 : Nat) : Int), .int .i64 2, .int .i64 m.o.val, .bool true, .int .u32 0, .int .i64 0]) (rfl) (l' := [Hp.rec_ b5 [.int .i64 ((c0.n : Nat) : Int), .int .i64 ((c0.who : Nat) : Int), .int .i64 c0.val], Hp.rec_ S [cv, ov, nowV (mo.map Om.b) a0, nowV (mo.map Om.b) a1, nowV (mo.map Om.b) (some k), nowV (mo.map Om.b) a3], Hp.own Fsd 3 cv cs, Hp.own FP 1 ov (mo.map Om.b), Hp.rec_ m.b [ptr m.b2 0, .int .i64 ((m.o.best.n + 1 : Nat) : Int), .int .i64 2, .int .i64 m.o.val, .bool true, .int .u32 0, .int .i64 0], Hp.rec_ m.b2 [.int .i64 2, .int .i64 0, .bool m.o.wr, .int .i64 m.o.val, .int .i64 ((m.o.frm : Nat) : Int), .int .i64 m.o.to], R0, R]) rfl) ?_
          rintro _ _ rfl
          refine Gx.done ?_
          refine Gx.thenN ?_
          refine Gx.seq ?_
          refine Gx.region ?_
          refine Gx.val rfl rfl rfl (val_assign rfl rfl) ?_
          refine Gx.done ?_
          refine Gx.thenN ?_
          refine Gx.ret ?_
          refine Gx.drop 0 rfl ?_
          have ht : ¬ 2 * (m.o.many + 1) ≤ cs.length := by omega
          have hO : (if 2 * (m.o.many + 1) ≤ cs.length then seeR cs i m.o else turnO (seeR cs i m.o) mom) = ⟨2, m.o.wr, m.o.val, m.o.frm, m.o.to, ⟨m.o.best.n + 1, 2, m.o.val⟩, true, [], 0⟩ := by
            rw [if_neg ht]
            obtain ⟨b1, b2, ⟨o1, o2, o3, o4, o5, o6, o7, o8, o9⟩⟩ := m
            dsimp only at *
            subst hw
            simp only [seeR, turnO, hci, h1, h6, h10, if_true, if_false, Bool.false_eq_true]
          have hC : (if m.o.sec = true then storeR cs i m.o.best else cs) = cs := by rw [if_neg (by rw [h1]; decide)]
          have hN : (if 2 * (m.o.many + 1) ≤ cs.length then ([a0, a1, (some k), a3] : List (Option Nat)) else if m.o.sec = true then [a0, a1, none, a3] else [a0, a1, (some k), a3]) = [a0, a1, (some k), a3] := by rw [if_neg ht, if_neg (by rw [h1]; decide)]
          refine Gx.ret1 Try.results15 rfl ?_
          refine ⟨rfl, ?_⟩
          rw [hO, hC, hN]
          exact reg_shut (a0 := a0) (a1 := a1) (a2 := (some k)) (a3 := a3) hk hb2 (⟨m.b, m.b2, ⟨2, m.o.wr, m.o.val, m.o.frm, m.o.to, ⟨m.o.best.n + 1, 2, m.o.val⟩, true, [], 0⟩⟩ : Om) rfl
        · refine Gx.skip ?_
          refine Gx.thenN ?_
          refine Gx.seq ?_
          refine Gx.region ?_
          refine Gx.val rfl rfl rfl (val_assign rfl rfl) ?_
          refine Gx.done ?_
          refine Gx.thenN ?_
          refine Gx.ret ?_
          refine Gx.drop 0 rfl ?_
          have ht : ¬ 2 * (m.o.many + 1) ≤ cs.length := by omega
          have hO : (if 2 * (m.o.many + 1) ≤ cs.length then seeR cs i m.o else turnO (seeR cs i m.o) mom) = ⟨2, m.o.wr, m.o.val, m.o.frm, m.o.to, m.o.best, true, [], 0⟩ := by
            rw [if_neg ht]
            obtain ⟨b1, b2, ⟨o1, o2, o3, o4, o5, o6, o7, o8, o9⟩⟩ := m
            dsimp only at *
            subst hw
            simp only [seeR, turnO, hci, h1, h6, h10, if_true, if_false, Bool.false_eq_true]
          have hC : (if m.o.sec = true then storeR cs i m.o.best else cs) = cs := by rw [if_neg (by rw [h1]; decide)]
          have hN : (if 2 * (m.o.many + 1) ≤ cs.length then ([a0, a1, (some k), a3] : List (Option Nat)) else if m.o.sec = true then [a0, a1, none, a3] else [a0, a1, (some k), a3]) = [a0, a1, (some k), a3] := by rw [if_neg ht, if_neg (by rw [h1]; decide)]
          refine Gx.ret1 Try.results15 rfl ?_
          refine ⟨rfl, ?_⟩
          rw [hO, hC, hN]
          exact reg_shut (a0 := a0) (a1 := a1) (a2 := (some k)) (a3 := a3) hk hb2 (⟨m.b, m.b2, ⟨2, m.o.wr, m.o.val, m.o.frm, m.o.to, m.o.best, true, [], 0⟩⟩ : Om) rfl

theorem reach_go3 {W w : World} {S k i mom : Nat} {a0 a1 a2 : Option Nat} {cv ov : Value} {cs : List Sd} {mo : List Om} {m : Om} {R : Hp} (hk : mo[k]? = some m) (hw : m.o.who = 3) (hi : i < cs.length) (hs : ¬ i ∈ m.o.seen) (h5 : cs.length ≤ 5) (hmk : mk m.o.seen < 4294967296) (hmany : m.o.many ≤ 5) (hbn : m.o.best.n ≤ 1000) (hcn : ∀ c ∈ cs, c.n ≤ 1000) (H : Sat W w (regP S [a0, a1, a2, (some k)] cv ov cs mo * R)) :
    Calls Try.prog 15 #[ptr S 0, ptr m.b 0, .int .i64 ((i : Nat) : Int), .int .i64 ((mom : Nat) : Int)] w (Ret W fun v l => v = .int .i64 0 ∧ sep l = regP S (if 2 * (m.o.many + 1) ≤ cs.length then [a0, a1, a2, (some k)] else if m.o.sec = true then [a0, a1, a2, none] else [a0, a1, a2, (some k)]) cv ov (if m.o.sec = true then storeR cs i m.o.best else cs) (mo.set k ⟨m.b, m.b2, if 2 * (m.o.many + 1) ≤ cs.length then seeR cs i m.o else turnO (seeR cs i m.o) mom⟩) * R) := by
  obtain ⟨c0, hci⟩ := get_of_lt hi
  have hsl := storeR_len cs i m.o.best
  have hc0 := hcn c0 (List.mem_of_getElem? hci)
  obtain ⟨R0, hb1, hb2⟩ := Hp.big_focus opH mo k m hk
  have hopen := reg_open (k := k) hb1 H
  rw [hw] at hopen
  refine Gx.enter (l := [Hp.rec_ S [cv, ov, nowV (mo.map Om.b) a0, nowV (mo.map Om.b) a1, nowV (mo.map Om.b) a2, nowV (mo.map Om.b) (some k)], Hp.own Fsd 3 cv cs, Hp.own FP 1 ov (mo.map Om.b), Hp.rec_ m.b [ptr m.b2 0, .int .i64 ((m.o.best.n : Nat) : Int), .int .i64 ((m.o.best.who : Nat) : Int), .int .i64 m.o.best.val, .bool m.o.sec, .int .u32 (((mk m.o.seen) : Nat) : Int), .int .i64 ((m.o.many : Nat) : Int)], Hp.rec_ m.b2 [.int .i64 3, .int .i64 0, .bool m.o.wr, .int .i64 m.o.val, .int .i64 ((m.o.frm : Nat) : Int), .int .i64 m.o.to], R0, R]) Try.func15 rfl Try.ntmps15 rfl (hopen) ?_
  refine Gx.know (m' := [(0, ptr S 0), (1, ptr m.b 0), (2, .int .i64 ((i : Nat) : Int)), (3, .int .i64 ((mom : Nat) : Int))]) (.cons rfl (.cons rfl (.cons rfl (.cons rfl .nil)))) ?_
  refine Gx.seq ?_
  refine Gx.region ?_
  refine Gx.val rfl rfl rfl (val_assign rfl rfl) ?_
  refine Gx.done ?_
  refine Gx.thenN ?_
  refine Gx.seq ?_
  refine Gx.seq ?_
  refine Gx.region ?_
  refine Gx.val rfl rfl rfl (val_move rfl rfl) ?_
  refine Gx.val rfl rfl rfl (Val.cast (val_eqlP rfl Try.underlying44 (by kernel_rfl) rfl rfl) (v' := .bool false) rfl) ?_
  refine Gx.val rfl rfl rfl (val_move rfl rfl) ?_
  refine Gx.valg rfl rfl rfl rfl rfl (val_move rfl rfl) ?_
  refine Gx.valg rfl rfl rfl rfl rfl (val_nilCheck rfl rfl) ?_
  refine Gx.valg rfl rfl rfl rfl rfl (Val.cast (val_fieldAddr rfl Try.underlying54 rfl Try.ty52 rfl rfl) (v' := ptr m.b 5) rfl) ?_
  refine Gx.valg rfl rfl rfl rfl rfl (val_load rfl Try.ty52 rfl rfl (cell_rec (k := 3) rfl rfl)) ?_
  refine Gx.valg rfl rfl rfl rfl rfl (val_move rfl rfl) ?_
  refine Gx.valg rfl rfl rfl rfl rfl (val_shr (b := i) rfl rfl rfl rfl (by show i ≤ 32; omega) (shr32 _ _)) ?_
  refine Gx.valg rfl rfl rfl rfl rfl (val_and rfl rfl rfl (and_mk i hmk)) ?_
  refine Gx.valg rfl rfl rfl rfl rfl (val_eql rfl rfl rfl) ?_
  refine Gx.val rfl rfl rfl (val_pickF rfl rfl rfl) ?_
  refine Gx.done ?_
  refine Gx.thenN ?_
  refine Gx.decF rfl (by rw [if_neg hs]; decide) ?_
  refine Gx.skip ?_
  refine Gx.thenN ?_
  refine Gx.seq ?_
  refine Gx.regionO (fun j => false) 9 [0, 1, 2, 3, 4, 5, 6, 7, 8] (fun _ => [Hp.rec_ S [cv, ov, nowV (mo.map Om.b) a0, nowV (mo.map Om.b) a1, nowV (mo.map Om.b) a2, nowV (mo.map Om.b) (some k)], Hp.own Fsd 3 cv cs, Hp.own FP 1 ov (mo.map Om.b), Hp.rec_ m.b [ptr m.b2 0, .int .i64 ((m.o.best.n : Nat) : Int), .int .i64 ((m.o.best.who : Nat) : Int), .int .i64 m.o.best.val, .bool m.o.sec, .int .u32 (((mk m.o.seen) : Nat) : Int), .int .i64 ((m.o.many : Nat) : Int)], Hp.rec_ m.b2 [.int .i64 3, .int .i64 0, .bool m.o.wr, .int .i64 m.o.val, .int .i64 ((m.o.frm : Nat) : Int), .int .i64 m.o.to], R0, R]) Try.mixed (by kernel_rfl) rfl ?_
  refine Gw.val rfl rfl rfl rfl rfl (fun us => val_move rfl rfl) ?_
  refine Gw.val rfl rfl rfl rfl rfl (fun us => val_nilCheck rfl rfl) ?_
  refine Gw.val rfl rfl rfl rfl rfl (fun us => Val.cast (val_fieldAddr rfl Try.underlying54 rfl Try.ty52 rfl rfl) (v' := ptr m.b 5) rfl) ?_
  refine Gw.val0 rfl rfl rfl (by kernel_rfl) rfl rfl (val_load rfl Try.ty52 rfl rfl (cell_rec (k := 3) rfl rfl)) ?_
  refine Gw.val rfl rfl rfl rfl rfl (fun us => val_move rfl rfl) ?_
  refine Gw.val rfl rfl rfl rfl rfl (fun us => val_shl (b := i) rfl rfl rfl rfl (by show i ≤ 32; omega) (shl1 (by omega))) ?_
  refine Gw.val rfl rfl rfl rfl rfl (fun us => val_or rfl rfl rfl ((or32 hmk (pow32 (by omega))).trans (congrArg Nat.cast (mk_snoc _ i).symm))) ?_
  refine Gw.val rfl rfl rfl rfl rfl (fun us => val_nilCheck rfl rfl) ?_
  refine Gw.val rfl rfl rfl rfl rfl (fun us => Val.cast (val_fieldAddr rfl Try.underlying54 rfl Try.ty52 rfl rfl) (v' := ptr m.b 5) rfl) ?_
  refine Gw.done ?_
  refine Gx.norm (l' := [Hp.rec_ S [cv, ov, nowV (mo.map Om.b) a0, nowV (mo.map Om.b) a1, nowV (mo.map Om.b) a2, nowV (mo.map Om.b) (some k)], Hp.own Fsd 3 cv cs, Hp.own FP 1 ov (mo.map Om.b), Hp.rec_ m.b [ptr m.b2 0, .int .i64 ((m.o.best.n : Nat) : Int), .int .i64 ((m.o.best.who : Nat) : Int), .int .i64 m.o.best.val, .bool m.o.sec, .int .u32 (((mk m.o.seen) : Nat) : Int), .int .i64 ((m.o.many : Nat) : Int)], Hp.rec_ m.b2 [.int .i64 3, .int .i64 0, .bool m.o.wr, .int .i64 m.o.val, .int .i64 ((m.o.frm : Nat) : Int), .int .i64 m.o.to], R0, R]) rfl ?_
  refine Gx.eff0 rfl rfl (eff_store rfl Try.ty52 rfl rfl (us := [.int .u32 ((mk (m.o.seen ++ [i]) : Nat) : Int)]) rfl rfl rfl (k := 3) rfl (rfl) (vs' := [ptr m.b2 0, .int .i64 ((m.o.best.n : Nat) : Int), .int .i64 ((m.o.best.who : Nat) : Int), .int .i64 m.o.best.val, .bool m.o.sec, .int .u32 ((mk (m.o.seen ++ [i]) : Nat) : Int), .int .i64 ((m.o.many : Nat) : Int)]) (rfl) (l' := [Hp.rec_ S [cv, ov, nowV (mo.map Om.b) a0, nowV (mo.map Om.b) a1, nowV (mo.map Om.b) a2, nowV (mo.map Om.b) (some k)], Hp.own Fsd 3 cv cs, Hp.own FP 1 ov (mo.map Om.b), Hp.rec_ m.b [ptr m.b2 0, .int .i64 ((m.o.best.n : Nat) : Int), .int .i64 ((m.o.best.who : Nat) : Int), .int .i64 m.o.best.val, .bool m.o.sec, .int .u32 ((mk (m.o.seen ++ [i]) : Nat) : Int), .int .i64 ((m.o.many : Nat) : Int)], Hp.rec_ m.b2 [.int .i64 3, .int .i64 0, .bool m.o.wr, .int .i64 m.o.val, .int .i64 ((m.o.frm : Nat) : Int), .int .i64 m.o.to], R0, R]) rfl) ?_
  rintro _ _ rfl
  refine Gx.done ?_
  refine Gx.thenN ?_
  refine Gx.seq ?_
  refine Gx.region ?_
  refine Gx.val rfl rfl rfl (val_move rfl rfl) ?_
  refine Gx.val rfl rfl rfl (val_nilCheck rfl rfl) ?_
  refine Gx.val rfl rfl rfl (Val.cast (val_fieldAddr rfl Try.underlying54 rfl Try.ty3 rfl rfl) (v' := ptr m.b 6) rfl) ?_
  refine Gx.val rfl rfl rfl (val_load rfl Try.ty3 rfl rfl (cell_rec (k := 3) rfl rfl)) ?_
  refine Gx.val rfl rfl rfl (val_add rfl rfl rfl (r := ((m.o.many + 1 : Nat) : Int)) (w64 (by omega) (by omega))) ?_
  refine Gx.val rfl rfl rfl (val_nilCheck rfl rfl) ?_
  refine Gx.val rfl rfl rfl (Val.cast (val_fieldAddr rfl Try.underlying54 rfl Try.ty3 rfl rfl) (v' := ptr m.b 6) rfl) ?_
  refine Gx.eff0 rfl rfl (eff_store rfl Try.ty3 rfl rfl (us := [.int .i64 ((m.o.many + 1 : Nat) : Int)]) rfl rfl rfl (k := 3) rfl (rfl) (vs' := [ptr m.b2 0, .int .i64 ((m.o.best.n : Nat) : Int), .int .i64 ((m.o.best.who : Nat) : Int), .int .i64 m.o.best.val, .bool m.o.sec, .int .u32 ((mk (m.o.seen ++ [i]) : Nat) : Int), .int .i64 ((m.o.many + 1 : Nat) : Int)]) (rfl) (l' := [Hp.rec_ S [cv, ov, nowV (mo.map Om.b) a0, nowV (mo.map Om.b) a1, nowV (mo.map Om.b) a2, nowV (mo.map Om.b) (some k)], Hp.own Fsd 3 cv cs, Hp.own FP 1 ov (mo.map Om.b), Hp.rec_ m.b [ptr m.b2 0, .int .i64 ((m.o.best.n : Nat) : Int), .int .i64 ((m.o.best.who : Nat) : Int), .int .i64 m.o.best.val, .bool m.o.sec, .int .u32 ((mk (m.o.seen ++ [i]) : Nat) : Int), .int .i64 ((m.o.many + 1 : Nat) : Int)], Hp.rec_ m.b2 [.int .i64 3, .int .i64 0, .bool m.o.wr, .int .i64 m.o.val, .int .i64 ((m.o.frm : Nat) : Int), .int .i64 m.o.to], R0, R]) rfl) ?_
  rintro _ _ rfl
  refine Gx.done ?_
  refine Gx.thenN ?_
  refine Gx.seq ?_
  refine Gx.seq ?_
  refine Gx.region ?_
  refine Gx.val rfl rfl rfl (val_move rfl rfl) ?_
  refine Gx.val rfl rfl rfl (val_nilCheck rfl rfl) ?_
  refine Gx.val rfl rfl rfl (Val.cast (val_fieldAddr rfl Try.underlying54 rfl Try.ty4 rfl rfl) (v' := ptr m.b 4) rfl) ?_
  refine Gx.val rfl rfl rfl (val_load rfl Try.ty4 rfl rfl (cell_rec (k := 3) rfl rfl)) ?_
  refine Gx.done ?_
  refine Gx.thenN ?_
  refine Gx.bool rfl (fun h1 => ?_) (fun h1 => ?_)
  · refine Gx.region ?_
    refine Gx.val rfl rfl rfl (val_move rfl rfl) ?_
    refine Gx.val rfl rfl rfl (val_move rfl rfl) ?_
    refine Gx.val rfl rfl rfl (val_move rfl rfl) ?_
    refine Gx.val rfl rfl rfl (val_nilCheck rfl rfl) ?_
    refine Gx.val rfl rfl rfl (Val.cast (val_fieldAddr rfl Try.underlying54 rfl Try.ty51 rfl rfl) (v' := ptr m.b 1) rfl) ?_
    refine Gx.val rfl rfl rfl (Val.cast (val_loadA rfl Try.ty51 rfl rfl (us := [.int .i64 ((m.o.best.n : Nat) : Int), .int .i64 ((m.o.best.who : Nat) : Int), .int .i64 m.o.best.val]) rfl (cells_rec_at (k := 3) (i := 1) (n := 3) rfl rfl)) (v' := .agg #[.int .i64 ((m.o.best.n : Nat) : Int), .int .i64 ((m.o.best.who : Nat) : Int), .int .i64 m.o.best.val]) rfl) ?_
    refine Gx.eff rfl rfl rfl (eff_call (vs := [ptr S 0, .int .i64 ((i : Nat) : Int), .agg #[.int .i64 ((m.o.best.n : Nat) : Int), .int .i64 ((m.o.best.who : Nat) : Int), .int .i64 m.o.best.val]]) rfl Try.fn16 rfl (fun w H => store_any m.o.best hi (H.at2 (k := 0) (k' := 0) rfl rfl))) ?_
    rintro _ l2 ⟨rfl, hl2⟩
    refine Gx.sepEq (l' := [Hp.rec_ S [cv, ov, nowV (mo.map Om.b) a0, nowV (mo.map Om.b) a1, nowV (mo.map Om.b) a2, nowV (mo.map Om.b) (some k)], Hp.own Fsd 3 cv (storeR cs i m.o.best), Hp.own FP 1 ov (mo.map Om.b), Hp.rec_ m.b [ptr m.b2 0, .int .i64 ((m.o.best.n : Nat) : Int), .int .i64 ((m.o.best.who : Nat) : Int), .int .i64 m.o.best.val, .bool m.o.sec, .int .u32 ((mk (m.o.seen ++ [i]) : Nat) : Int), .int .i64 ((m.o.many + 1 : Nat) : Int)], Hp.rec_ m.b2 [.int .i64 3, .int .i64 0, .bool m.o.wr, .int .i64 m.o.val, .int .i64 ((m.o.frm : Nat) : Int), .int .i64 m.o.to], R0, R]) hl2 ?_
    refine Gx.done ?_
    refine Gx.thenN ?_
    refine Gx.seq ?_
    refine Gx.seq ?_
    refine Gx.regionQ Try.mixed (by kernel_rfl) ?_
    refine Gq.val rfl rfl rfl (val_move rfl rfl) ?_
    refine Gq.val rfl rfl rfl (val_nilCheck rfl rfl) ?_
    refine Gq.val rfl rfl rfl (Val.cast (val_fieldAddr rfl Try.underlying54 rfl Try.ty3 rfl rfl) (v' := ptr m.b 6) rfl) ?_
    refine Gq.val rfl rfl rfl (val_load rfl Try.ty3 rfl rfl (cell_rec (k := 3) rfl rfl)) ?_
    refine Gq.val rfl rfl rfl (val_mul rfl rfl rfl (r := ((2 * (m.o.many + 1) : Nat) : Int)) (w64 (by omega) (by omega))) ?_
    refine Gq.val rfl rfl rfl (val_move rfl rfl) ?_
    refine Gq.val rfl rfl rfl (val_nilCheck rfl rfl) ?_
    refine Gq.val rfl rfl rfl (Val.cast (val_fieldAddr rfl Try.underlying47 rfl Try.ty42 rfl rfl) (v' := ptr S 0) rfl) ?_
    refine Gq.val rfl rfl rfl (val_load rfl Try.ty42 rfl rfl (cell_rec (k := 0) rfl rfl)) ?_
    refine Gq.val rfl rfl rfl (val_len rfl Try.underlying42 rfl (len_own (k := 1) rfl)) ?_
    refine Gq.val rfl rfl rfl (val_leq rfl rfl rfl) ?_
    refine Gq.done ?_
    refine Gx.thenN ?_
    refine Gx.dec rfl (fun h3 => ?_) (fun h3 => ?_)
    · refine Gx.seq ?_
      refine Gx.region ?_
      refine Gx.val rfl rfl rfl (val_assign rfl rfl) ?_
      refine Gx.done ?_
      refine Gx.thenN ?_
      refine Gx.ret ?_
      refine Gx.thenR ?_
      have ht : 2 * (m.o.many + 1) ≤ cs.length := by omega
      have hO : (if 2 * (m.o.many + 1) ≤ cs.length then seeR cs i m.o else turnO (seeR cs i m.o) mom) = ⟨3, m.o.wr, m.o.val, m.o.frm, m.o.to, m.o.best, m.o.sec, (m.o.seen ++ [i]), (m.o.many + 1)⟩ := by
        rw [if_pos ht]
        obtain ⟨b1, b2, ⟨o1, o2, o3, o4, o5, o6, o7, o8, o9⟩⟩ := m
        dsimp only at *
        subst hw
        simp only [seeR, turnO, hci, h1, if_true, if_false, Bool.false_eq_true]
      have hC : (if m.o.sec = true then storeR cs i m.o.best else cs) = (storeR cs i m.o.best) := by rw [if_pos h1]
      have hN : (if 2 * (m.o.many + 1) ≤ cs.length then ([a0, a1, a2, (some k)] : List (Option Nat)) else if m.o.sec = true then [a0, a1, a2, none] else [a0, a1, a2, (some k)]) = [a0, a1, a2, (some k)] := by rw [if_pos ht]
      refine Gx.ret1 Try.results15 rfl ?_
      refine ⟨rfl, ?_⟩
      rw [hO, hC, hN]
      exact reg_shut (a0 := a0) (a1 := a1) (a2 := a2) (a3 := (some k)) hk hb2 (⟨m.b, m.b2, ⟨3, m.o.wr, m.o.val, m.o.frm, m.o.to, m.o.best, m.o.sec, (m.o.seen ++ [i]), (m.o.many + 1)⟩⟩ : Om) rfl
    · refine Gx.skip ?_
      refine Gx.thenN ?_
      refine Gx.seq ?_
      refine Gx.seq ?_
      refine Gx.region ?_
      refine Gx.val rfl rfl rfl (val_move rfl rfl) ?_
      refine Gx.val rfl rfl rfl (val_nilCheck rfl rfl) ?_
      refine Gx.val rfl rfl rfl (Val.cast (val_fieldAddr rfl Try.underlying54 rfl Try.ty4 rfl rfl) (v' := ptr m.b 4) rfl) ?_
      refine Gx.val rfl rfl rfl (val_load rfl Try.ty4 rfl rfl (cell_rec (k := 3) rfl rfl)) ?_
      refine Gx.done ?_
      refine Gx.thenN ?_
      refine Gx.boolT rfl (h1) ?_
      refine Gx.seq ?_
      refine Gx.region ?_
      refine Gx.val rfl rfl rfl (val_move rfl rfl) ?_
      refine Gx.val rfl rfl rfl (val_nilCheck rfl rfl) ?_
      refine Gx.val rfl rfl rfl (Val.cast (val_fieldAddr rfl Try.underlying54 rfl Try.ty49 rfl rfl) (v' := ptr m.b 0) rfl) ?_
      refine Gx.val rfl rfl rfl (val_load rfl Try.ty49 rfl rfl (cell_rec (k := 3) rfl rfl)) ?_
      refine Gx.val rfl rfl rfl (val_move rfl rfl) ?_
      refine Gx.val rfl rfl rfl (val_nilCheck rfl rfl) ?_
      refine Gx.val rfl rfl rfl (Val.cast (val_fieldAddr rfl Try.underlying33 rfl Try.ty3 rfl rfl) (v' := ptr m.b2 5) rfl) ?_
      refine Gx.eff0 rfl rfl (eff_store rfl Try.ty3 rfl rfl (us := [.int .i64 ((mom : Nat) : Int)]) rfl rfl rfl (k := 4) rfl (rfl) (vs' := [.int .i64 3, .int .i64 0, .bool m.o.wr, .int .i64 m.o.val, .int .i64 ((m.o.frm : Nat) : Int), .int .i64 ((mom : Nat) : Int)]) (rfl) (l' := [Hp.rec_ S [cv, ov, nowV (mo.map Om.b) a0, nowV (mo.map Om.b) a1, nowV (mo.map Om.b) a2, nowV (mo.map Om.b) (some k)], Hp.own Fsd 3 cv (storeR cs i m.o.best), Hp.own FP 1 ov (mo.map Om.b), Hp.rec_ m.b [ptr m.b2 0, .int .i64 ((m.o.best.n : Nat) : Int), .int .i64 ((m.o.best.who : Nat) : Int), .int .i64 m.o.best.val, .bool m.o.sec, .int .u32 ((mk (m.o.seen ++ [i]) : Nat) : Int), .int .i64 ((m.o.many + 1 : Nat) : Int)], Hp.rec_ m.b2 [.int .i64 3, .int .i64 0, .bool m.o.wr, .int .i64 m.o.val, .int .i64 ((m.o.frm : Nat) : Int), .int .i64 ((mom : Nat) : Int)], R0, R]) rfl) ?_
      rintro _ _ rfl
      refine Gx.done ?_
      refine Gx.thenN ?_
      refine Gx.seq ?_
      refine Gx.seq ?_
      refine Gx.region ?_
      refine Gx.val rfl rfl rfl (val_move rfl rfl) ?_
      refine Gx.val rfl rfl rfl (val_nilCheck rfl rfl) ?_
      refine Gx.val rfl rfl rfl (Val.cast (val_fieldAddr rfl Try.underlying54 rfl Try.ty49 rfl rfl) (v' := ptr m.b 0) rfl) ?_
      refine Gx.val rfl rfl rfl (val_load rfl Try.ty49 rfl rfl (cell_rec (k := 3) rfl rfl)) ?_
      refine Gx.val rfl rfl rfl (val_nilCheck rfl rfl) ?_
      refine Gx.val rfl rfl rfl (Val.cast (val_fieldAddr rfl Try.underlying33 rfl Try.ty4 rfl rfl) (v' := ptr m.b2 2) rfl) ?_
      refine Gx.val rfl rfl rfl (val_load rfl Try.ty4 rfl rfl (cell_rec (k := 4) rfl rfl)) ?_
      refine Gx.val rfl rfl rfl (val_not rfl rfl) ?_
      refine Gx.done ?_
      refine Gx.thenN ?_
      refine Gx.bool rfl (fun h4 => ?_) (fun h4 => ?_)
      · refine Gx.regionO (fun j => false) 11 [0, 1, 2, 3, 4, 5, 6, 7, 8, 9, 10] (fun _ => [Hp.rec_ S [cv, ov, nowV (mo.map Om.b) a0, nowV (mo.map Om.b) a1, nowV (mo.map Om.b) a2, nowV (mo.map Om.b) (some k)], Hp.own Fsd 3 cv (storeR cs i m.o.best), Hp.own FP 1 ov (mo.map Om.b), Hp.rec_ m.b [ptr m.b2 0, .int .i64 ((m.o.best.n : Nat) : Int), .int .i64 ((m.o.best.who : Nat) : Int), .int .i64 m.o.best.val, .bool m.o.sec, .int .u32 ((mk (m.o.seen ++ [i]) : Nat) : Int), .int .i64 ((m.o.many + 1 : Nat) : Int)], Hp.rec_ m.b2 [.int .i64 3, .int .i64 0, .bool m.o.wr, .int .i64 m.o.val, .int .i64 ((m.o.frm : Nat) : Int), .int .i64 ((mom : Nat) : Int)], R0, R]) Try.mixed (by kernel_rfl) rfl ?_
        refine Gw.val rfl rfl rfl rfl rfl (fun us => val_move rfl rfl) ?_
        refine Gw.val rfl rfl rfl rfl rfl (fun us => val_nilCheck rfl rfl) ?_
        refine Gw.val rfl rfl rfl rfl rfl (fun us => Val.cast (val_fieldAddr rfl Try.underlying54 rfl Try.ty49 rfl rfl) (v' := ptr m.b 0) rfl) ?_
        refine Gw.val0 rfl rfl rfl (by kernel_rfl) rfl rfl (val_load rfl Try.ty49 rfl rfl (cell_rec (k := 3) rfl rfl)) ?_
        refine Gw.val rfl rfl rfl rfl rfl (fun us => val_move rfl rfl) ?_
        refine Gw.val rfl rfl rfl rfl rfl (fun us => val_nilCheck rfl rfl) ?_
        refine Gw.val rfl rfl rfl rfl rfl (fun us => Val.cast (val_fieldAddr rfl Try.underlying54 rfl Try.ty51 rfl rfl) (v' := ptr m.b 1) rfl) ?_
        refine Gw.val rfl rfl rfl rfl rfl (fun us => Val.cast (val_fieldAddr rfl Try.underlying51 rfl Try.ty2 rfl rfl) (v' := ptr m.b 3) rfl) ?_
        refine Gw.val0 rfl rfl rfl (by kernel_rfl) rfl rfl (val_load rfl Try.ty2 rfl rfl (cell_rec (k := 3) rfl rfl)) ?_
        refine Gw.val rfl rfl rfl rfl rfl (fun us => val_nilCheck rfl rfl) ?_
        refine Gw.val rfl rfl rfl rfl rfl (fun us => Val.cast (val_fieldAddr rfl Try.underlying33 rfl Try.ty2 rfl rfl) (v' := ptr m.b2 3) rfl) ?_
        refine Gw.done ?_
        refine Gx.norm (l' := [Hp.rec_ S [cv, ov, nowV (mo.map Om.b) a0, nowV (mo.map Om.b) a1, nowV (mo.map Om.b) a2, nowV (mo.map Om.b) (some k)], Hp.own Fsd 3 cv (storeR cs i m.o.best), Hp.own FP 1 ov (mo.map Om.b), Hp.rec_ m.b [ptr m.b2 0, .int .i64 ((m.o.best.n : Nat) : Int), .int .i64 ((m.o.best.who : Nat) : Int), .int .i64 m.o.best.val, .bool m.o.sec, .int .u32 ((mk (m.o.seen ++ [i]) : Nat) : Int), .int .i64 ((m.o.many + 1 : Nat) : Int)], Hp.rec_ m.b2 [.int .i64 3, .int .i64 0, .bool m.o.wr, .int .i64 m.o.val, .int .i64 ((m.o.frm : Nat) : Int), .int .i64 ((mom : Nat) : Int)], R0, R]) rfl ?_
        refine Gx.eff0 rfl rfl (eff_store rfl Try.ty2 rfl rfl (us := [.int .i64 m.o.best.val]) rfl rfl rfl (k := 4) rfl (rfl) (vs' := [.int .i64 3, .int .i64 0, .bool m.o.wr, .int .i64 m.o.best.val, .int .i64 ((m.o.frm : Nat) : Int), .int .i64 ((mom : Nat) : Int)]) (rfl) (l' := [Hp.rec_ S [cv, ov, nowV (mo.map Om.b) a0, nowV (mo.map Om.b) a1, nowV (mo.map Om.b) a2, nowV (mo.map Om.b) (some k)], Hp.own Fsd 3 cv (storeR cs i m.o.best), Hp.own FP 1 ov (mo.map Om.b), Hp.rec_ m.b [ptr m.b2 0, .int .i64 ((m.o.best.n : Nat) : Int), .int .i64 ((m.o.best.who : Nat) : Int), .int .i64 m.o.best.val, .bool m.o.sec, .int .u32 ((mk (m.o.seen ++ [i]) : Nat) : Int), .int .i64 ((m.o.many + 1 : Nat) : Int)], Hp.rec_ m.b2 [.int .i64 3, .int .i64 0, .bool m.o.wr, .int .i64 m.o.best.val, .int .i64 ((m.o.frm : Nat) : Int), .int .i64 ((mom : Nat) : Int)], R0, R]) rfl) ?_
        rintro _ _ rfl
        refine Gx.done ?_
        refine Gx.thenN ?_
        refine Gx.seq ?_
        refine Gx.regionO (fun j => false) 11 [0, 1, 2, 3, 4, 5, 6, 7, 8, 9, 10] (fun _ => [Hp.rec_ S [cv, ov, nowV (mo.map Om.b) a0, nowV (mo.map Om.b) a1, nowV (mo.map Om.b) a2, nowV (mo.map Om.b) (some k)], Hp.own Fsd 3 cv (storeR cs i m.o.best), Hp.own FP 1 ov (mo.map Om.b), Hp.rec_ m.b [ptr m.b2 0, .int .i64 ((m.o.best.n : Nat) : Int), .int .i64 ((m.o.best.who : Nat) : Int), .int .i64 m.o.best.val, .bool m.o.sec, .int .u32 ((mk (m.o.seen ++ [i]) : Nat) : Int), .int .i64 ((m.o.many + 1 : Nat) : Int)], Hp.rec_ m.b2 [.int .i64 3, .int .i64 0, .bool m.o.wr, .int .i64 m.o.best.val, .int .i64 ((m.o.frm : Nat) : Int), .int .i64 ((mom : Nat) : Int)], R0, R]) Try.mixed (by kernel_rfl) rfl ?_
        refine Gw.val rfl rfl rfl rfl rfl (fun us => val_move rfl rfl) ?_
        refine Gw.val rfl rfl rfl rfl rfl (fun us => val_move rfl rfl) ?_
        refine Gw.val rfl rfl rfl rfl rfl (fun us => val_nilCheck rfl rfl) ?_
        refine Gw.val rfl rfl rfl rfl rfl (fun us => Val.cast (val_fieldAddr rfl Try.underlying54 rfl Try.ty49 rfl rfl) (v' := ptr m.b 0) rfl) ?_
        refine Gw.val0 rfl rfl rfl (by kernel_rfl) rfl rfl (val_load rfl Try.ty49 rfl rfl (cell_rec (k := 3) rfl rfl)) ?_
        refine Gw.val rfl rfl rfl rfl rfl (fun us => val_nilCheck rfl rfl) ?_
        refine Gw.val rfl rfl rfl rfl rfl (fun us => Val.cast (val_fieldAddr rfl Try.underlying33 rfl Try.ty3 rfl rfl) (v' := ptr m.b2 0) rfl) ?_
        refine Gw.val0 rfl rfl rfl (by kernel_rfl) rfl rfl (val_load rfl Try.ty3 rfl rfl (cell_rec (k := 4) rfl rfl)) ?_
        refine Gw.val rfl rfl rfl rfl rfl (fun us => val_nilCheck rfl rfl) ?_
        refine Gw.val rfl rfl rfl rfl rfl (fun us => Val.cast (val_fieldAddr rfl Try.underlying47 rfl Try.ty45 rfl rfl) (v' := ptr S 2) rfl) ?_
        refine Gw.val rfl rfl rfl rfl rfl (fun us => Val.cast (val_ixaA rfl Try.underlying45 Try.ty44 rfl rfl (j := 3) (rfl) (by omega)) (v' := ptr S 5) rfl) ?_
        refine Gw.done ?_
        refine Gx.norm (l' := [Hp.rec_ S [cv, ov, nowV (mo.map Om.b) a0, nowV (mo.map Om.b) a1, nowV (mo.map Om.b) a2, nowV (mo.map Om.b) (some k)], Hp.own Fsd 3 cv (storeR cs i m.o.best), Hp.own FP 1 ov (mo.map Om.b), Hp.rec_ m.b [ptr m.b2 0, .int .i64 ((m.o.best.n : Nat) : Int), .int .i64 ((m.o.best.who : Nat) : Int), .int .i64 m.o.best.val, .bool m.o.sec, .int .u32 ((mk (m.o.seen ++ [i]) : Nat) : Int), .int .i64 ((m.o.many + 1 : Nat) : Int)], Hp.rec_ m.b2 [.int .i64 3, .int .i64 0, .bool m.o.wr, .int .i64 m.o.best.val, .int .i64 ((m.o.frm : Nat) : Int), .int .i64 ((mom : Nat) : Int)], R0, R]) rfl ?_
        refine Gx.eff0 rfl rfl (eff_store rfl Try.ty44 rfl rfl (us := [.pointer none]) rfl rfl rfl (k := 0) rfl (rfl) (vs' := [cv, ov, nowV (mo.map Om.b) a0, nowV (mo.map Om.b) a1, nowV (mo.map Om.b) a2, .pointer none]) (rfl) (l' := [Hp.rec_ S [cv, ov, nowV (mo.map Om.b) a0, nowV (mo.map Om.b) a1, nowV (mo.map Om.b) a2, .pointer none], Hp.own Fsd 3 cv (storeR cs i m.o.best), Hp.own FP 1 ov (mo.map Om.b), Hp.rec_ m.b [ptr m.b2 0, .int .i64 ((m.o.best.n : Nat) : Int), .int .i64 ((m.o.best.who : Nat) : Int), .int .i64 m.o.best.val, .bool m.o.sec, .int .u32 ((mk (m.o.seen ++ [i]) : Nat) : Int), .int .i64 ((m.o.many + 1 : Nat) : Int)], Hp.rec_ m.b2 [.int .i64 3, .int .i64 0, .bool m.o.wr, .int .i64 m.o.best.val, .int .i64 ((m.o.frm : Nat) : Int), .int .i64 ((mom : Nat) : Int)], R0, R]) rfl) ?_
        rintro _ _ rfl
        refine Gx.done ?_
        refine Gx.thenN ?_
        refine Gx.seq ?_
        refine Gx.region ?_
        refine Gx.val rfl rfl rfl (val_assign rfl rfl) ?_
        refine Gx.done ?_
        refine Gx.thenN ?_
        refine Gx.ret ?_
        refine Gx.thenR ?_
        have ht : ¬ 2 * (m.o.many + 1) ≤ cs.length := by omega
        have hO : (if 2 * (m.o.many + 1) ≤ cs.length then seeR cs i m.o else turnO (seeR cs i m.o) mom) = ⟨3, m.o.wr, m.o.best.val, m.o.frm, ((mom : Nat) : Int), m.o.best, m.o.sec, (m.o.seen ++ [i]), (m.o.many + 1)⟩ := by
          rw [if_neg ht]
          obtain ⟨b1, b2, ⟨o1, o2, o3, o4, o5, o6, o7, o8, o9⟩⟩ := m
          dsimp only at *
          subst hw
          simp only [seeR, turnO, hci, h1, (by simpa using h4), if_true, if_false, Bool.false_eq_true]
        have hC : (if m.o.sec = true then storeR cs i m.o.best else cs) = (storeR cs i m.o.best) := by rw [if_pos h1]
        have hN : (if 2 * (m.o.many + 1) ≤ cs.length then ([a0, a1, a2, (some k)] : List (Option Nat)) else if m.o.sec = true then [a0, a1, a2, none] else [a0, a1, a2, (some k)]) = [a0, a1, a2, none] := by rw [if_neg ht, if_pos h1]
        refine Gx.ret1 Try.results15 rfl ?_
        refine ⟨rfl, ?_⟩
        rw [hO, hC, hN]
        exact reg_shut (a0 := a0) (a1 := a1) (a2 := a2) (a3 := none) hk hb2 (⟨m.b, m.b2, ⟨3, m.o.wr, m.o.best.val, m.o.frm, ((mom : Nat) : Int), m.o.best, m.o.sec, (m.o.seen ++ [i]), (m.o.many + 1)⟩⟩ : Om) rfl
      · refine Gx.skip ?_
        refine Gx.thenN ?_
        refine Gx.seq ?_
        refine Gx.regionO (fun j => false) 11 [0, 1, 2, 3, 4, 5, 6, 7, 8, 9, 10] (fun _ => [Hp.rec_ S [cv, ov, nowV (mo.map Om.b) a0, nowV (mo.map Om.b) a1, nowV (mo.map Om.b) a2, nowV (mo.map Om.b) (some k)], Hp.own Fsd 3 cv (storeR cs i m.o.best), Hp.own FP 1 ov (mo.map Om.b), Hp.rec_ m.b [ptr m.b2 0, .int .i64 ((m.o.best.n : Nat) : Int), .int .i64 ((m.o.best.who : Nat) : Int), .int .i64 m.o.best.val, .bool m.o.sec, .int .u32 ((mk (m.o.seen ++ [i]) : Nat) : Int), .int .i64 ((m.o.many + 1 : Nat) : Int)], Hp.rec_ m.b2 [.int .i64 3, .int .i64 0, .bool m.o.wr, .int .i64 m.o.val, .int .i64 ((m.o.frm : Nat) : Int), .int .i64 ((mom : Nat) : Int)], R0, R]) Try.mixed (by kernel_rfl) rfl ?_
        refine Gw.val rfl rfl rfl rfl rfl (fun us => val_move rfl rfl) ?_
        refine Gw.val rfl rfl rfl rfl rfl (fun us => val_move rfl rfl) ?_
        refine Gw.val rfl rfl rfl rfl rfl (fun us => val_nilCheck rfl rfl) ?_
        refine Gw.val rfl rfl rfl rfl rfl (fun us => Val.cast (val_fieldAddr rfl Try.underlying54 rfl Try.ty49 rfl rfl) (v' := ptr m.b 0) rfl) ?_
        refine Gw.val0 rfl rfl rfl (by kernel_rfl) rfl rfl (val_load rfl Try.ty49 rfl rfl (cell_rec (k := 3) rfl rfl)) ?_
        refine Gw.val rfl rfl rfl rfl rfl (fun us => val_nilCheck rfl rfl) ?_
        refine Gw.val rfl rfl rfl rfl rfl (fun us => Val.cast (val_fieldAddr rfl Try.underlying33 rfl Try.ty3 rfl rfl) (v' := ptr m.b2 0) rfl) ?_
        refine Gw.val0 rfl rfl rfl (by kernel_rfl) rfl rfl (val_load rfl Try.ty3 rfl rfl (cell_rec (k := 4) rfl rfl)) ?_
        refine Gw.val rfl rfl rfl rfl rfl (fun us => val_nilCheck rfl rfl) ?_
        refine Gw.val rfl rfl rfl rfl rfl (fun us => Val.cast (val_fieldAddr rfl Try.underlying47 rfl Try.ty45 rfl rfl) (v' := ptr S 2) rfl) ?_
        refine Gw.val rfl rfl rfl rfl rfl (fun us => Val.cast (val_ixaA rfl Try.underlying45 Try.ty44 rfl rfl (j := 3) (rfl) (by omega)) (v' := ptr S 5) rfl) ?_
        refine Gw.done ?_
        refine Gx.norm (l' := [Hp.rec_ S [cv, ov, nowV (mo.map Om.b) a0, nowV (mo.map Om.b) a1, nowV (mo.map Om.b) a2, nowV (mo.map Om.b) (some k)], Hp.own Fsd 3 cv (storeR cs i m.o.best), Hp.own FP 1 ov (mo.map Om.b), Hp.rec_ m.b [ptr m.b2 0, .int .i64 ((m.o.best.n : Nat) : Int), .int .i64 ((m.o.best.who : Nat) : Int), .int .i64 m.o.best.val, .bool m.o.sec, .int .u32 ((mk (m.o.seen ++ [i]) : Nat) : Int), .int .i64 ((m.o.many + 1 : Nat) : Int)], Hp.rec_ m.b2 [.int .i64 3, .int .i64 0, .bool m.o.wr, .int .i64 m.o.val, .int .i64 ((m.o.frm : Nat) : Int), .int .i64 ((mom : Nat) : Int)], R0, R]) rfl ?_
        refine Gx.eff0 rfl rfl (eff_store rfl Try.ty44 rfl rfl (us := [.pointer none]) rfl rfl rfl (k := 0) rfl (rfl) (vs' := [cv, ov, nowV (mo.map Om.b) a0, nowV (mo.map Om.b) a1, nowV (mo.map Om.b) a2, .pointer none]) (rfl) (l' := [Hp.rec_ S [cv, ov, nowV (mo.map Om.b) a0, nowV (mo.map Om.b) a1, nowV (mo.map Om.b) a2, .pointer none], Hp.own Fsd 3 cv (storeR cs i m.o.best), Hp.own FP 1 ov (mo.map Om.b), Hp.rec_ m.b [ptr m.b2 0, .int .i64 ((m.o.best.n : Nat) : Int), .int .i64 ((m.o.best.who : Nat) : Int), .int .i64 m.o.best.val, .bool m.o.sec, .int .u32 ((mk (m.o.seen ++ [i]) : Nat) : Int), .int .i64 ((m.o.many + 1 : Nat) : Int)], Hp.rec_ m.b2 [.int .i64 3, .int .i64 0, .bool m.o.wr, .int .i64 m.o.val, .int .i64 ((m.o.frm : Nat) : Int), .int .i64 ((mom : Nat) : Int)], R0, R]) rfl) ?_
        rintro _ _ rfl
        refine Gx.done ?_
        refine Gx.thenN ?_
        refine Gx.seq ?_
        refine Gx.region ?_
        refine Gx.val rfl rfl rfl (val_assign rfl rfl) ?_
        refine Gx.done ?_
        refine Gx.thenN ?_
        refine Gx.ret ?_
        refine Gx.thenR ?_
        have ht : ¬ 2 * (m.o.many + 1) ≤ cs.length := by omega
        have hO : (if 2 * (m.o.many + 1) ≤ cs.length then seeR cs i m.o else turnO (seeR cs i m.o) mom) = ⟨3, m.o.wr, m.o.val, m.o.frm, ((mom : Nat) : Int), m.o.best, m.o.sec, (m.o.seen ++ [i]), (m.o.many + 1)⟩ := by
          rw [if_neg ht]
          obtain ⟨b1, b2, ⟨o1, o2, o3, o4, o5, o6, o7, o8, o9⟩⟩ := m
          dsimp only at *
          subst hw
          simp only [seeR, turnO, hci, h1, (by simpa using h4), if_true, if_false, Bool.false_eq_true]
        have hC : (if m.o.sec = true then storeR cs i m.o.best else cs) = (storeR cs i m.o.best) := by rw [if_pos h1]
        have hN : (if 2 * (m.o.many + 1) ≤ cs.length then ([a0, a1, a2, (some k)] : List (Option Nat)) else if m.o.sec = true then [a0, a1, a2, none] else [a0, a1, a2, (some k)]) = [a0, a1, a2, none] := by rw [if_neg ht, if_pos h1]
        refine Gx.ret1 Try.results15 rfl ?_
        refine ⟨rfl, ?_⟩
        rw [hO, hC, hN]
        exact reg_shut (a0 := a0) (a1 := a1) (a2 := a2) (a3 := none) hk hb2 (⟨m.b, m.b2, ⟨3, m.o.wr, m.o.val, m.o.frm, ((mom : Nat) : Int), m.o.best, m.o.sec, (m.o.seen ++ [i]), (m.o.many + 1)⟩⟩ : Om) rfl
  · refine Gx.seq ?_
    refine Gx.region ?_
    refine Gx.val rfl rfl rfl (val_move rfl rfl) ?_
    refine Gx.val rfl rfl rfl (val_nilCheck rfl rfl) ?_
    refine Gx.val rfl rfl rfl (Val.cast (val_fieldAddr rfl Try.underlying47 rfl Try.ty42 rfl rfl) (v' := ptr S 0) rfl) ?_
    refine Gx.val rfl rfl rfl (val_load rfl Try.ty42 rfl rfl (cell_rec (k := 0) rfl rfl)) ?_
    refine Gx.val rfl rfl rfl (val_move rfl rfl) ?_
    refine Gx.val rfl rfl rfl (val_ixa rfl Try.underlying42 Try.ty51 rfl rfl (j := i) (rfl) (reach_own (k := 1) rfl hci)) ?_
    refine Gx.val rfl rfl rfl (Val.cast (val_loadA rfl Try.ty51 rfl rfl rfl (cells_own (k := 1) rfl hci)) (v' := .agg #[.int .i64 ((c0.n : Nat) : Int), .int .i64 ((c0.who : Nat) : Int), .int .i64 c0.val]) rfl) ?_
    refine Gx.eff rfl rfl rfl (eff_alloc rfl Try.ty51 (vs := [.int .i64 0, .int .i64 0, .int .i64 0]) rfl) ?_
    rintro _ _ ⟨b5, rfl, rfl⟩
    refine Gx.eff0 rfl rfl (eff_store rfl Try.ty51 rfl rfl (us := [.int .i64 ((c0.n : Nat) : Int), .int .i64 ((c0.who : Nat) : Int), .int .i64 c0.val]) rfl rfl rfl (k := 0) rfl (rfl) (vs' := [.int .i64 ((c0.n : Nat) : Int), .int .i64 ((c0.who : Nat) : Int), .int .i64 c0.val]) (rfl) (l' := [Hp.rec_ b5 [.int .i64 ((c0.n : Nat) : Int), .int .i64 ((c0.who : Nat) : Int), .int .i64 c0.val], Hp.rec_ S [cv, ov, nowV (mo.map Om.b) a0, nowV (mo.map Om.b) a1, nowV (mo.map Om.b) a2, nowV (mo.map Om.b) (some k)], Hp.own Fsd 3 cv cs, Hp.own FP 1 ov (mo.map Om.b), Hp.rec_ m.b [ptr m.b2 0, .int .i64 ((m.o.best.n : Nat) : Int), .int .i64 ((m.o.best.who : Nat) : Int), .int .i64 m.o.best.val, .bool m.o.sec, .int .u32 ((mk (m.o.seen ++ [i]) : Nat) : Int), .int .i64 ((m.o.many + 1 : Nat) : Int)], Hp.rec_ m.b2 [.int .i64 3, .int .i64 0, .bool m.o.wr, .int .i64 m.o.val, .int .i64 ((m.o.frm : Nat) : Int), .int .i64 m.o.to], R0, R]) rfl) ?_
    rintro _ _ rfl
    refine Gx.done ?_
    refine Gx.thenN ?_
    refine Gx.seq ?_
    refine Gx.regionQ Try.mixed (by kernel_rfl) ?_
    refine Gq.val rfl rfl rfl (Val.cast (val_loadA rfl Try.ty51 rfl rfl rfl (cells_rec (k := 0) rfl)) (v' := .agg #[.int .i64 ((c0.n : Nat) : Int), .int .i64 ((c0.who : Nat) : Int), .int .i64 c0.val]) rfl) ?_
    refine Gq.val rfl rfl rfl (val_move rfl rfl) ?_
    refine Gq.val rfl rfl rfl (val_nilCheck rfl rfl) ?_
    refine Gq.val rfl rfl rfl (Val.cast (val_fieldAddr rfl Try.underlying54 rfl Try.ty51 rfl rfl) (v' := ptr m.b 1) rfl) ?_
    refine Gq.val rfl rfl rfl (Val.cast (val_loadA rfl Try.ty51 rfl rfl (us := [.int .i64 ((m.o.best.n : Nat) : Int), .int .i64 ((m.o.best.who : Nat) : Int), .int .i64 m.o.best.val]) rfl (cells_rec_at (k := 4) (i := 1) (n := 3) rfl rfl)) (v' := .agg #[.int .i64 ((m.o.best.n : Nat) : Int), .int .i64 ((m.o.best.who : Nat) : Int), .int .i64 m.o.best.val]) rfl) ?_
    refine Gq.val rfl rfl rfl (val_call (vs := [.agg #[.int .i64 ((c0.n : Nat) : Int), .int .i64 ((c0.who : Nat) : Int), .int .i64 c0.val], .agg #[.int .i64 ((m.o.best.n : Nat) : Int), .int .i64 ((m.o.best.who : Nat) : Int), .int .i64 m.o.best.val]]) rfl Try.fn20 rfl (fun w H => later_any c0 m.o.best)) ?_
    refine Gq.done ?_
    refine Gx.thenN ?_
    refine Gx.bool rfl (fun h6 => ?_) (fun h6 => ?_)
    · refine Gx.region ?_
      refine Gx.val rfl rfl rfl (val_move rfl rfl) ?_
      refine Gx.val rfl rfl rfl (Val.cast (val_loadA rfl Try.ty51 rfl rfl rfl (cells_rec (k := 0) rfl)) (v' := .agg #[.int .i64 ((c0.n : Nat) : Int), .int .i64 ((c0.who : Nat) : Int), .int .i64 c0.val]) rfl) ?_
      refine Gx.val rfl rfl rfl (val_nilCheck rfl rfl) ?_
      refine Gx.val rfl rfl rfl (Val.cast (val_fieldAddr rfl Try.underlying54 rfl Try.ty51 rfl rfl) (v' := ptr m.b 1) rfl) ?_
      refine Gx.eff0 rfl rfl (eff_store rfl Try.ty51 rfl rfl (us := [.int .i64 ((c0.n : Nat) : Int), .int .i64 ((c0.who : Nat) : Int), .int .i64 c0.val]) rfl rfl rfl (k := 4) rfl (rfl) (vs' := [ptr m.b2 0, .int .i64 ((c0.n : Nat) : Int), .int .i64 ((c0.who : Nat) : Int), .int .i64 c0.val, .bool m.o.sec, .int .u32 ((mk (m.o.seen ++ [i]) : Nat) : Int), .int .i64 ((m.o.many + 1 : Nat) : Int)]) (rfl) (l' := [Hp.rec_ b5 [.int .i64 ((c0.n : Nat) : Int), .int .i64 ((c0.who : Nat) : Int), .int .i64 c0.val], Hp.rec_ S [cv, ov, nowV (mo.map Om.b) a0, nowV (mo.map Om.b) a1, nowV (mo.map Om.b) a2, nowV (mo.map Om.b) (some k)], Hp.own Fsd 3 cv cs, Hp.own FP 1 ov (mo.map Om.b), Hp.rec_ m.b [ptr m.b2 0, .int .i64 ((c0.n : Nat) : Int), .int .i64 ((c0.who : Nat) : Int), .int .i64 c0.val, .bool m.o.sec, .int .u32 ((mk (m.o.seen ++ [i]) : Nat) : Int), .int .i64 ((m.o.many + 1 : Nat) : Int)], Hp.rec_ m.b2 [.int .i64 3, .int .i64 0, .bool m.o.wr, .int .i64 m.o.val, .int .i64 ((m.o.frm : Nat) : Int), .int .i64 m.o.to], R0, R]) rfl) ?_
      rintro _ _ rfl
      refine Gx.done ?_
      refine Gx.thenN ?_
      refine Gx.seq ?_
      refine Gx.seq ?_
      refine Gx.regionQ Try.mixed (by kernel_rfl) ?_
      refine Gq.val rfl rfl rfl (val_move rfl rfl) ?_
      refine Gq.val rfl rfl rfl (val_nilCheck rfl rfl) ?_
      refine Gq.val rfl rfl rfl (Val.cast (val_fieldAddr rfl Try.underlying54 rfl Try.ty3 rfl rfl) (v' := ptr m.b 6) rfl) ?_
      refine Gq.val rfl rfl rfl (val_load rfl Try.ty3 rfl rfl (cell_rec (k := 4) rfl rfl)) ?_
      refine Gq.val rfl rfl rfl (val_mul rfl rfl rfl (r := ((2 * (m.o.many + 1) : Nat) : Int)) (w64 (by omega) (by omega))) ?_
      refine Gq.val rfl rfl rfl (val_move rfl rfl) ?_
      refine Gq.val rfl rfl rfl (val_nilCheck rfl rfl) ?_
      refine Gq.val rfl rfl rfl (Val.cast (val_fieldAddr rfl Try.underlying47 rfl Try.ty42 rfl rfl) (v' := ptr S 0) rfl) ?_
      refine Gq.val rfl rfl rfl (val_load rfl Try.ty42 rfl rfl (cell_rec (k := 1) rfl rfl)) ?_
      refine Gq.val rfl rfl rfl (val_len rfl Try.underlying42 rfl (len_own (k := 2) rfl)) ?_
      refine Gq.val rfl rfl rfl (val_leq rfl rfl rfl) ?_
      refine Gq.done ?_
      refine Gx.thenN ?_
      refine Gx.dec rfl (fun h7 => ?_) (fun h7 => ?_)
      · refine Gx.seq ?_
        refine Gx.region ?_
        refine Gx.val rfl rfl rfl (val_assign rfl rfl) ?_
        refine Gx.done ?_
        refine Gx.thenN ?_
        refine Gx.ret ?_
        refine Gx.thenR ?_
        refine Gx.drop 0 rfl ?_
        have ht : 2 * (m.o.many + 1) ≤ cs.length := by omega
        have hO : (if 2 * (m.o.many + 1) ≤ cs.length then seeR cs i m.o else turnO (seeR cs i m.o) mom) = ⟨3, m.o.wr, m.o.val, m.o.frm, m.o.to, c0, m.o.sec, (m.o.seen ++ [i]), (m.o.many + 1)⟩ := by
          rw [if_pos ht]
          obtain ⟨b1, b2, ⟨o1, o2, o3, o4, o5, o6, o7, o8, o9⟩⟩ := m
          dsimp only at *
          subst hw
          simp only [seeR, turnO, hci, h1, h6, if_true, if_false, Bool.false_eq_true]
        have hC : (if m.o.sec = true then storeR cs i m.o.best else cs) = cs := by rw [if_neg (by rw [h1]; decide)]
        have hN : (if 2 * (m.o.many + 1) ≤ cs.length then ([a0, a1, a2, (some k)] : List (Option Nat)) else if m.o.sec = true then [a0, a1, a2, none] else [a0, a1, a2, (some k)]) = [a0, a1, a2, (some k)] := by rw [if_pos ht]
        refine Gx.ret1 Try.results15 rfl ?_
        refine ⟨rfl, ?_⟩
        rw [hO, hC, hN]
        exact reg_shut (a0 := a0) (a1 := a1) (a2 := a2) (a3 := (some k)) hk hb2 (⟨m.b, m.b2, ⟨3, m.o.wr, m.o.val, m.o.frm, m.o.to, c0, m.o.sec, (m.o.seen ++ [i]), (m.o.many + 1)⟩⟩ : Om) rfl
      · refine Gx.skip ?_
        refine Gx.thenN ?_
        refine Gx.seq ?_
        refine Gx.seq ?_
        refine Gx.region ?_
        refine Gx.val rfl rfl rfl (val_move rfl rfl) ?_
        refine Gx.val rfl rfl rfl (val_nilCheck rfl rfl) ?_
        refine Gx.val rfl rfl rfl (Val.cast (val_fieldAddr rfl Try.underlying54 rfl Try.ty4 rfl rfl) (v' := ptr m.b 4) rfl) ?_
        refine Gx.val rfl rfl rfl (val_load rfl Try.ty4 rfl rfl (cell_rec (k := 4) rfl rfl)) ?_
        refine Gx.done ?_
        refine Gx.thenN ?_
        refine Gx.boolF rfl (h1) ?_
        refine Gx.skip ?_
        refine Gx.thenN ?_
        refine Gx.seq ?_
        refine Gx.region ?_
        refine Gx.val rfl rfl rfl (val_move rfl rfl) ?_
        refine Gx.val rfl rfl rfl (val_move rfl rfl) ?_
        refine Gx.val rfl rfl rfl (val_move rfl rfl) ?_
        refine Gx.val rfl rfl rfl (val_nilCheck rfl rfl) ?_
        refine Gx.val rfl rfl rfl (Val.cast (val_fieldAddr rfl Try.underlying54 rfl Try.ty4 rfl rfl) (v' := ptr m.b 4) rfl) ?_
        refine Gx.eff0 rfl rfl (eff_store rfl Try.ty4 rfl rfl (us := [.bool true]) rfl rfl rfl (k := 4) rfl (rfl) (vs' := [ptr m.b2 0, .int .i64 ((c0.n : Nat) : Int), .int .i64 ((c0.who : Nat) : Int), .int .i64 c0.val, .bool true, .int .u32 ((mk (m.o.seen ++ [i]) : Nat) : Int), .int .i64 ((m.o.many + 1 : Nat) : Int)]) (rfl) (l' := [Hp.rec_ b5 [.int .i64 ((c0.n : Nat) : Int), .int .i64 ((c0.who : Nat) : Int), .int .i64 c0.val], Hp.rec_ S [cv, ov, nowV (mo.map Om.b) a0, nowV (mo.map Om.b) a1, nowV (mo.map Om.b) a2, nowV (mo.map Om.b) (some k)], Hp.own Fsd 3 cv cs, Hp.own FP 1 ov (mo.map Om.b), Hp.rec_ m.b [ptr m.b2 0, .int .i64 ((c0.n : Nat) : Int), .int .i64 ((c0.who : Nat) : Int), .int .i64 c0.val, .bool true, .int .u32 ((mk (m.o.seen ++ [i]) : Nat) : Int), .int .i64 ((m.o.many + 1 : Nat) : Int)], Hp.rec_ m.b2 [.int .i64 3, .int .i64 0, .bool m.o.wr, .int .i64 m.o.val, .int .i64 ((m.o.frm : Nat) : Int), .int .i64 m.o.to], R0, R]) rfl) ?_
        rintro _ _ rfl
        refine Gx.val rfl rfl rfl (val_nilCheck rfl rfl) ?_
        refine Gx.val rfl rfl rfl (Val.cast (val_fieldAddr rfl Try.underlying54 rfl Try.ty52 rfl rfl) (v' := ptr m.b 5) rfl) ?_
        refine Gx.eff0 rfl rfl (eff_store rfl Try.ty52 rfl rfl (us := [.int .u32 0]) rfl rfl rfl (k := 4) rfl (rfl) (vs' := [ptr m.b2 0, .int .i64 ((c0.n : Nat) : Int), .int .i64 ((c0.who : Nat) : Int), .int .i64 c0.val, .bool true, .int .u32 0, .int .i64 ((m.o.many + 1 : Nat) : Int)]) (rfl) (l' := [Hp.rec_ b5 [.int .i64 ((c0.n : Nat) : Int), .int .i64 ((c0.who : Nat) : Int), .int .i64 c0.val], Hp.rec_ S [cv, ov, nowV (mo.map Om.b) a0, nowV (mo.map Om.b) a1, nowV (mo.map Om.b) a2, nowV (mo.map Om.b) (some k)], Hp.own Fsd 3 cv cs, Hp.own FP 1 ov (mo.map Om.b), Hp.rec_ m.b [ptr m.b2 0, .int .i64 ((c0.n : Nat) : Int), .int .i64 ((c0.who : Nat) : Int), .int .i64 c0.val, .bool true, .int .u32 0, .int .i64 ((m.o.many + 1 : Nat) : Int)], Hp.rec_ m.b2 [.int .i64 3, .int .i64 0, .bool m.o.wr, .int .i64 m.o.val, .int .i64 ((m.o.frm : Nat) : Int), .int .i64 m.o.to], R0, R]) rfl) ?_
        rintro _ _ rfl
        refine Gx.val rfl rfl rfl (val_nilCheck rfl rfl) ?_
        refine Gx.val rfl rfl rfl (Val.cast (val_fieldAddr rfl Try.underlying54 rfl Try.ty3 rfl rfl) (v' := ptr m.b 6) rfl) ?_
        refine Gx.eff0 rfl rfl (eff_store rfl Try.ty3 rfl rfl (us := [.int .i64 0]) rfl rfl rfl (k := 4) rfl (rfl) (vs' := [ptr m.b2 0, .int .i64 ((c0.n : Nat) : Int), .int .i64 ((c0.who : Nat) : Int), .int .i64 c0.val, .bool true, .int .u32 0, .int .i64 0]) (rfl) (l' := [Hp.rec_ b5 [.int .i64 ((c0.n : Nat) : Int), .int .i64 ((c0.who : Nat) : Int), .int .i64 c0.val], Hp.rec_ S [cv, ov, nowV (mo.map Om.b) a0, nowV (mo.map Om.b) a1, nowV (mo.map Om.b) a2, nowV (mo.map Om.b) (some k)], Hp.own Fsd 3 cv cs, Hp.own FP 1 ov (mo.map Om.b), Hp.rec_ m.b [ptr m.b2 0, .int .i64 ((c0.n : Nat) : Int), .int .i64 ((c0.who : Nat) : Int), .int .i64 c0.val, .bool true, .int .u32 0, .int .i64 0], Hp.rec_ m.b2 [.int .i64 3, .int .i64 0, .bool m.o.wr, .int .i64 m.o.val, .int .i64 ((m.o.frm : Nat) : Int), .int .i64 m.o.to], R0, R]) rfl) ?_
        rintro _ _ rfl
        refine Gx.done ?_
        refine Gx.thenN ?_
        refine Gx.seq ?_
        refine Gx.seq ?_
        refine Gx.region ?_
        refine Gx.val rfl rfl rfl (val_move rfl rfl) ?_
        refine Gx.val rfl rfl rfl (val_nilCheck rfl rfl) ?_
        refine Gx.val rfl rfl rfl (Val.cast (val_fieldAddr rfl Try.underlying54 rfl Try.ty49 rfl rfl) (v' := ptr m.b 0) rfl) ?_
        refine Gx.val rfl rfl rfl (val_load rfl Try.ty49 rfl rfl (cell_rec (k := 4) rfl rfl)) ?_
        refine Gx.val rfl rfl rfl (val_nilCheck rfl rfl) ?_
        refine Gx.val rfl rfl rfl (Val.cast (val_fieldAddr rfl Try.underlying33 rfl Try.ty4 rfl rfl) (v' := ptr m.b2 2) rfl) ?_
        refine Gx.val rfl rfl rfl (val_load rfl Try.ty4 rfl rfl (cell_rec (k := 5) rfl rfl)) ?_
        refine Gx.done ?_
        refine Gx.thenN ?_
        refine Gx.bool rfl (fun h8 => ?_) (fun h8 => ?_)
        · refine Gx.regionO (fun j => false) 24 [0, 1, 2, 3, 4, 5, 6, 7, 8, 9, 10, 11, 12, 13, 14, 15, 16, 17, 18, 19, 20, 21, 22, 23] (fun _ => [Hp.rec_ b5 [.int .i64 ((c0.n : Nat) : Int), .int .i64 ((c0.who : Nat) : Int), .int .i64 c0.val], Hp.rec_ S [cv, ov, nowV (mo.map Om.b) a0, nowV (mo.map Om.b) a1, nowV (mo.map Om.b) a2, nowV (mo.map Om.b) (some k)], Hp.own Fsd 3 cv cs, Hp.own FP 1 ov (mo.map Om.b), Hp.rec_ m.b [ptr m.b2 0, .int .i64 ((c0.n : Nat) : Int), .int .i64 ((c0.who : Nat) : Int), .int .i64 c0.val, .bool true, .int .u32 0, .int .i64 0], Hp.rec_ m.b2 [.int .i64 3, .int .i64 0, .bool m.o.wr, .int .i64 m.o.val, .int .i64 ((m.o.frm : Nat) : Int), .int .i64 m.o.to], R0, R]) Try.mixed (by kernel_rfl) rfl ?_
          refine Gw.val rfl rfl rfl rfl rfl (fun us => val_move rfl rfl) ?_
          refine Gw.val rfl rfl rfl rfl rfl (fun us => val_move rfl rfl) ?_
          refine Gw.val rfl rfl rfl rfl rfl (fun us => val_nilCheck rfl rfl) ?_
          refine Gw.val rfl rfl rfl rfl rfl (fun us => Val.cast (val_fieldAddr rfl Try.underlying54 rfl Try.ty51 rfl rfl) (v' := ptr m.b 1) rfl) ?_
          refine Gw.val rfl rfl rfl rfl rfl (fun us => Val.cast (val_fieldAddr rfl Try.underlying51 rfl Try.ty3 rfl rfl) (v' := ptr m.b 1) rfl) ?_
          refine Gw.val0 rfl rfl rfl (by kernel_rfl) rfl rfl (val_load rfl Try.ty3 rfl rfl (cell_rec (k := 4) rfl rfl)) ?_
          refine Gw.val rfl rfl rfl rfl rfl (fun us => val_add rfl rfl rfl (r := ((c0.n + 1 : Nat) : Int)) (w64 (by omega) (by omega))) ?_
          refine Gw.val rfl rfl rfl rfl rfl (fun us => val_move rfl rfl) ?_
          refine Gw.val rfl rfl rfl rfl rfl (fun us => val_nilCheck rfl rfl) ?_
          refine Gw.val rfl rfl rfl rfl rfl (fun us => Val.cast (val_fieldAddr rfl Try.underlying54 rfl Try.ty49 rfl rfl) (v' := ptr m.b 0) rfl) ?_
          refine Gw.val0 rfl rfl rfl (by kernel_rfl) rfl rfl (val_load rfl Try.ty49 rfl rfl (cell_rec (k := 4) rfl rfl)) ?_
          refine Gw.val rfl rfl rfl rfl rfl (fun us => val_nilCheck rfl rfl) ?_
          refine Gw.val rfl rfl rfl rfl rfl (fun us => Val.cast (val_fieldAddr rfl Try.underlying33 rfl Try.ty3 rfl rfl) (v' := ptr m.b2 0) rfl) ?_
          refine Gw.val0 rfl rfl rfl (by kernel_rfl) rfl rfl (val_load rfl Try.ty3 rfl rfl (cell_rec (k := 5) rfl rfl)) ?_
          refine Gw.val rfl rfl rfl rfl rfl (fun us => val_move rfl rfl) ?_
          refine Gw.val rfl rfl rfl rfl rfl (fun us => val_nilCheck rfl rfl) ?_
          refine Gw.val rfl rfl rfl rfl rfl (fun us => Val.cast (val_fieldAddr rfl Try.underlying54 rfl Try.ty49 rfl rfl) (v' := ptr m.b 0) rfl) ?_
          refine Gw.val0 rfl rfl rfl (by kernel_rfl) rfl rfl (val_load rfl Try.ty49 rfl rfl (cell_rec (k := 4) rfl rfl)) ?_
          refine Gw.val rfl rfl rfl rfl rfl (fun us => val_nilCheck rfl rfl) ?_
          refine Gw.val rfl rfl rfl rfl rfl (fun us => Val.cast (val_fieldAddr rfl Try.underlying33 rfl Try.ty2 rfl rfl) (v' := ptr m.b2 3) rfl) ?_
          refine Gw.val0 rfl rfl rfl (by kernel_rfl) rfl rfl (val_load rfl Try.ty2 rfl rfl (cell_rec (k := 5) rfl rfl)) ?_
          refine Gw.val rfl rfl rfl rfl rfl (fun us => val_build rfl (qs := [(0, .int .i64 ((c0.n + 1 : Nat) : Int)), (1, .int .i64 3), (2, .int .i64 m.o.val)]) rfl rfl (fun w => by go_simp) (v := .agg #[.int .i64 ((c0.n + 1 : Nat) : Int), .int .i64 3, .int .i64 m.o.val])) ?_
          refine Gw.val rfl rfl rfl rfl rfl (fun us => val_nilCheck rfl rfl) ?_
          refine Gw.val rfl rfl rfl rfl rfl (fun us => Val.cast (val_fieldAddr rfl Try.underlying54 rfl Try.ty51 rfl rfl) (v' := ptr m.b 1) rfl) ?_
          refine Gw.done ?_
          refine Gx.norm (l' := [Hp.rec_ b5 [.int .i64 ((c0.n : Nat) : Int), .int .i64 ((c0.who : Nat) : Int), .int .i64 c0.val], Hp.rec_ S [cv, ov, nowV (mo.map Om.b) a0, nowV (mo.map Om.b) a1, nowV (mo.map Om.b) a2, nowV (mo.map Om.b) (some k)], Hp.own Fsd 3 cv cs, Hp.own FP 1 ov (mo.map Om.b), Hp.rec_ m.b [ptr m.b2 0, .int .i64 ((c0.n : Nat) : Int), .int .i64 ((c0.who : Nat) : Int), .int .i64 c0.val, .bool true, .int .u32 0, .int .i64 0], Hp.rec_ m.b2 [.int .i64 3, .int .i64 0, .bool m.o.wr, .int .i64 m.o.val, .int .i64 ((m.o.frm : Nat) : Int), .int .i64 m.o.to], R0, R]) rfl ?_
          refine Gx.eff0 rfl rfl (eff_store rfl Try.ty51 rfl rfl (us := [.int .i64 ((c0.n + 1 : Nat) : Int), .int .i64 3, .int .i64 m.o.val]) rfl rfl rfl (k := 4) rfl (rfl) (vs' := [ptr m.b2 0, .int .i64 ((c0.n + 1 : Nat) : Int), .int .i64 3, .int .i64 m.o.val, .bool true, .int .u32 0, .int .i64 0]) (rfl) (l' := [Hp.rec_ b5 [.int .i64 ((c0.n : Nat) : Int), .int .i64 ((c0.who : Nat) : Int), .int .i64 c0.val], Hp.rec_ S [cv, ov, nowV (mo.map Om.b) a0, nowV (mo.map Om.b) a1, nowV (mo.map Om.b) a2, nowV (mo.map Om.b) (some k)], Hp.own Fsd 3 cv cs, Hp.own FP 1 ov (mo.map Om.b), Hp.rec_ m.b [ptr m.b2 0, .int .i64 ((c0.n + 1 : Nat) : Int), .int .i64 3, .int .i64 m.o.val, .bool true, .int .u32 0, .int .i64 0], Hp.rec_ m.b2 [.int .i64 3, .int .i64 0, .bool m.o.wr, .int .i64 m.o.val, .int .i64 ((m.o.frm : Nat) : Int), .int .i64 m.o.to], R0, R]) rfl) ?_
          rintro _ _ rfl
          refine Gx.done ?_
          refine Gx.thenN ?_
          refine Gx.seq ?_
          refine Gx.region ?_
          refine Gx.val rfl rfl rfl (val_assign rfl rfl) ?_
          refine Gx.done ?_
          refine Gx.thenN ?_
          refine Gx.ret ?_
          refine Gx.drop 0 rfl ?_
          have ht : ¬ 2 * (m.o.many + 1) ≤ cs.length := by omega
          have hO : (if 2 * (m.o.many + 1) ≤ cs.length then seeR cs i m.o else turnO (seeR cs i m.o) mom) = ⟨3, m.o.wr, m.o.val, m.o.frm, m.o.to, ⟨c0.n + 1, 3, m.o.val⟩, true, [], 0⟩ := by
            rw [if_neg ht]
            obtain ⟨b1, b2, ⟨o1, o2, o3, o4, o5, o6, o7, o8, o9⟩⟩ := m
            dsimp only at *
            subst hw
            simp only [seeR, turnO, hci, h1, h6, h8, if_true, if_false, Bool.false_eq_true]
          have hC : (if m.o.sec = true then storeR cs i m.o.best else cs) = cs := by rw [if_neg (by rw [h1]; decide)]
          have hN : (if 2 * (m.o.many + 1) ≤ cs.length then ([a0, a1, a2, (some k)] : List (Option Nat)) else if m.o.sec = true then [a0, a1, a2, none] else [a0, a1, a2, (some k)]) = [a0, a1, a2, (some k)] := by rw [if_neg ht, if_neg (by rw [h1]; decide)]
          refine Gx.ret1 Try.results15 rfl ?_
          refine ⟨rfl, ?_⟩
          rw [hO, hC, hN]
          exact reg_shut (a0 := a0) (a1 := a1) (a2 := a2) (a3 := (some k)) hk hb2 (⟨m.b, m.b2, ⟨3, m.o.wr, m.o.val, m.o.frm, m.o.to, ⟨c0.n + 1, 3, m.o.val⟩, true, [], 0⟩⟩ : Om) rfl
        · refine Gx.skip ?_
          refine Gx.thenN ?_
          refine Gx.seq ?_
          refine Gx.region ?_
          refine Gx.val rfl rfl rfl (val_assign rfl rfl) ?_
          refine Gx.done ?_
          refine Gx.thenN ?_
          refine Gx.ret ?_
          refine Gx.drop 0 rfl ?_
          have ht : ¬ 2 * (m.o.many + 1) ≤ cs.length := by omega
          have hO : (if 2 * (m.o.many + 1) ≤ cs.length then seeR cs i m.o else turnO (seeR cs i m.o) mom) = ⟨3, m.o.wr, m.o.val, m.o.frm, m.o.to, c0, true, [], 0⟩ := by
            rw [if_neg ht]
            obtain ⟨b1, b2, ⟨o1, o2, o3, o4, o5, o6, o7, o8, o9⟩⟩ := m
            dsimp only at *
            subst hw
            simp only [seeR, turnO, hci, h1, h6, h8, if_true, if_false, Bool.false_eq_true]
          have hC : (if m.o.sec = true then storeR cs i m.o.best else cs) = cs := by rw [if_neg (by rw [h1]; decide)]
          have hN : (if 2 * (m.o.many + 1) ≤ cs.length then ([a0, a1, a2, (some k)] : List (Option Nat)) else if m.o.sec = true then [a0, a1, a2, none] else [a0, a1, a2, (some k)]) = [a0, a1, a2, (some k)] := by rw [if_neg ht, if_neg (by rw [h1]; decide)]
          refine Gx.ret1 Try.results15 rfl ?_
          refine ⟨rfl, ?_⟩
          rw [hO, hC, hN]
          exact reg_shut (a0 := a0) (a1 := a1) (a2 := a2) (a3 := (some k)) hk hb2 (⟨m.b, m.b2, ⟨3, m.o.wr, m.o.val, m.o.frm, m.o.to, c0, true, [], 0⟩⟩ : Om) rfl
    · refine Gx.skip ?_
      refine Gx.thenN ?_
      refine Gx.seq ?_
      refine Gx.seq ?_
      refine Gx.regionQ Try.mixed (by kernel_rfl) ?_
      refine Gq.val rfl rfl rfl (val_move rfl rfl) ?_
      refine Gq.val rfl rfl rfl (val_nilCheck rfl rfl) ?_
      refine Gq.val rfl rfl rfl (Val.cast (val_fieldAddr rfl Try.underlying54 rfl Try.ty3 rfl rfl) (v' := ptr m.b 6) rfl) ?_
      refine Gq.val rfl rfl rfl (val_load rfl Try.ty3 rfl rfl (cell_rec (k := 4) rfl rfl)) ?_
      refine Gq.val rfl rfl rfl (val_mul rfl rfl rfl (r := ((2 * (m.o.many + 1) : Nat) : Int)) (w64 (by omega) (by omega))) ?_
      refine Gq.val rfl rfl rfl (val_move rfl rfl) ?_
      refine Gq.val rfl rfl rfl (val_nilCheck rfl rfl) ?_
      refine Gq.val rfl rfl rfl (Val.cast (val_fieldAddr rfl Try.underlying47 rfl Try.ty42 rfl rfl) (v' := ptr S 0) rfl) ?_
      refine Gq.val rfl rfl rfl (val_load rfl Try.ty42 rfl rfl (cell_rec (k := 1) rfl rfl)) ?_
      refine Gq.val rfl rfl rfl (val_len rfl Try.underlying42 rfl (len_own (k := 2) rfl)) ?_
      refine Gq.val rfl rfl rfl (val_leq rfl rfl rfl) ?_
      refine Gq.done ?_
      refine Gx.thenN ?_
      refine Gx.dec rfl (fun h9 => ?_) (fun h9 => ?_)
      · refine Gx.seq ?_
        refine Gx.region ?_
        refine Gx.val rfl rfl rfl (val_assign rfl rfl) ?_
        refine Gx.done ?_
        refine Gx.thenN ?_
        refine Gx.ret ?_
        refine Gx.thenR ?_
        refine Gx.drop 0 rfl ?_
        have ht : 2 * (m.o.many + 1) ≤ cs.length := by omega
        have hO : (if 2 * (m.o.many + 1) ≤ cs.length then seeR cs i m.o else turnO (seeR cs i m.o) mom) = ⟨3, m.o.wr, m.o.val, m.o.frm, m.o.to, m.o.best, m.o.sec, (m.o.seen ++ [i]), (m.o.many + 1)⟩ := by
          rw [if_pos ht]
          obtain ⟨b1, b2, ⟨o1, o2, o3, o4, o5, o6, o7, o8, o9⟩⟩ := m
          dsimp only at *
          subst hw
          simp only [seeR, turnO, hci, h1, h6, if_true, if_false, Bool.false_eq_true]
        have hC : (if m.o.sec = true then storeR cs i m.o.best else cs) = cs := by rw [if_neg (by rw [h1]; decide)]
        have hN : (if 2 * (m.o.many + 1) ≤ cs.length then ([a0, a1, a2, (some k)] : List (Option Nat)) else if m.o.sec = true then [a0, a1, a2, none] else [a0, a1, a2, (some k)]) = [a0, a1, a2, (some k)] := by rw [if_pos ht]
        refine Gx.ret1 Try.results15 rfl ?_
        refine ⟨rfl, ?_⟩
        rw [hO, hC, hN]
        exact reg_shut (a0 := a0) (a1 := a1) (a2 := a2) (a3 := (some k)) hk hb2 (⟨m.b, m.b2, ⟨3, m.o.wr, m.o.val, m.o.frm, m.o.to, m.o.best, m.o.sec, (m.o.seen ++ [i]), (m.o.many + 1)⟩⟩ : Om) rfl
      · refine Gx.skip ?_
        refine Gx.thenN ?_
        refine Gx.seq ?_
        refine Gx.seq ?_
        refine Gx.region ?_
        refine Gx.val rfl rfl rfl (val_move rfl rfl) ?_
        refine Gx.val rfl rfl rfl (val_nilCheck rfl rfl) ?_
        refine Gx.val rfl rfl rfl (Val.cast (val_fieldAddr rfl Try.underlying54 rfl Try.ty4 rfl rfl) (v' := ptr m.b 4) rfl) ?_
        refine Gx.val rfl rfl rfl (val_load rfl Try.ty4 rfl rfl (cell_rec (k := 4) rfl rfl)) ?_
        refine Gx.done ?_
        refine Gx.thenN ?_
        refine Gx.boolF rfl (h1) ?_
        refine Gx.skip ?_
        refine Gx.thenN ?_
        refine Gx.seq ?_
        refine Gx.region ?_
        refine Gx.val rfl rfl rfl (val_move rfl rfl) ?_
        refine Gx.val rfl rfl rfl (val_move rfl rfl) ?_
        refine Gx.val rfl rfl rfl (val_move rfl rfl) ?_
        refine Gx.val rfl rfl rfl (val_nilCheck rfl rfl) ?_
        refine Gx.val rfl rfl rfl (Val.cast (val_fieldAddr rfl Try.underlying54 rfl Try.ty4 rfl rfl) (v' := ptr m.b 4) rfl) ?_
        refine Gx.eff0 rfl rfl (eff_store rfl Try.ty4 rfl rfl (us := [.bool true]) rfl rfl rfl (k := 4) rfl (rfl) (vs' := [ptr m.b2 0, .int .i64 ((m.o.best.n : Nat) : Int), .int .i64 ((m.o.best.who : Nat) : Int), .int .i64 m.o.best.val, .bool true, .int .u32 ((mk (m.o.seen ++ [i]) : Nat) : Int), .int .i64 ((m.o.many + 1 : Nat) : Int)]) (rfl) (l' := [Hp.rec_ b5 [.int .i64 ((c0.n : Nat) : Int), .int .i64 ((c0.who : Nat) : Int), .int .i64 c0.val], Hp.rec_ S [cv, ov, nowV (mo.map Om.b) a0, nowV (mo.map Om.b) a1, nowV (mo.map Om.b) a2, nowV (mo.map Om.b) (some k)], Hp.own Fsd 3 cv cs, Hp.own FP 1 ov (mo.map Om.b), Hp.rec_ m.b [ptr m.b2 0, .int .i64 ((m.o.best.n : Nat) : Int), .int .i64 ((m.o.best.who : Nat) : Int), .int .i64 m.o.best.val, .bool true, .int .u32 ((mk (m.o.seen ++ [i]) : Nat) : Int), .int .i64 ((m.o.many + 1 : Nat) : Int)], Hp.rec_ m.b2 [.int .i64 3, .int .i64 0, .bool m.o.wr, .int .i64 m.o.val, .int .i64 ((m.o.frm : Nat) : Int), .int .i64 m.o.to], R0, R]) rfl) ?_
        rintro _ _ rfl
        refine Gx.val rfl rfl rfl (val_nilCheck rfl rfl) ?_
        refine Gx.val rfl rfl rfl (Val.cast (val_fieldAddr rfl Try.underlying54 rfl Try.ty52 rfl rfl) (v' := ptr m.b 5) rfl) ?_
        refine Gx.eff0 rfl rfl (eff_store rfl Try.ty52 rfl rfl (us := [.int .u32 0]) rfl rfl rfl (k := 4) rfl (rfl) (vs' := [ptr m.b2 0, .int .i64 ((m.o.best.n : Nat) : Int), .int .i64 ((m.o.best.who : Nat) : Int), .int .i64 m.o.best.val, .bool true, .int .u32 0, .int .i64 ((m.o.many + 1 : Nat) : Int)]) (rfl) (l' := [Hp.rec_ b5 [.int .i64 ((c0.n : Nat) : Int), .int .i64 ((c0.who : Nat) : Int), .int .i64 c0.val], Hp.rec_ S [cv, ov, nowV (mo.map Om.b) a0, nowV (mo.map Om.b) a1, nowV (mo.map Om.b) a2, nowV (mo.map Om.b) (some k)], Hp.own Fsd 3 cv cs, Hp.own FP 1 ov (mo.map Om.b), Hp.rec_ m.b [ptr m.b2 0, .int .i64 ((m.o.best.n : Nat) : Int), .int .i64 ((m.o.best.who : Nat) : Int), .int .i64 m.o.best.val, .bool true, .int .u32 0, .int .i64 ((m.o.many + 1 : Nat) : Int)], Hp.rec_ m.b2 [.int .i64 3, .int .i64 0, .bool m.o.wr, .int .i64 m.o.val, .int .i64 ((m.o.frm : Nat) : Int), .int .i64 m.o.to], R0, R]) rfl) ?_
        rintro _ _ rfl
        refine Gx.val rfl rfl rfl (val_nilCheck rfl rfl) ?_
        refine Gx.val rfl rfl rfl (Val.cast (val_fieldAddr rfl Try.underlying54 rfl Try.ty3 rfl rfl) (v' := ptr m.b 6) rfl) ?_
        refine Gx.eff0 rfl rfl (eff_store rfl Try.ty3 rfl rfl (us := [.int .i64 0]) rfl rfl rfl (k := 4) rfl (rfl) (vs' := [ptr m.b2 0, .int .i64 ((m.o.best.n : Nat) : Int), .int .i64 ((m.o.best.who : Nat) : Int), .int .i64 m.o.best.val, .bool true, .int .u32 0, .int .i64 0]) (rfl) (l' := [Hp.rec_ b5 [.int .i64 ((c0.n : Nat) : Int), .int .i64 ((c0.who : Nat) : Int), .int .i64 c0.val], Hp.rec_ S [cv, ov, nowV (mo.map Om.b) a0, nowV (mo.map Om.b) a1, nowV (mo.map Om.b) a2, nowV (mo.map Om.b) (some k)], Hp.own Fsd 3 cv cs, Hp.own FP 1 ov (mo.map Om.b), Hp.rec_ m.b [ptr m.b2 0, .int .i64 ((m.o.best.n : Nat) : Int), .int .i64 ((m.o.best.who : Nat) : Int), .int .i64 m.o.best.val, .bool true, .int .u32 0, .int .i64 0], Hp.rec_ m.b2 [.int .i64 3, .int .i64 0, .bool m.o.wr, .int .i64 m.o.val, .int .i64 ((m.o.frm : Nat) : Int), .int .i64 m.o.to], R0, R]) rfl) ?_
        rintro _ _ rfl
        refine Gx.done ?_
        refine Gx.thenN ?_
        refine Gx.seq ?_
        refine Gx.seq ?_
        refine Gx.region ?_
        refine Gx.val rfl rfl rfl (val_move rfl rfl) ?_
        refine Gx.val rfl rfl rfl (val_nilCheck rfl rfl) ?_
        refine Gx.val rfl rfl rfl (Val.cast (val_fieldAddr rfl Try.underlying54 rfl Try.ty49 rfl rfl) (v' := ptr m.b 0) rfl) ?_
        refine Gx.val rfl rfl rfl (val_load rfl Try.ty49 rfl rfl (cell_rec (k := 4) rfl rfl)) ?_
        refine Gx.val rfl rfl rfl (val_nilCheck rfl rfl) ?_
        refine Gx.val rfl rfl rfl (Val.cast (val_fieldAddr rfl Try.underlying33 rfl Try.ty4 rfl rfl) (v' := ptr m.b2 2) rfl) ?_
        refine Gx.val rfl rfl rfl (val_load rfl Try.ty4 rfl rfl (cell_rec (k := 5) rfl rfl)) ?_
        refine Gx.done ?_
        refine Gx.thenN ?_
        refine Gx.bool rfl (fun h10 => ?_) (fun h10 => ?_)
        · refine Gx.regionO (fun j => false) 24 [0, 1, 2, 3, 4, 5, 6, 7, 8, 9, 10, 11, 12, 13, 14, 15, 16, 17, 18, 19, 20, 21, 22, 23] (fun _ => [Hp.rec_ b5 [.int .i64 ((c0.n : Nat) : Int), .int .i64 ((c0.who : Nat) : Int), .int .i64 c0.val], Hp.rec_ S [cv, ov, nowV (mo.map Om.b) a0, nowV (mo.map Om.b) a1, nowV (mo.map Om.b) a2, nowV (mo.map Om.b) (some k)], Hp.own Fsd 3 cv cs, Hp.own FP 1 ov (mo.map Om.b), Hp.rec_ m.b [ptr m.b2 0, .int .i64 ((m.o.best.n : Nat) : Int), .int .i64 ((m.o.best.who : Nat) : Int), .int .i64 m.o.best.val, .bool true, .int .u32 0, .int .i64 0], Hp.rec_ m.b2 [.int .i64 3, .int .i64 0, .bool m.o.wr, .int .i64 m.o.val, .int .i64 ((m.o.frm : Nat) : Int), .int .i64 m.o.to], R0, R]) Try.mixed (by kernel_rfl) rfl ?_
          refine Gw.val rfl rfl rfl rfl rfl (fun us => val_move rfl rfl) ?_
          refine Gw.val rfl rfl rfl rfl rfl (fun us => val_move rfl rfl) ?_
          refine Gw.val rfl rfl rfl rfl rfl (fun us => val_nilCheck rfl rfl) ?_
          refine Gw.val rfl rfl rfl rfl rfl (fun us => Val.cast (val_fieldAddr rfl Try.underlying54 rfl Try.ty51 rfl rfl) (v' := ptr m.b 1) rfl) ?_
          refine Gw.val rfl rfl rfl rfl rfl (fun us => Val.cast (val_fieldAddr rfl Try.underlying51 rfl Try.ty3 rfl rfl) (v' := ptr m.b 1) rfl) ?_
          refine Gw.val0 rfl rfl rfl (by kernel_rfl) rfl rfl (val_load rfl Try.ty3 rfl rfl (cell_rec (k := 4) rfl rfl)) ?_
          refine Gw.val rfl rfl rfl rfl rfl (fun us => val_add rfl rfl rfl (r := ((m.o.best.n + 1 : Nat) : Int)) (w64 (by omega) (by omega))) ?_
          refine Gw.val rfl rfl rfl rfl rfl (fun us => val_move rfl rfl) ?_
          refine Gw.val rfl rfl rfl rfl rfl (fun us => val_nilCheck rfl rfl) ?_
          refine Gw.val rfl rfl rfl rfl rfl (fun us => Val.cast (val_fieldAddr rfl Try.underlying54 rfl Try.ty49 rfl rfl) (v' := ptr m.b 0) rfl) ?_
          refine Gw.val0 rfl rfl rfl (by kernel_rfl) rfl rfl (val_load rfl Try.ty49 rfl rfl (cell_rec (k := 4) rfl rfl)) ?_
          refine Gw.val rfl rfl rfl rfl rfl (fun us => val_nilCheck rfl rfl) ?_
          refine Gw.val rfl rfl rfl rfl rfl (fun us => Val.cast (val_fieldAddr rfl Try.underlying33 rfl Try.ty3 rfl rfl) (v' := ptr m.b2 0) rfl) ?_
          refine Gw.val0 rfl rfl rfl (by kernel_rfl) rfl rfl (val_load rfl Try.ty3 rfl rfl (cell_rec (k := 5) rfl rfl)) ?_
          refine Gw.val rfl rfl rfl rfl rfl (fun us => val_move rfl rfl) ?_
          refine Gw.val rfl rfl rfl rfl rfl (fun us => val_nilCheck rfl rfl) ?_
          refine Gw.val rfl rfl rfl rfl rfl (fun us => Val.cast (val_fieldAddr rfl Try.underlying54 rfl Try.ty49 rfl rfl) (v' := ptr m.b 0) rfl) ?_
          refine Gw.val0 rfl rfl rfl (by kernel_rfl) rfl rfl (val_load rfl Try.ty49 rfl rfl (cell_rec (k := 4) rfl rfl)) ?_
          refine Gw.val rfl rfl rfl rfl rfl (fun us => val_nilCheck rfl rfl) ?_
          refine Gw.val rfl rfl rfl rfl rfl (fun us => Val.cast (val_fieldAddr rfl Try.underlying33 rfl Try.ty2 rfl rfl) (v' := ptr m.b2 3) rfl) ?_
          refine Gw.val0 rfl rfl rfl (by kernel_rfl) rfl rfl (val_load rfl Try.ty2 rfl rfl (cell_rec (k := 5) rfl rfl)) ?_
          refine Gw.val rfl rfl rfl rfl rfl (fun us => val_build rfl (qs := [(0, .int .i64 ((m.o.best.n + 1 : Nat) : Int)), (1, .int .i64 3), (2, .int .i64 m.o.val)]) rfl rfl (fun w => by go_simp) (v := .agg #[.int .i64 ((m.o.best.n + 1 : Nat) : Int), .int .i64 3, .int .i64 m.o.val])) ?_
          refine Gw.val rfl rfl rfl rfl rfl (fun us => val_nilCheck rfl rfl) ?_
          refine Gw.val rfl rfl rfl rfl rfl (fun us => Val.cast (val_fieldAddr rfl Try.underlying54 rfl Try.ty51 rfl rfl) (v' := ptr m.b 1) rfl) ?_
          refine Gw.done ?_
          refine Gx.norm (l' := [Hp.rec_ b5 [.int .i64 ((c0.n : Nat) : Int), .int .i64 ((c0.who : Nat) : Int), .int .i64 c0.val], Hp.rec_ S [cv, ov, nowV (mo.map Om.b) a0, nowV (mo.map Om.b) a1, nowV (mo.map Om.b) a2, nowV (mo.map Om.b) (some k)], Hp.own Fsd 3 cv cs, Hp.own FP 1 ov (mo.map Om.b), Hp.rec_ m.b [ptr m.b2 0, .int .i64 ((m.o.best.n : Nat) : Int), .int .i64 ((m.o.best.who : Nat) : Int), .int .i64 m.o.best.val, .bool true, .int .u32 0, .int .i64 0], Hp.rec_ m.b2 [.int .i64 3, .int .i64 0, .bool m.o.wr, .int .i64 m.o.val, .int .i64 ((m.o.frm : Nat) : Int), .int .i64 m.o.to], R0, R]) rfl ?_
          refine Gx.eff0 rfl rfl (eff_store rfl Try.ty51 rfl rfl (us := [.int .i64 ((m.o.best.n + 1 : Nat) : Int), .int .i64 3, .int .i64 m.o.val]) rfl rfl rfl (k := 4) rfl (rfl) (vs' := [ptr m.b2 0, .int .i64 ((m.o.best.n + 1 : Nat) : Int), .int .i64 3, .int .i64 m.o.val, .bool true, .int .u32 0, .int .i64 0]) (rfl) (l' := [Hp.rec_ b5 [.int .i64 ((c0.n : Nat) : Int), .int .i64 ((c0.who : Nat) : Int), .int .i64 c0.val], Hp.rec_ S [cv, ov, nowV (mo.map Om.b) a0, nowV (mo.map Om.b) a1, nowV (mo.map Om.b) a2, nowV (mo.map Om.b) (some k)], Hp.own Fsd 3 cv cs, Hp.own FP 1 ov (mo.map Om.b), Hp.rec_ m.b [ptr m.b2 0, .int .i64 ((m.o.best.n + 1 : Nat) : Int), .int .i64 3, .int .i64 m.o.val, .bool true, .int .u32 0, .int .i64 0], Hp.rec_ m.b2 [.int .i64 3, .int .i64 0, .bool m.o.wr, .int .i64 m.o.val, .int .i64 ((m.o.frm : Nat) : Int), .int .i64 m.o.to], R0, R]) rfl) ?_
          rintro _ _ rfl
          refine Gx.done ?_
          refine Gx.thenN ?_
          refine Gx.seq ?_
          refine Gx.region ?_
          refine Gx.val rfl rfl rfl (val_assign rfl rfl) ?_
          refine Gx.done ?_
          refine Gx.thenN ?_
          refine Gx.ret ?_
          refine Gx.drop 0 rfl ?_
          have ht : ¬ 2 * (m.o.many + 1) ≤ cs.length := by omega
          have hO : (if 2 * (m.o.many + 1) ≤ cs.length then seeR cs i m.o else turnO (seeR cs i m.o) mom) = ⟨3, m.o.wr, m.o.val, m.o.frm, m.o.to, ⟨m.o.best.n + 1, 3, m.o.val⟩, true, [], 0⟩ := by
            rw [if_neg ht]
            obtain ⟨b1, b2, ⟨o1, o2, o3, o4, o5, o6, o7, o8, o9⟩⟩ := m
            dsimp only at *
            subst hw
            simp only [seeR, turnO, hci, h1, h6, h10, if_true, if_false, Bool.false_eq_true]
          have hC : (if m.o.sec = true then storeR cs i m.o.best else cs) = cs := by rw [if_neg (by rw [h1]; decide)]
          have hN : (if 2 * (m.o.many + 1) ≤ cs.length then ([a0, a1, a2, (some k)] : List (Option Nat)) else if m.o.sec = true then [a0, a1, a2, none] else [a0, a1, a2, (some k)]) = [a0, a1, a2, (some k)] := by rw [if_neg ht, if_neg (by rw [h1]; decide)]
          refine Gx.ret1 Try.results15 rfl ?_
          refine ⟨rfl, ?_⟩
          rw [hO, hC, hN]
          exact reg_shut (a0 := a0) (a1 := a1) (a2 := a2) (a3 := (some k)) hk hb2 (⟨m.b, m.b2, ⟨3, m.o.wr, m.o.val, m.o.frm, m.o.to, ⟨m.o.best.n + 1, 3, m.o.val⟩, true, [], 0⟩⟩ : Om) rfl
        · refine Gx.skip ?_
          refine Gx.thenN ?_
          refine Gx.seq ?_
          refine Gx.region ?_
          refine Gx.val rfl rfl rfl (val_assign rfl rfl) ?_
          refine Gx.done ?_
          refine Gx.thenN ?_
          refine Gx.ret ?_
          refine Gx.drop 0 rfl ?_
          have ht : ¬ 2 * (m.o.many + 1) ≤ cs.length := by omega
          have hO : (if 2 * (m.o.many + 1) ≤ cs.length then seeR cs i m.o else turnO (seeR cs i m.o) mom) = ⟨3, m.o.wr, m.o.val, m.o.frm, m.o.to, m.o.best, true, [], 0⟩ := by
            rw [if_neg ht]
            obtain ⟨b1, b2, ⟨o1, o2, o3, o4, o5, o6, o7, o8, o9⟩⟩ := m
            dsimp only at *
            subst hw
            simp only [seeR, turnO, hci, h1, h6, h10, if_true, if_false, Bool.false_eq_true]
          have hC : (if m.o.sec = true then storeR cs i m.o.best else cs) = cs := by rw [if_neg (by rw [h1]; decide)]
          have hN : (if 2 * (m.o.many + 1) ≤ cs.length then ([a0, a1, a2, (some k)] : List (Option Nat)) else if m.o.sec = true then [a0, a1, a2, none] else [a0, a1, a2, (some k)]) = [a0, a1, a2, (some k)] := by rw [if_neg ht, if_neg (by rw [h1]; decide)]
          refine Gx.ret1 Try.results15 rfl ?_
          refine ⟨rfl, ?_⟩
          rw [hO, hC, hN]
          exact reg_shut (a0 := a0) (a1 := a1) (a2 := a2) (a3 := (some k)) hk hb2 (⟨m.b, m.b2, ⟨3, m.o.wr, m.o.val, m.o.frm, m.o.to, m.o.best, true, [], 0⟩⟩ : Om) rfl

end Go.Proofs.Ytjiefamdpbnngaa
