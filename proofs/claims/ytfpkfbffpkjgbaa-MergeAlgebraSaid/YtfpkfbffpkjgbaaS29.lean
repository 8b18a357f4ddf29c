/- The library's sort: lengths in bits, numbers by chance, the choice of a pivot, places exchanged by chance. The walks. No condition. -/
import Derived.Test.YtfpkfbffpkjgbaaS28
import Derived.Test.YtfpkfbffpkjgbaaW2
namespace Go.Proofs.Ytfpkfbffpkjgbaa
open Go.RowKit
set_option linter.unusedVariables false
set_option linter.unusedSimpArgs false
set_option maxRecDepth 100000

theorem val_popS {P : Program} {c : Cx} {m : List (Nat × Value)} {l : List Hp} {o : Oper} {x y : Operand} {T : TypeId} {i n : Nat} {q : IntKind} {s0 : ByteArray} (ho : o.op = .index T x y) (hT : P.underlying T = some .string) (hx : evo m x = some (.string s0)) (hy : evo m y = some (.int q (i : Int))) (hv : (s0[i]?).map UInt8.toNat = some n) : Val P c m l o (.int .u8 (n : Int)) := by
  cases h : s0[i]? with
  | none => rw [h] at hv; cases hv
  | some b => rw [h] at hv; cases hv; exact val_indexS ho hT hx hy h
theorem val_xor {P : Program} {c : Cx} {m : List (Nat × Value)} {l : List Hp} {o : Oper} {x y : Operand} {T T' : TypeId} {k : IntKind} {i j r : Int} (ho : o.op = .binOp .xor T x y T') (hx : evo m x = some (.int k i)) (hy : evo m y = some (.int k j)) (hr : k.wrap ((BitVec.ofInt k.bits i ^^^ BitVec.ofInt k.bits j).toNat) = r) : Val P c m l o (.int k r) := Val.of fun a w s H => by
  subst hr
  simp [execOp, ho, s.ev hx, s.ev hy, eqGuard, binOp, Op.intBits]
theorem lt256 {P : Nat → Prop} [DecidablePred P] (h : decide (∀ i : Fin 256, P i.val) = true) {x : Nat} (hx : x < 256) : P x := of_decide_eq_true h ⟨x, hx⟩
theorem lt17 {P : Nat → Prop} [DecidablePred P] (h : decide (∀ i : Fin 17, P i.val) = true) {x : Nat} (hx : x ≤ 16) : P x := of_decide_eq_true h ⟨x, by omega⟩
def lenB (n : Nat) : Nat := if n < 1 then 0 else if n < 2 then 1 else if n < 4 then 2 else if n < 8 then 3 else if n < 16 then 4 else if n < 32 then 5 else if n < 64 then 6 else if n < 128 then 7 else 8
def lenN (n : Nat) : Nat := if n < 256 then lenB n else 8 + lenB (n / 256)
theorem lenB_le (n : Nat) : lenB n ≤ 8 := by unfold lenB; repeat' (first | omega | split)
theorem lenN_le (n : Nat) : lenN n ≤ 16 := by
  unfold lenN
  have := lenB_le n; have := lenB_le (n / 256)
  split <;> omega
theorem lenN_lo {n : Nat} (h : n < 256) : lenN n = 0 + lenB n := by unfold lenN; rw [if_pos h]; omega
theorem lenN_hi {n : Nat} (h : ¬ n < 256) : lenN n = 8 + lenB (n / 256) := by unfold lenN; rw [if_neg h]
def pwN (n : Nat) : Nat := 2 ^ lenN n
theorem pwB {n : Nat} (h : n < 256) : 1 ≤ n → n < 2 ^ lenB n ∧ 2 ^ lenB n ≤ 2 * n := lt256 (P := fun n => 1 ≤ n → n < 2 ^ lenB n ∧ 2 ^ lenB n ≤ 2 * n) (by decide +kernel) h
theorem pwN_at {n : Nat} (h0 : 1 ≤ n) (h : n ≤ 65000) : n < pwN n ∧ pwN n ≤ 2 * n := by
  unfold pwN lenN
  split
  · exact pwB (by omega) h0
  · have := pwB (n := n / 256) (by omega) (by omega)
    rw [Nat.pow_add, show 2 ^ 8 = 256 from rfl]
    omega
theorem u8id {x : Nat} (h : x < 256) : IntKind.u8.wrap (x : Int) = (x : Int) := lt256 (P := fun x => IntKind.u8.wrap (x : Int) = (x : Int)) (by decide +kernel) h
theorem u64in {i : Int} {r : Nat} (e : i = (r : Int)) (h : r < 18446744073709551616) : IntKind.u64.wrap i = (r : Int) := by
  subst e
  show ((r : Int) % 18446744073709551616) = (r : Int)
  omega
theorem u64id {x : Nat} (h : x ≤ 65000) : IntKind.u64.wrap (x : Int) = (x : Int) := u64in rfl (by omega)
theorem shlN (x : Nat) : IntKind.u64.wrap ((1 : Int) * 2 ^ lenN x) = ((pwN x : Nat) : Int) := lt17 (P := fun k => IntKind.u64.wrap ((1 : Int) * 2 ^ k) = ((2 ^ k : Nat) : Int)) (by decide +kernel) (lenN_le x)
theorem shr8 (x : Nat) : ((x : Nat) : Int).fdiv (2 ^ 8) = ((x / 256 : Nat) : Int) := by rw [shr32, Nat.shiftRight_eq_div_pow]
def xv (i j : Int) : Int := IntKind.u64.wrap ((BitVec.ofInt IntKind.u64.bits i ^^^ BitVec.ofInt IntKind.u64.bits j).toNat)
theorem and_le {z : Int} {m : Nat} (hm : m < 18446744073709551616) : ∃ q : Nat, q ≤ m ∧ IntKind.u64.wrap ((BitVec.ofInt IntKind.u64.bits z &&& BitVec.ofInt IntKind.u64.bits (m : Int)).toNat) = (q : Int) := by
  refine ⟨(BitVec.ofInt IntKind.u64.bits z &&& BitVec.ofInt IntKind.u64.bits (m : Int)).toNat, ?_, u64in rfl ?_⟩
  · rw [BitVec.toNat_and]
    have h1 : (BitVec.ofInt IntKind.u64.bits (m : Int)).toNat = m := by
      show (BitVec.ofInt 64 (m : Int)).toNat = m
      rw [BitVec.toNat_ofInt]; omega
    rw [h1]; exact Nat.and_le_right
  · exact (BitVec.ofInt IntKind.u64.bits z &&& BitVec.ofInt IntKind.u64.bits (m : Int)).isLt
theorem Try.fn62 : Fnc Try.prog 62 := fun args w => by go_simp
theorem len64_any {W : World} {x : Nat} (hx : x ≤ 65000) : Calls Try.prog 59 #[.int .u64 ((x : Nat) : Int)] W fun e w' => e = .returned (.int .i64 ((lenN x : Nat) : Int)) ∧ Below W.heap.size W w' := by
  have hl7 := lenN_le x
  refine calls_pure (Gx.enter (l := []) Try.func59 rfl Try.ntmps59 rfl (Sat.start W) ?_)
  refine Gx.know (m' := [(0, .int .u64 ((x : Nat) : Int))]) (.cons rfl .nil) ?_
  refine Gx.seq ?_
  refine Gx.region ?_
  refine Gx.val rfl rfl rfl (val_assign rfl rfl) ?_
  refine Gx.done ?_
  refine Gx.thenN ?_
  refine Gx.seq ?_
  refine Gx.seq ?_
  refine Gx.region ?_
  refine Gx.val rfl rfl rfl (val_move rfl rfl) ?_
  refine Gx.val rfl rfl rfl (val_geq rfl rfl rfl) ?_
  refine Gx.done ?_
  refine Gx.thenN ?_
  refine Gx.decF rfl (by omega) ?_
  refine Gx.skip ?_
  refine Gx.thenN ?_
  refine Gx.seq ?_
  refine Gx.seq ?_
  refine Gx.region ?_
  refine Gx.val rfl rfl rfl (val_move rfl rfl) ?_
  refine Gx.val rfl rfl rfl (val_geq rfl rfl rfl) ?_
  refine Gx.done ?_
  refine Gx.thenN ?_
  refine Gx.decF rfl (by omega) ?_
  refine Gx.skip ?_
  refine Gx.thenN ?_
  refine Gx.seq ?_
  refine Gx.seq ?_
  refine Gx.region ?_
  refine Gx.val rfl rfl rfl (val_move rfl rfl) ?_
  refine Gx.val rfl rfl rfl (val_geq rfl rfl rfl) ?_
  refine Gx.done ?_
  refine Gx.thenN ?_
  refine Gx.dec rfl (fun h1 => ?_) (fun h1 => ?_)
  · refine Gx.seq ?_
    refine Gx.region ?_
    refine Gx.val rfl rfl rfl (val_move rfl rfl) ?_
    refine Gx.val rfl rfl rfl (val_shr (b := 8) rfl rfl rfl rfl (by decide) (shr8 x)) ?_
    refine Gx.val rfl rfl rfl (val_assign rfl rfl) ?_
    refine Gx.done ?_
    refine Gx.thenN ?_
    refine Gx.region ?_
    refine Gx.val rfl rfl rfl (val_move rfl rfl) ?_
    refine Gx.val rfl rfl rfl (val_add rfl rfl rfl (r := 8) (w64 (by omega) (by omega))) ?_
    refine Gx.val rfl rfl rfl (val_assign rfl rfl) ?_
    refine Gx.done ?_
    refine Gx.thenN ?_
    refine Gx.seq ?_
    have hb8 := lenB_le (x / 256)
    have hl := lenN_hi (n := x) (by omega)
    refine Gx.region ?_
    refine Gx.val rfl rfl rfl (val_move rfl rfl) ?_
    refine Gx.val rfl rfl rfl (val_move rfl rfl) ?_
    refine Gx.val rfl rfl rfl (val_conv rfl Try.underlying95 Try.underlying5 rfl (r := ((x / 256 : Nat) : Int)) (u8id (by omega))) ?_
    refine Gx.val rfl rfl rfl (val_popS (i := (x / 256)) (n := lenB (x / 256)) rfl Try.underlying9 rfl rfl (lt256 (P := fun x => (_ : ByteArray)[x]?.map UInt8.toNat = some (lenB x)) (by kernel_rfl) (by omega))) ?_
    refine Gx.val rfl rfl rfl (val_conv rfl Try.underlying5 Try.underlying3 rfl (r := ((lenB (x / 256) : Nat) : Int)) (w64 rfl (by omega))) ?_
    refine Gx.val rfl rfl rfl (val_add rfl rfl rfl (r := ((lenN x : Nat) : Int)) (w64 (by rw [hl]; omega) (by omega))) ?_
    refine Gx.val rfl rfl rfl (val_assign rfl rfl) ?_
    refine Gx.done ?_
    refine Gx.thenN ?_
    refine Gx.ret ?_
    refine Gx.ret1 Try.results59 rfl ?_
    rfl
  refine Gx.skip ?_
  refine Gx.thenN ?_
  refine Gx.seq ?_
  have hb8 := lenB_le x
  have hl := lenN_lo (n := x) (by omega)
  refine Gx.region ?_
  refine Gx.val rfl rfl rfl (val_move rfl rfl) ?_
  refine Gx.val rfl rfl rfl (val_move rfl rfl) ?_
  refine Gx.val rfl rfl rfl (val_conv rfl Try.underlying95 Try.underlying5 rfl (r := ((x : Nat) : Int)) (u8id (by omega))) ?_
  refine Gx.val rfl rfl rfl (val_popS (i := x) (n := lenB x) rfl Try.underlying9 rfl rfl (lt256 (P := fun x => (_ : ByteArray)[x]?.map UInt8.toNat = some (lenB x)) (by kernel_rfl) (by omega))) ?_
  refine Gx.val rfl rfl rfl (val_conv rfl Try.underlying5 Try.underlying3 rfl (r := ((lenB x : Nat) : Int)) (w64 rfl (by omega))) ?_
  refine Gx.val rfl rfl rfl (val_add rfl rfl rfl (r := ((lenN x : Nat) : Int)) (w64 (by rw [hl]; omega) (by omega))) ?_
  refine Gx.val rfl rfl rfl (val_assign rfl rfl) ?_
  refine Gx.done ?_
  refine Gx.thenN ?_
  refine Gx.ret ?_
  refine Gx.ret1 Try.results59 rfl ?_
  rfl

theorem len_any {W : World} {x : Nat} (hx : x ≤ 65000) : Calls Try.prog 49 #[.int .u64 ((x : Nat) : Int)] W fun e w' => e = .returned (.int .i64 ((lenN x : Nat) : Int)) ∧ Below W.heap.size W w' := by
  refine calls_pure (Gx.enter (l := []) Try.func49 rfl Try.ntmps49 rfl (Sat.start W) ?_)
  refine Gx.know (m' := [(0, .int .u64 ((x : Nat) : Int))]) (.cons rfl .nil) ?_
  refine Gx.seq ?_
  refine Gx.region ?_
  refine Gx.val rfl rfl rfl (val_assign rfl rfl) ?_
  refine Gx.done ?_
  refine Gx.thenN ?_
  refine Gx.seq ?_
  refine Gx.f rfl ?_
  refine Gx.skip ?_
  refine Gx.thenN ?_
  refine Gx.seq ?_
  refine Gx.region ?_
  refine Gx.val rfl rfl rfl (val_move rfl rfl) ?_
  refine Gx.val rfl rfl rfl (val_call (vs := [.int .u64 ((x : Nat) : Int)]) rfl Try.fn59 rfl (fun w H => len64_any hx)) ?_
  refine Gx.val rfl rfl rfl (val_assign rfl rfl) ?_
  refine Gx.done ?_
  refine Gx.thenN ?_
  refine Gx.ret ?_
  refine Gx.ret1 Try.results49 rfl ?_
  rfl

theorem np2_any {W : World} {x : Nat} (hx : x ≤ 65000) : Calls Try.prog 61 #[.int .i64 ((x : Nat) : Int)] W fun e w' => e = .returned (.int .u64 ((pwN x : Nat) : Int)) ∧ Below W.heap.size W w' := by
  have hl7 := lenN_le x
  refine calls_pure (Gx.enter (l := []) Try.func61 rfl Try.ntmps61 rfl (Sat.start W) ?_)
  refine Gx.know (m' := [(0, .int .i64 ((x : Nat) : Int))]) (.cons rfl .nil) ?_
  refine Gx.seq ?_
  refine Gx.region ?_
  refine Gx.val rfl rfl rfl (val_assign rfl rfl) ?_
  refine Gx.done ?_
  refine Gx.thenN ?_
  refine Gx.seq ?_
  refine Gx.region ?_
  refine Gx.val rfl rfl rfl (val_move rfl rfl) ?_
  refine Gx.val rfl rfl rfl (val_conv rfl Try.underlying3 Try.underlying76 rfl (r := ((x : Nat) : Int)) (u64id hx)) ?_
  refine Gx.val rfl rfl rfl (val_call (vs := [.int .u64 ((x : Nat) : Int)]) rfl Try.fn49 rfl (fun w H => len_any hx)) ?_
  refine Gx.val rfl rfl rfl (val_shl (b := lenN x) rfl rfl rfl rfl (by show lenN x ≤ 64; omega) (shlN x)) ?_
  refine Gx.val rfl rfl rfl (val_assign rfl rfl) ?_
  refine Gx.done ?_
  refine Gx.thenN ?_
  refine Gx.ret ?_
  refine Gx.ret1 Try.results61 rfl ?_
  rfl

theorem next_any {W w : World} {rb : Nat} {z : Int} {R : Hp} (H : Sat W w (Hp.rec_ rb [.int .u64 z] * R)) : Calls Try.prog 62 #[ptr rb 0] w (Ret W fun u l => ∃ z' : Int, u = .int .u64 z' ∧ sep l = Hp.rec_ rb [.int .u64 z'] * R) := by
  refine Gx.enter (l := [Hp.rec_ rb [.int .u64 z], R]) Try.func62 rfl Try.ntmps62 rfl (H.frame1) ?_
  refine Gx.know (m' := [(0, ptr rb 0)]) (.cons rfl .nil) ?_
  refine Gx.seq ?_
  refine Gx.region ?_
  refine Gx.val rfl rfl rfl (val_assign rfl rfl) ?_
  refine Gx.done ?_
  refine Gx.thenN ?_
  refine Gx.seq ?_
  refine Gx.regionO (fun j => false) 9 [0, 1, 2, 3, 4, 5, 6, 7, 8] (fun _ => [Hp.rec_ rb [.int .u64 z], R]) Try.mixed (by kernel_rfl) rfl ?_
  refine Gw.val rfl rfl rfl rfl rfl (fun us => val_move rfl rfl) ?_
  refine Gw.val rfl rfl rfl rfl rfl (fun us => val_nilCheck rfl rfl) ?_
  refine Gw.val0 rfl rfl rfl (by kernel_rfl) rfl rfl (val_load rfl Try.ty96 rfl rfl (cell_rec (k := 0) rfl rfl)) ?_
  refine Gw.val rfl rfl rfl rfl rfl (fun us => val_move rfl rfl) ?_
  refine Gw.val rfl rfl rfl rfl rfl (fun us => val_nilCheck rfl rfl) ?_
  refine Gw.val0 rfl rfl rfl (by kernel_rfl) rfl rfl (val_load rfl Try.ty96 rfl rfl (cell_rec (k := 0) rfl rfl)) ?_
  refine Gw.val rfl rfl rfl rfl rfl (fun us => val_shl (b := 13) rfl rfl rfl rfl (by decide) rfl) ?_
  refine Gw.val rfl rfl rfl rfl rfl (fun us => val_xor rfl rfl rfl rfl) ?_
  refine Gw.val rfl rfl rfl rfl rfl (fun us => val_nilCheck rfl rfl) ?_
  refine Gw.done ?_
  refine Gx.norm (l' := [Hp.rec_ rb [.int .u64 z], R]) rfl ?_
  refine Gx.eff0 rfl rfl (eff_store rfl Try.ty96 rfl rfl (us := [.int .u64 (xv z (IntKind.u64.wrap (z * 2 ^ 13)))]) rfl rfl rfl (k := 0) rfl (rfl) (vs' := [.int .u64 (xv z (IntKind.u64.wrap (z * 2 ^ 13)))]) (rfl) (l' := [Hp.rec_ rb [.int .u64 (xv z (IntKind.u64.wrap (z * 2 ^ 13)))], R]) rfl) ?_
  rintro _ _ rfl
  refine Gx.done ?_
  refine Gx.thenN ?_
  refine Gx.seq ?_
  refine Gx.regionO (fun j => false) 9 [0, 1, 2, 3, 4, 5, 6, 7, 8] (fun _ => [Hp.rec_ rb [.int .u64 (xv z (IntKind.u64.wrap (z * 2 ^ 13)))], R]) Try.mixed (by kernel_rfl) rfl ?_
  refine Gw.val rfl rfl rfl rfl rfl (fun us => val_move rfl rfl) ?_
  refine Gw.val rfl rfl rfl rfl rfl (fun us => val_nilCheck rfl rfl) ?_
  refine Gw.val0 rfl rfl rfl (by kernel_rfl) rfl rfl (val_load rfl Try.ty96 rfl rfl (cell_rec (k := 0) rfl rfl)) ?_
  refine Gw.val rfl rfl rfl rfl rfl (fun us => val_move rfl rfl) ?_
  refine Gw.val rfl rfl rfl rfl rfl (fun us => val_nilCheck rfl rfl) ?_
  refine Gw.val0 rfl rfl rfl (by kernel_rfl) rfl rfl (val_load rfl Try.ty96 rfl rfl (cell_rec (k := 0) rfl rfl)) ?_
  refine Gw.val rfl rfl rfl rfl rfl (fun us => val_shr (b := 7) rfl rfl rfl rfl (by decide) rfl) ?_
  refine Gw.val rfl rfl rfl rfl rfl (fun us => val_xor rfl rfl rfl rfl) ?_
  refine Gw.val rfl rfl rfl rfl rfl (fun us => val_nilCheck rfl rfl) ?_
  refine Gw.done ?_
  refine Gx.norm (l' := [Hp.rec_ rb [.int .u64 (xv z (IntKind.u64.wrap (z * 2 ^ 13)))], R]) rfl ?_
  refine Gx.eff0 rfl rfl (eff_store rfl Try.ty96 rfl rfl (us := [.int .u64 (xv (xv z (IntKind.u64.wrap (z * 2 ^ 13))) (((xv z (IntKind.u64.wrap (z * 2 ^ 13)))).fdiv (2 ^ 7)))]) rfl rfl rfl (k := 0) rfl (rfl) (vs' := [.int .u64 (xv (xv z (IntKind.u64.wrap (z * 2 ^ 13))) (((xv z (IntKind.u64.wrap (z * 2 ^ 13)))).fdiv (2 ^ 7)))]) (rfl) (l' := [Hp.rec_ rb [.int .u64 (xv (xv z (IntKind.u64.wrap (z * 2 ^ 13))) (((xv z (IntKind.u64.wrap (z * 2 ^ 13)))).fdiv (2 ^ 7)))], R]) rfl) ?_
  rintro _ _ rfl
  refine Gx.done ?_
  refine Gx.thenN ?_
  refine Gx.seq ?_
  refine Gx.regionO (fun j => false) 9 [0, 1, 2, 3, 4, 5, 6, 7, 8] (fun _ => [Hp.rec_ rb [.int .u64 (xv (xv z (IntKind.u64.wrap (z * 2 ^ 13))) (((xv z (IntKind.u64.wrap (z * 2 ^ 13)))).fdiv (2 ^ 7)))], R]) Try.mixed (by kernel_rfl) rfl ?_
  refine Gw.val rfl rfl rfl rfl rfl (fun us => val_move rfl rfl) ?_
  refine Gw.val rfl rfl rfl rfl rfl (fun us => val_nilCheck rfl rfl) ?_
  refine Gw.val0 rfl rfl rfl (by kernel_rfl) rfl rfl (val_load rfl Try.ty96 rfl rfl (cell_rec (k := 0) rfl rfl)) ?_
  refine Gw.val rfl rfl rfl rfl rfl (fun us => val_move rfl rfl) ?_
  refine Gw.val rfl rfl rfl rfl rfl (fun us => val_nilCheck rfl rfl) ?_
  refine Gw.val0 rfl rfl rfl (by kernel_rfl) rfl rfl (val_load rfl Try.ty96 rfl rfl (cell_rec (k := 0) rfl rfl)) ?_
  refine Gw.val rfl rfl rfl rfl rfl (fun us => val_shl (b := 17) rfl rfl rfl rfl (by decide) rfl) ?_
  refine Gw.val rfl rfl rfl rfl rfl (fun us => val_xor rfl rfl rfl rfl) ?_
  refine Gw.val rfl rfl rfl rfl rfl (fun us => val_nilCheck rfl rfl) ?_
  refine Gw.done ?_
  refine Gx.norm (l' := [Hp.rec_ rb [.int .u64 (xv (xv z (IntKind.u64.wrap (z * 2 ^ 13))) (((xv z (IntKind.u64.wrap (z * 2 ^ 13)))).fdiv (2 ^ 7)))], R]) rfl ?_
  refine Gx.eff0 rfl rfl (eff_store rfl Try.ty96 rfl rfl (us := [.int .u64 (xv (xv (xv z (IntKind.u64.wrap (z * 2 ^ 13))) (((xv z (IntKind.u64.wrap (z * 2 ^ 13)))).fdiv (2 ^ 7))) (IntKind.u64.wrap ((xv (xv z (IntKind.u64.wrap (z * 2 ^ 13))) (((xv z (IntKind.u64.wrap (z * 2 ^ 13)))).fdiv (2 ^ 7))) * 2 ^ 17)))]) rfl rfl rfl (k := 0) rfl (rfl) (vs' := [.int .u64 (xv (xv (xv z (IntKind.u64.wrap (z * 2 ^ 13))) (((xv z (IntKind.u64.wrap (z * 2 ^ 13)))).fdiv (2 ^ 7))) (IntKind.u64.wrap ((xv (xv z (IntKind.u64.wrap (z * 2 ^ 13))) (((xv z (IntKind.u64.wrap (z * 2 ^ 13)))).fdiv (2 ^ 7))) * 2 ^ 17)))]) (rfl) (l' := [Hp.rec_ rb [.int .u64 (xv (xv (xv z (IntKind.u64.wrap (z * 2 ^ 13))) (((xv z (IntKind.u64.wrap (z * 2 ^ 13)))).fdiv (2 ^ 7))) (IntKind.u64.wrap ((xv (xv z (IntKind.u64.wrap (z * 2 ^ 13))) (((xv z (IntKind.u64.wrap (z * 2 ^ 13)))).fdiv (2 ^ 7))) * 2 ^ 17)))], R]) rfl) ?_
  rintro _ _ rfl
  refine Gx.done ?_
  refine Gx.thenN ?_
  refine Gx.seq ?_
  refine Gx.region ?_
  refine Gx.val rfl rfl rfl (val_move rfl rfl) ?_
  refine Gx.val rfl rfl rfl (val_nilCheck rfl rfl) ?_
  refine Gx.val rfl rfl rfl (val_load rfl Try.ty96 rfl rfl (cell_rec (k := 0) rfl rfl)) ?_
  refine Gx.val rfl rfl rfl (val_assign rfl rfl) ?_
  refine Gx.done ?_
  refine Gx.thenN ?_
  refine Gx.ret ?_
  refine Gx.ret1 Try.results62 rfl ?_
  exact ⟨_, rfl, sep1 _ _⟩

theorem order_any {W w : World} {v : Value} {xs : List Dk} {sb : Nat} {R : Hp} {a b s : Nat} (ha : a < xs.length) (hb : b < xs.length) (hs : s ≤ 1000000) (H : Sat W w (Hp.own FK 3 v xs * (Hp.rec_ sb [.int .i64 ((s : Nat) : Int)] * R))) :
    Calls Try.prog 65 #[v, .int .i64 ((a : Nat) : Int), .int .i64 ((b : Nat) : Int), ptr sb 0, .func (.func 26) #[] #[]] w (Ret W fun u l => ∃ p q s', ((p = a ∧ q = b) ∨ (p = b ∧ q = a)) ∧ s' ≤ s + 1 ∧ u = .tuple #[.int .i64 ((p : Nat) : Int), .int .i64 ((q : Nat) : Int)] ∧ sep l = Hp.own FK 3 v xs * (Hp.rec_ sb [.int .i64 ((s' : Nat) : Int)] * R)) := by
  refine Gx.enter (l := [Hp.own FK 3 v xs, Hp.rec_ sb [.int .i64 ((s : Nat) : Int)], R]) Try.func65 rfl Try.ntmps65 rfl (H.frame2) ?_
  refine Gx.know (m' := [(0, v), (1, .int .i64 ((a : Nat) : Int)), (2, .int .i64 ((b : Nat) : Int)), (3, ptr sb 0), (4, .func (.func 26) #[] #[])]) (.cons rfl (.cons rfl (.cons rfl (.cons rfl (.cons rfl .nil))))) ?_
  refine Gx.seq ?_
  refine Gx.region ?_
  refine Gx.val rfl rfl rfl (val_assign rfl rfl) ?_
  refine Gx.val rfl rfl rfl (val_assign rfl rfl) ?_
  refine Gx.done ?_
  refine Gx.thenN ?_
  refine Gx.seq ?_
  refine Gx.seq ?_
  refine Gx.regionQ Try.mixed (by kernel_rfl) ?_
  refine Gq.val rfl rfl rfl (val_move rfl rfl) ?_
  refine Gq.val rfl rfl rfl (val_move rfl rfl) ?_
  refine Gq.val rfl rfl rfl (val_move rfl rfl) ?_
  obtain ⟨x1, hx1⟩ := get_of_lt (xs := xs) (k := b) (by first | omega | (simp; omega))
  refine Gq.val rfl rfl rfl (val_ixa rfl Try.underlying25 Try.ty59 rfl rfl (j := b) (rfl) (reach_own (k := 0) rfl hx1)) ?_
  refine Gq.val rfl rfl rfl (Val.cast (val_loadA rfl Try.ty59 rfl rfl rfl (cells_own (k := 0) rfl hx1)) (v' := .agg #[.int .i64 x1.1.item, .int .i64 x1.1.who, .int .i64 x1.1.n]) rfl) ?_
  refine Gq.val rfl rfl rfl (val_move rfl rfl) ?_
  refine Gq.val rfl rfl rfl (val_move rfl rfl) ?_
  obtain ⟨x2, hx2⟩ := get_of_lt (xs := xs) (k := a) (by first | omega | (simp; omega))
  refine Gq.val rfl rfl rfl (val_ixa rfl Try.underlying25 Try.ty59 rfl rfl (j := a) (rfl) (reach_own (k := 0) rfl hx2)) ?_
  refine Gq.val rfl rfl rfl (Val.cast (val_loadA rfl Try.ty59 rfl rfl rfl (cells_own (k := 0) rfl hx2)) (v' := .agg #[.int .i64 x2.1.item, .int .i64 x2.1.who, .int .i64 x2.1.n]) rfl) ?_
  refine Gq.val rfl rfl rfl (val_callV (vs := [.agg #[.int .i64 x1.1.item, .int .i64 x1.1.who, .int .i64 x1.1.n], .agg #[.int .i64 x2.1.item, .int .i64 x2.1.who, .int .i64 x2.1.n]]) (fs := []) (cs := []) rfl Try.fn26 rfl rfl (fun w H => dots_any x1.1 x2.1)) ?_
  refine Gq.val rfl rfl rfl (Val.cast (val_lss rfl rfl rfl) (v' := .bool (decide (kK x1 < kK x2))) (congrArg Value.bool (decide_eq_decide.2 kK_lt))) ?_
  refine Gq.done ?_
  refine Gx.thenN ?_
  refine Gx.dec rfl (fun h3 => ?_) (fun h3 => ?_)
  · refine Gx.seq ?_
    refine Gx.region ?_
    refine Gx.val rfl rfl rfl (val_move rfl rfl) ?_
    refine Gx.val rfl rfl rfl (val_nilCheck rfl rfl) ?_
    refine Gx.val rfl rfl rfl (val_load rfl Try.ty3 rfl rfl (cell_rec (k := 1) rfl rfl)) ?_
    refine Gx.val rfl rfl rfl (val_add rfl rfl rfl (r := ((s + 1 : Nat) : Int)) (w64 (by omega) (by omega))) ?_
    refine Gx.val rfl rfl rfl (val_nilCheck rfl rfl) ?_
    refine Gx.eff0 rfl rfl (eff_store rfl Try.ty3 rfl rfl (us := [.int .i64 ((s + 1 : Nat) : Int)]) rfl rfl rfl (k := 1) rfl (rfl) (vs' := [.int .i64 ((s + 1 : Nat) : Int)]) (rfl) (l' := [Hp.own FK 3 v xs, Hp.rec_ sb [.int .i64 ((s + 1 : Nat) : Int)], R]) rfl) ?_
    rintro _ _ rfl
    refine Gx.done ?_
    refine Gx.thenN ?_
    refine Gx.seq ?_
    refine Gx.region ?_
    refine Gx.val rfl rfl rfl (val_move rfl rfl) ?_
    refine Gx.val rfl rfl rfl (val_move rfl rfl) ?_
    refine Gx.val rfl rfl rfl (val_assign rfl rfl) ?_
    refine Gx.val rfl rfl rfl (val_assign rfl rfl) ?_
    refine Gx.done ?_
    refine Gx.thenN ?_
    refine Gx.ret ?_
    refine Gx.thenR ?_
    refine Gx.ret2 Try.results65 rfl rfl ?_
    exact ⟨_, _, _, by first | exact .inl ⟨rfl, rfl⟩ | exact .inr ⟨rfl, rfl⟩, by omega, rfl, sep2 _ _ _⟩
  refine Gx.skip ?_
  refine Gx.thenN ?_
  refine Gx.seq ?_
  refine Gx.region ?_
  refine Gx.val rfl rfl rfl (val_move rfl rfl) ?_
  refine Gx.val rfl rfl rfl (val_move rfl rfl) ?_
  refine Gx.val rfl rfl rfl (val_assign rfl rfl) ?_
  refine Gx.val rfl rfl rfl (val_assign rfl rfl) ?_
  refine Gx.done ?_
  refine Gx.thenN ?_
  refine Gx.ret ?_
  refine Gx.ret2 Try.results65 rfl rfl ?_
  exact ⟨_, _, _, by first | exact .inl ⟨rfl, rfl⟩ | exact .inr ⟨rfl, rfl⟩, by omega, rfl, sep2 _ _ _⟩

theorem median_any {W w : World} {v : Value} {xs : List Dk} {sb : Nat} {R : Hp} {a b c s : Nat} (ha : a < xs.length) (hb : b < xs.length) (hc : c < xs.length) (hs : s ≤ 1000) (H : Sat W w (Hp.own FK 3 v xs * (Hp.rec_ sb [.int .i64 ((s : Nat) : Int)] * R))) :
    Calls Try.prog 64 #[v, .int .i64 ((a : Nat) : Int), .int .i64 ((b : Nat) : Int), .int .i64 ((c : Nat) : Int), ptr sb 0, .func (.func 26) #[] #[]] w (Ret W fun u l => ∃ p s', (p = a ∨ p = b ∨ p = c) ∧ s' ≤ s + 3 ∧ u = .int .i64 ((p : Nat) : Int) ∧ sep l = Hp.own FK 3 v xs * (Hp.rec_ sb [.int .i64 ((s' : Nat) : Int)] * R)) := by
  refine Gx.enter (l := [Hp.own FK 3 v xs, Hp.rec_ sb [.int .i64 ((s : Nat) : Int)], R]) Try.func64 rfl Try.ntmps64 rfl (H.frame2) ?_
  refine Gx.know (m' := [(0, v), (1, .int .i64 ((a : Nat) : Int)), (2, .int .i64 ((b : Nat) : Int)), (3, .int .i64 ((c : Nat) : Int)), (4, ptr sb 0), (5, .func (.func 26) #[] #[])]) (.cons rfl (.cons rfl (.cons rfl (.cons rfl (.cons rfl (.cons rfl .nil)))))) ?_
  refine Gx.seq ?_
  refine Gx.region ?_
  refine Gx.val rfl rfl rfl (val_assign rfl rfl) ?_
  refine Gx.done ?_
  refine Gx.thenN ?_
  refine Gx.seq ?_
  refine Gx.region ?_
  refine Gx.val rfl rfl rfl (val_move rfl rfl) ?_
  refine Gx.val rfl rfl rfl (val_move rfl rfl) ?_
  refine Gx.val rfl rfl rfl (val_move rfl rfl) ?_
  refine Gx.val rfl rfl rfl (val_move rfl rfl) ?_
  refine Gx.val rfl rfl rfl (val_move rfl rfl) ?_
  refine Gx.eff rfl rfl rfl (eff_call (vs := [v, .int .i64 ((a : Nat) : Int), .int .i64 ((b : Nat) : Int), ptr sb 0, .func (.func 26) #[] #[]]) rfl Try.fn65 rfl (fun w H => order_any (s := s) (by omega) (by omega) (by omega) (H.at2 (k := 0) (k' := 0) rfl rfl))) ?_
  rintro _ l6 ⟨p1, q2, s3, ho4, hs5, rfl, hl6⟩
  refine Gx.sepEq (l' := [Hp.own FK 3 v xs, Hp.rec_ sb [.int .i64 ((s3 : Nat) : Int)], R]) hl6 ?_
  refine Gx.val rfl rfl rfl (val_move rfl rfl) ?_
  refine Gx.val rfl rfl rfl (val_extract rfl rfl rfl) ?_
  refine Gx.val rfl rfl rfl (val_extract rfl rfl rfl) ?_
  refine Gx.val rfl rfl rfl (val_assign rfl rfl) ?_
  refine Gx.val rfl rfl rfl (val_assign rfl rfl) ?_
  refine Gx.done ?_
  refine Gx.thenN ?_
  refine Gx.seq ?_
  refine Gx.region ?_
  refine Gx.val rfl rfl rfl (val_move rfl rfl) ?_
  refine Gx.val rfl rfl rfl (val_move rfl rfl) ?_
  refine Gx.val rfl rfl rfl (val_move rfl rfl) ?_
  refine Gx.val rfl rfl rfl (val_move rfl rfl) ?_
  refine Gx.val rfl rfl rfl (val_move rfl rfl) ?_
  refine Gx.eff rfl rfl rfl (eff_call (vs := [v, .int .i64 ((q2 : Nat) : Int), .int .i64 ((c : Nat) : Int), ptr sb 0, .func (.func 26) #[] #[]]) rfl Try.fn65 rfl (fun w H => order_any (s := s3) (by omega) (by omega) (by omega) (H.at2 (k := 0) (k' := 0) rfl rfl))) ?_
  rintro _ l12 ⟨p7, q8, s9, ho10, hs11, rfl, hl12⟩
  refine Gx.sepEq (l' := [Hp.own FK 3 v xs, Hp.rec_ sb [.int .i64 ((s9 : Nat) : Int)], R]) hl12 ?_
  refine Gx.val rfl rfl rfl (val_move rfl rfl) ?_
  refine Gx.val rfl rfl rfl (val_extract rfl rfl rfl) ?_
  refine Gx.val rfl rfl rfl (val_extract rfl rfl rfl) ?_
  refine Gx.val rfl rfl rfl (val_assign rfl rfl) ?_
  refine Gx.val rfl rfl rfl (val_assign rfl rfl) ?_
  refine Gx.done ?_
  refine Gx.thenN ?_
  refine Gx.seq ?_
  refine Gx.region ?_
  refine Gx.val rfl rfl rfl (val_move rfl rfl) ?_
  refine Gx.val rfl rfl rfl (val_move rfl rfl) ?_
  refine Gx.val rfl rfl rfl (val_move rfl rfl) ?_
  refine Gx.val rfl rfl rfl (val_move rfl rfl) ?_
  refine Gx.val rfl rfl rfl (val_move rfl rfl) ?_
  refine Gx.eff rfl rfl rfl (eff_call (vs := [v, .int .i64 ((p1 : Nat) : Int), .int .i64 ((p7 : Nat) : Int), ptr sb 0, .func (.func 26) #[] #[]]) rfl Try.fn65 rfl (fun w H => order_any (s := s9) (by omega) (by omega) (by omega) (H.at2 (k := 0) (k' := 0) rfl rfl))) ?_
  rintro _ l18 ⟨p13, q14, s15, ho16, hs17, rfl, hl18⟩
  refine Gx.sepEq (l' := [Hp.own FK 3 v xs, Hp.rec_ sb [.int .i64 ((s15 : Nat) : Int)], R]) hl18 ?_
  refine Gx.val rfl rfl rfl (val_move rfl rfl) ?_
  refine Gx.val rfl rfl rfl (val_extract rfl rfl rfl) ?_
  refine Gx.val rfl rfl rfl (val_extract rfl rfl rfl) ?_
  refine Gx.val rfl rfl rfl (val_assign rfl rfl) ?_
  refine Gx.val rfl rfl rfl (val_assign rfl rfl) ?_
  refine Gx.done ?_
  refine Gx.thenN ?_
  refine Gx.seq ?_
  refine Gx.region ?_
  refine Gx.val rfl rfl rfl (val_move rfl rfl) ?_
  refine Gx.val rfl rfl rfl (val_assign rfl rfl) ?_
  refine Gx.done ?_
  refine Gx.thenN ?_
  refine Gx.ret ?_
  refine Gx.front 1 rfl ?_
  refine Gx.front 1 rfl ?_
  refine Gx.ret1 Try.results64 rfl ?_
  exact ⟨_, _, by omega, by omega, rfl, sep2 _ _ _⟩

theorem medadj_any {W w : World} {v : Value} {xs : List Dk} {sb : Nat} {R : Hp} {a s : Nat} (hl : xs.length ≤ 65000) (h1 : 1 ≤ a) (ha : a + 1 < xs.length) (hs : s ≤ 1000) (H : Sat W w (Hp.own FK 3 v xs * (Hp.rec_ sb [.int .i64 ((s : Nat) : Int)] * R))) :
    Calls Try.prog 63 #[v, .int .i64 ((a : Nat) : Int), ptr sb 0, .func (.func 26) #[] #[]] w (Ret W fun u l => ∃ p s', (p = a - 1 ∨ p = a ∨ p = a + 1) ∧ s' ≤ s + 3 ∧ u = .int .i64 ((p : Nat) : Int) ∧ sep l = Hp.own FK 3 v xs * (Hp.rec_ sb [.int .i64 ((s' : Nat) : Int)] * R)) := by
  refine Gx.enter (l := [Hp.own FK 3 v xs, Hp.rec_ sb [.int .i64 ((s : Nat) : Int)], R]) Try.func63 rfl Try.ntmps63 rfl (H.frame2) ?_
  refine Gx.know (m' := [(0, v), (1, .int .i64 ((a : Nat) : Int)), (2, ptr sb 0), (3, .func (.func 26) #[] #[])]) (.cons rfl (.cons rfl (.cons rfl (.cons rfl .nil)))) ?_
  refine Gx.seq ?_
  refine Gx.region ?_
  refine Gx.val rfl rfl rfl (val_assign rfl rfl) ?_
  refine Gx.done ?_
  refine Gx.thenN ?_
  refine Gx.seq ?_
  refine Gx.region ?_
  refine Gx.val rfl rfl rfl (val_move rfl rfl) ?_
  refine Gx.val rfl rfl rfl (val_move rfl rfl) ?_
  refine Gx.val rfl rfl rfl (val_sub rfl rfl rfl (r := ((a - 1 : Nat) : Int)) (w64 (by omega) (by omega))) ?_
  refine Gx.val rfl rfl rfl (val_move rfl rfl) ?_
  refine Gx.val rfl rfl rfl (val_move rfl rfl) ?_
  refine Gx.val rfl rfl rfl (val_add rfl rfl rfl (r := ((a + 1 : Nat) : Int)) (w64 (by omega) (by omega))) ?_
  refine Gx.val rfl rfl rfl (val_move rfl rfl) ?_
  refine Gx.val rfl rfl rfl (val_move rfl rfl) ?_
  refine Gx.eff rfl rfl rfl (eff_call (vs := [v, .int .i64 ((a - 1 : Nat) : Int), .int .i64 ((a : Nat) : Int), .int .i64 ((a + 1 : Nat) : Int), ptr sb 0, .func (.func 26) #[] #[]]) rfl Try.fn64 rfl (fun w H => median_any (s := s) (by omega) (by omega) (by omega) (by omega) (H.at2 (k := 0) (k' := 0) rfl rfl))) ?_
  rintro _ l5 ⟨p1, s2, ho3, hs4, rfl, hl5⟩
  refine Gx.sepEq (l' := [Hp.own FK 3 v xs, Hp.rec_ sb [.int .i64 ((s2 : Nat) : Int)], R]) hl5 ?_
  refine Gx.val rfl rfl rfl (val_assign rfl rfl) ?_
  refine Gx.done ?_
  refine Gx.thenN ?_
  refine Gx.ret ?_
  refine Gx.front 1 rfl ?_
  refine Gx.front 1 rfl ?_
  refine Gx.ret1 Try.results63 rfl ?_
  exact ⟨_, _, by omega, by omega, rfl, sep2 _ _ _⟩

set_option maxHeartbeats 2000000 in
theorem pivot_any {W w : World} {v : Value} {xs : List Dk} {R : Hp} {a b : Nat} (hab : a + 12 < b) (hb : b ≤ xs.length) (hl : xs.length ≤ 65000) (H : Sat W w (Hp.own FK 3 v xs * R)) :
    Calls Try.prog 53 #[v, .int .i64 ((a : Nat) : Int), .int .i64 ((b : Nat) : Int), .func (.func 26) #[] #[]] w (Ret W fun u l => ∃ (p : Nat) (h : Int), a ≤ p ∧ p < b ∧ u = .tuple #[.int .i64 ((p : Nat) : Int), .int .i64 h] ∧ sep l = Hp.own FK 3 v xs * R) := by
  refine Gx.enter (l := [Hp.own FK 3 v xs, R]) Try.func53 rfl Try.ntmps53 rfl (H.frame1) ?_
  refine Gx.know (m' := [(0, v), (1, .int .i64 ((a : Nat) : Int)), (2, .int .i64 ((b : Nat) : Int)), (3, .func (.func 26) #[] #[])]) (.cons rfl (.cons rfl (.cons rfl (.cons rfl .nil)))) ?_
  refine Gx.seq ?_
  refine Gx.region ?_
  refine Gx.val rfl rfl rfl (val_assign rfl rfl) ?_
  refine Gx.val rfl rfl rfl (val_assign rfl rfl) ?_
  refine Gx.done ?_
  refine Gx.thenN ?_
  refine Gx.seq ?_
  refine Gx.region ?_
  refine Gx.val rfl rfl rfl (val_move rfl rfl) ?_
  refine Gx.val rfl rfl rfl (val_move rfl rfl) ?_
  refine Gx.val rfl rfl rfl (val_sub rfl rfl rfl (r := ((b - a : Nat) : Int)) (w64 (by omega) (by omega))) ?_
  refine Gx.val rfl rfl rfl (val_assign rfl rfl) ?_
  refine Gx.done ?_
  refine Gx.thenN ?_
  refine Gx.seq ?_
  refine Gx.region ?_
  refine Gx.eff rfl rfl rfl (eff_alloc rfl Try.ty3 (vs := [.int .i64 0]) rfl) ?_
  rintro _ _ ⟨b1, rfl, rfl⟩
  refine Gx.done ?_
  refine Gx.thenN ?_
  refine Gx.seq ?_
  refine Gx.region ?_
  refine Gx.val rfl rfl rfl (val_move rfl rfl) ?_
  refine Gx.val rfl rfl rfl (val_move rfl rfl) ?_
  refine Gx.val rfl rfl rfl (val_quo rfl rfl rfl (r := (((b - a) / 4 : Nat) : Int)) (by omega) (q64 (a := b - a) (m := 4) (by omega) rfl (by omega))) ?_
  refine Gx.val rfl rfl rfl (val_mul rfl rfl rfl (r := ((((b - a) / 4) * 1 : Nat) : Int)) (w64 (by omega) (by omega))) ?_
  refine Gx.val rfl rfl rfl (val_add rfl rfl rfl (r := ((a + (((b - a) / 4) * 1) : Nat) : Int)) (w64 (by omega) (by omega))) ?_
  refine Gx.val rfl rfl rfl (val_assign rfl rfl) ?_
  refine Gx.done ?_
  refine Gx.thenN ?_
  refine Gx.seq ?_
  refine Gx.region ?_
  refine Gx.val rfl rfl rfl (val_move rfl rfl) ?_
  refine Gx.val rfl rfl rfl (val_move rfl rfl) ?_
  refine Gx.val rfl rfl rfl (val_quo rfl rfl rfl (r := (((b - a) / 4 : Nat) : Int)) (by omega) (q64 (a := b - a) (m := 4) (by omega) rfl (by omega))) ?_
  refine Gx.val rfl rfl rfl (val_mul rfl rfl rfl (r := ((((b - a) / 4) * 2 : Nat) : Int)) (w64 (by omega) (by omega))) ?_
  refine Gx.val rfl rfl rfl (val_add rfl rfl rfl (r := ((a + (((b - a) / 4) * 2) : Nat) : Int)) (w64 (by omega) (by omega))) ?_
  refine Gx.val rfl rfl rfl (val_assign rfl rfl) ?_
  refine Gx.done ?_
  refine Gx.thenN ?_
  refine Gx.seq ?_
  refine Gx.region ?_
  refine Gx.val rfl rfl rfl (val_move rfl rfl) ?_
  refine Gx.val rfl rfl rfl (val_move rfl rfl) ?_
  refine Gx.val rfl rfl rfl (val_quo rfl rfl rfl (r := (((b - a) / 4 : Nat) : Int)) (by omega) (q64 (a := b - a) (m := 4) (by omega) rfl (by omega))) ?_
  refine Gx.val rfl rfl rfl (val_mul rfl rfl rfl (r := ((((b - a) / 4) * 3 : Nat) : Int)) (w64 (by omega) (by omega))) ?_
  refine Gx.val rfl rfl rfl (val_add rfl rfl rfl (r := ((a + (((b - a) / 4) * 3) : Nat) : Int)) (w64 (by omega) (by omega))) ?_
  refine Gx.val rfl rfl rfl (val_assign rfl rfl) ?_
  refine Gx.done ?_
  refine Gx.thenN ?_
  refine Gx.seq ?_
  refine Gx.seq ?_
  refine Gx.region ?_
  refine Gx.val rfl rfl rfl (val_move rfl rfl) ?_
  refine Gx.val rfl rfl rfl (val_geq rfl rfl rfl) ?_
  refine Gx.done ?_
  refine Gx.thenN ?_
  refine Gx.decT rfl (by omega) ?_
  refine Gx.seq ?_
  refine Gx.seq ?_
  refine Gx.region ?_
  refine Gx.val rfl rfl rfl (val_move rfl rfl) ?_
  refine Gx.val rfl rfl rfl (val_geq rfl rfl rfl) ?_
  refine Gx.done ?_
  refine Gx.thenN ?_
  refine Gx.dec rfl (fun h2 => ?_) (fun h2 => ?_)
  · refine Gx.seq ?_
    refine Gx.region ?_
    refine Gx.val rfl rfl rfl (val_move rfl rfl) ?_
    refine Gx.val rfl rfl rfl (val_move rfl rfl) ?_
    refine Gx.val rfl rfl rfl (val_move rfl rfl) ?_
    refine Gx.eff rfl rfl rfl (eff_call (vs := [v, .int .i64 ((a + (((b - a) / 4) * 1) : Nat) : Int), ptr b1 0, .func (.func 26) #[] #[]]) rfl Try.fn63 rfl (fun w H => medadj_any (s := 0) (by omega) (by omega) (by omega) (by omega) (H.at2 (k := 1) (k' := 0) rfl rfl))) ?_
    rintro _ l7 ⟨p3, s4, ho5, hs6, rfl, hl7⟩
    refine Gx.sepEq (l' := [Hp.own FK 3 v xs, Hp.rec_ b1 [.int .i64 ((s4 : Nat) : Int)], R]) hl7 ?_
    refine Gx.val rfl rfl rfl (val_assign rfl rfl) ?_
    refine Gx.done ?_
    refine Gx.thenN ?_
    refine Gx.seq ?_
    refine Gx.region ?_
    refine Gx.val rfl rfl rfl (val_move rfl rfl) ?_
    refine Gx.val rfl rfl rfl (val_move rfl rfl) ?_
    refine Gx.val rfl rfl rfl (val_move rfl rfl) ?_
    refine Gx.eff rfl rfl rfl (eff_call (vs := [v, .int .i64 ((a + (((b - a) / 4) * 2) : Nat) : Int), ptr b1 0, .func (.func 26) #[] #[]]) rfl Try.fn63 rfl (fun w H => medadj_any (s := s4) (by omega) (by omega) (by omega) (by omega) (H.at2 (k := 0) (k' := 0) rfl rfl))) ?_
    rintro _ l12 ⟨p8, s9, ho10, hs11, rfl, hl12⟩
    refine Gx.sepEq (l' := [Hp.own FK 3 v xs, Hp.rec_ b1 [.int .i64 ((s9 : Nat) : Int)], R]) hl12 ?_
    refine Gx.val rfl rfl rfl (val_assign rfl rfl) ?_
    refine Gx.done ?_
    refine Gx.thenN ?_
    refine Gx.region ?_
    refine Gx.val rfl rfl rfl (val_move rfl rfl) ?_
    refine Gx.val rfl rfl rfl (val_move rfl rfl) ?_
    refine Gx.val rfl rfl rfl (val_move rfl rfl) ?_
    refine Gx.eff rfl rfl rfl (eff_call (vs := [v, .int .i64 ((a + (((b - a) / 4) * 3) : Nat) : Int), ptr b1 0, .func (.func 26) #[] #[]]) rfl Try.fn63 rfl (fun w H => medadj_any (s := s9) (by omega) (by omega) (by omega) (by omega) (H.at2 (k := 0) (k' := 0) rfl rfl))) ?_
    rintro _ l17 ⟨p13, s14, ho15, hs16, rfl, hl17⟩
    refine Gx.sepEq (l' := [Hp.own FK 3 v xs, Hp.rec_ b1 [.int .i64 ((s14 : Nat) : Int)], R]) hl17 ?_
    refine Gx.val rfl rfl rfl (val_assign rfl rfl) ?_
    refine Gx.done ?_
    refine Gx.thenN ?_
    refine Gx.region ?_
    refine Gx.val rfl rfl rfl (val_move rfl rfl) ?_
    refine Gx.val rfl rfl rfl (val_move rfl rfl) ?_
    refine Gx.val rfl rfl rfl (val_move rfl rfl) ?_
    refine Gx.val rfl rfl rfl (val_move rfl rfl) ?_
    refine Gx.val rfl rfl rfl (val_move rfl rfl) ?_
    refine Gx.eff rfl rfl rfl (eff_call (vs := [v, .int .i64 ((p3 : Nat) : Int), .int .i64 ((p8 : Nat) : Int), .int .i64 ((p13 : Nat) : Int), ptr b1 0, .func (.func 26) #[] #[]]) rfl Try.fn64 rfl (fun w H => median_any (s := s14) (by omega) (by omega) (by omega) (by omega) (H.at2 (k := 0) (k' := 0) rfl rfl))) ?_
    rintro _ l22 ⟨p18, s19, ho20, hs21, rfl, hl22⟩
    refine Gx.sepEq (l' := [Hp.own FK 3 v xs, Hp.rec_ b1 [.int .i64 ((s19 : Nat) : Int)], R]) hl22 ?_
    refine Gx.val rfl rfl rfl (val_assign rfl rfl) ?_
    refine Gx.done ?_
    refine Gx.thenN ?_
    refine Gx.seq ?_
    refine Gx.region ?_
    refine Gx.val rfl rfl rfl (val_load rfl Try.ty3 rfl rfl (cell_rec (k := 1) rfl rfl)) ?_
    refine Gx.done ?_
    refine Gx.thenN ?_
    refine Gx.block ?_
    refine Gx.seq ?_
    refine Gx.region ?_
    refine Gx.val rfl rfl rfl (val_eql rfl rfl rfl) ?_
    refine Gx.val rfl rfl rfl (val_assign rfl rfl) ?_
    refine Gx.done ?_
    refine Gx.thenN ?_
    refine Gx.dec rfl (fun h23 => ?_) (fun h23 => ?_)
    · refine Gx.seq ?_
      refine Gx.region ?_
      refine Gx.val rfl rfl rfl (val_move rfl rfl) ?_
      refine Gx.val rfl rfl rfl (val_assign rfl rfl) ?_
      refine Gx.val rfl rfl rfl (val_assign rfl rfl) ?_
      refine Gx.done ?_
      refine Gx.thenN ?_
      refine Gx.ret ?_
      refine Gx.blkR ?_
      refine Gx.drop 1 rfl ?_
      refine Gx.front 0 rfl ?_
      refine Gx.ret2 Try.results53 rfl rfl ?_
      exact ⟨_, _, by omega, by omega, rfl, sep1 _ _⟩
    refine Gx.seq ?_
    refine Gx.region ?_
    refine Gx.val rfl rfl rfl (val_eql rfl rfl rfl) ?_
    refine Gx.val rfl rfl rfl (val_assign rfl rfl) ?_
    refine Gx.done ?_
    refine Gx.thenN ?_
    refine Gx.dec rfl (fun h24 => ?_) (fun h24 => ?_)
    · refine Gx.seq ?_
      refine Gx.region ?_
      refine Gx.val rfl rfl rfl (val_move rfl rfl) ?_
      refine Gx.val rfl rfl rfl (val_assign rfl rfl) ?_
      refine Gx.val rfl rfl rfl (val_assign rfl rfl) ?_
      refine Gx.done ?_
      refine Gx.thenN ?_
      refine Gx.ret ?_
      refine Gx.blkR ?_
      refine Gx.drop 1 rfl ?_
      refine Gx.front 0 rfl ?_
      refine Gx.ret2 Try.results53 rfl rfl ?_
      exact ⟨_, _, by omega, by omega, rfl, sep1 _ _⟩
    refine Gx.seq ?_
    refine Gx.region ?_
    refine Gx.val rfl rfl rfl (val_move rfl rfl) ?_
    refine Gx.val rfl rfl rfl (val_assign rfl rfl) ?_
    refine Gx.val rfl rfl rfl (val_assign rfl rfl) ?_
    refine Gx.done ?_
    refine Gx.thenN ?_
    refine Gx.ret ?_
    refine Gx.blkR ?_
    refine Gx.drop 1 rfl ?_
    refine Gx.front 0 rfl ?_
    refine Gx.ret2 Try.results53 rfl rfl ?_
    exact ⟨_, _, by omega, by omega, rfl, sep1 _ _⟩
  refine Gx.skip ?_
  refine Gx.thenN ?_
  refine Gx.region ?_
  refine Gx.val rfl rfl rfl (val_move rfl rfl) ?_
  refine Gx.val rfl rfl rfl (val_move rfl rfl) ?_
  refine Gx.val rfl rfl rfl (val_move rfl rfl) ?_
  refine Gx.val rfl rfl rfl (val_move rfl rfl) ?_
  refine Gx.val rfl rfl rfl (val_move rfl rfl) ?_
  refine Gx.eff rfl rfl rfl (eff_call (vs := [v, .int .i64 ((a + (((b - a) / 4) * 1) : Nat) : Int), .int .i64 ((a + (((b - a) / 4) * 2) : Nat) : Int), .int .i64 ((a + (((b - a) / 4) * 3) : Nat) : Int), ptr b1 0, .func (.func 26) #[] #[]]) rfl Try.fn64 rfl (fun w H => median_any (s := 0) (by omega) (by omega) (by omega) (by omega) (H.at2 (k := 1) (k' := 0) rfl rfl))) ?_
  rintro _ l29 ⟨p25, s26, ho27, hs28, rfl, hl29⟩
  refine Gx.sepEq (l' := [Hp.own FK 3 v xs, Hp.rec_ b1 [.int .i64 ((s26 : Nat) : Int)], R]) hl29 ?_
  refine Gx.val rfl rfl rfl (val_assign rfl rfl) ?_
  refine Gx.done ?_
  refine Gx.thenN ?_
  refine Gx.seq ?_
  refine Gx.region ?_
  refine Gx.val rfl rfl rfl (val_load rfl Try.ty3 rfl rfl (cell_rec (k := 1) rfl rfl)) ?_
  refine Gx.done ?_
  refine Gx.thenN ?_
  refine Gx.block ?_
  refine Gx.seq ?_
  refine Gx.region ?_
  refine Gx.val rfl rfl rfl (val_eql rfl rfl rfl) ?_
  refine Gx.val rfl rfl rfl (val_assign rfl rfl) ?_
  refine Gx.done ?_
  refine Gx.thenN ?_
  refine Gx.dec rfl (fun h30 => ?_) (fun h30 => ?_)
  · refine Gx.seq ?_
    refine Gx.region ?_
    refine Gx.val rfl rfl rfl (val_move rfl rfl) ?_
    refine Gx.val rfl rfl rfl (val_assign rfl rfl) ?_
    refine Gx.val rfl rfl rfl (val_assign rfl rfl) ?_
    refine Gx.done ?_
    refine Gx.thenN ?_
    refine Gx.ret ?_
    refine Gx.blkR ?_
    refine Gx.drop 1 rfl ?_
    refine Gx.front 0 rfl ?_
    refine Gx.ret2 Try.results53 rfl rfl ?_
    exact ⟨_, _, by omega, by omega, rfl, sep1 _ _⟩
  refine Gx.seq ?_
  refine Gx.region ?_
  refine Gx.val rfl rfl rfl (val_eql rfl rfl rfl) ?_
  refine Gx.val rfl rfl rfl (val_assign rfl rfl) ?_
  refine Gx.done ?_
  refine Gx.thenN ?_
  refine Gx.dec rfl (fun h31 => ?_) (fun h31 => ?_)
  · refine Gx.seq ?_
    refine Gx.region ?_
    refine Gx.val rfl rfl rfl (val_move rfl rfl) ?_
    refine Gx.val rfl rfl rfl (val_assign rfl rfl) ?_
    refine Gx.val rfl rfl rfl (val_assign rfl rfl) ?_
    refine Gx.done ?_
    refine Gx.thenN ?_
    refine Gx.ret ?_
    refine Gx.blkR ?_
    refine Gx.drop 1 rfl ?_
    refine Gx.front 0 rfl ?_
    refine Gx.ret2 Try.results53 rfl rfl ?_
    exact ⟨_, _, by omega, by omega, rfl, sep1 _ _⟩
  refine Gx.seq ?_
  refine Gx.region ?_
  refine Gx.val rfl rfl rfl (val_move rfl rfl) ?_
  refine Gx.val rfl rfl rfl (val_assign rfl rfl) ?_
  refine Gx.val rfl rfl rfl (val_assign rfl rfl) ?_
  refine Gx.done ?_
  refine Gx.thenN ?_
  refine Gx.ret ?_
  refine Gx.blkR ?_
  refine Gx.drop 1 rfl ?_
  refine Gx.front 0 rfl ?_
  refine Gx.ret2 Try.results53 rfl rfl ?_
  exact ⟨_, _, by omega, by omega, rfl, sep1 _ _⟩

set_option maxHeartbeats 2000000 in
theorem brk_any {W w : World} {v : Value} {xs : List Dk} {R : Hp} {a b : Nat} (hab : a + 12 < b) (hb : b ≤ xs.length) (hl : xs.length ≤ 65000) (H : Sat W w (Hp.own FK 3 v xs * R)) :
    Calls Try.prog 52 #[v, .int .i64 ((a : Nat) : Int), .int .i64 ((b : Nat) : Int), .func (.func 26) #[] #[]] w (Ret W fun u l => ∃ ys, Sh a b xs ys ∧ u = .tuple #[] ∧ sep l = Hp.own FK 3 v ys * R) := by
  refine Gx.enter (l := [Hp.own FK 3 v xs, R]) Try.func52 rfl Try.ntmps52 rfl (H.frame1) ?_
  refine Gx.know (m' := [(0, v), (1, .int .i64 ((a : Nat) : Int)), (2, .int .i64 ((b : Nat) : Int)), (3, .func (.func 26) #[] #[])]) (.cons rfl (.cons rfl (.cons rfl (.cons rfl .nil)))) ?_
  refine Gx.seq ?_
  refine Gx.region ?_
  refine Gx.val rfl rfl rfl (val_move rfl rfl) ?_
  refine Gx.val rfl rfl rfl (val_move rfl rfl) ?_
  refine Gx.val rfl rfl rfl (val_sub rfl rfl rfl (r := ((b - a : Nat) : Int)) (w64 (by omega) (by omega))) ?_
  refine Gx.val rfl rfl rfl (val_assign rfl rfl) ?_
  refine Gx.done ?_
  refine Gx.thenN ?_
  refine Gx.seq ?_
  refine Gx.region ?_
  refine Gx.val rfl rfl rfl (val_move rfl rfl) ?_
  refine Gx.val rfl rfl rfl (val_geq rfl rfl rfl) ?_
  refine Gx.done ?_
  refine Gx.thenN ?_
  refine Gx.decT rfl (by omega) ?_
  refine Gx.seq ?_
  refine Gx.region ?_
  refine Gx.val rfl rfl rfl (val_move rfl rfl) ?_
  refine Gx.val rfl rfl rfl (val_conv rfl Try.underlying3 Try.underlying96 rfl (r := ((b - a : Nat) : Int)) (u64id (by omega))) ?_
  refine Gx.eff rfl rfl rfl (eff_alloc rfl Try.ty96 (vs := [.int .u64 0]) rfl) ?_
  rintro _ _ ⟨b1, rfl, rfl⟩
  refine Gx.eff0 rfl rfl (eff_store rfl Try.ty96 rfl rfl (us := [.int .u64 ((b - a : Nat) : Int)]) rfl rfl rfl (k := 0) rfl (rfl) (vs' := [.int .u64 ((b - a : Nat) : Int)]) (rfl) (l' := [Hp.rec_ b1 [.int .u64 ((b - a : Nat) : Int)], Hp.own FK 3 v xs, R]) rfl) ?_
  rintro _ _ rfl
  refine Gx.done ?_
  refine Gx.thenN ?_
  refine Gx.seq ?_
  refine Gx.region ?_
  refine Gx.val rfl rfl rfl (val_move rfl rfl) ?_
  refine Gx.val rfl rfl rfl (val_call (vs := [.int .i64 ((b - a : Nat) : Int)]) rfl Try.fn61 rfl (fun w H => np2_any (x := b - a) (by omega))) ?_
  refine Gx.val rfl rfl rfl (val_assign rfl rfl) ?_
  refine Gx.done ?_
  refine Gx.thenN ?_
  refine Gx.seq ?_
  refine Gx.region ?_
  refine Gx.val rfl rfl rfl (val_move rfl rfl) ?_
  refine Gx.val rfl rfl rfl (val_move rfl rfl) ?_
  refine Gx.val rfl rfl rfl (val_quo rfl rfl rfl (r := (((b - a) / 4 : Nat) : Int)) (by omega) (q64 (a := b - a) (m := 4) (by omega) rfl (by omega))) ?_
  refine Gx.val rfl rfl rfl (val_mul rfl rfl rfl (r := ((((b - a) / 4) * 2 : Nat) : Int)) (w64 (by omega) (by omega))) ?_
  refine Gx.val rfl rfl rfl (val_add rfl rfl rfl (r := ((a + (((b - a) / 4) * 2) : Nat) : Int)) (w64 (by omega) (by omega))) ?_
  refine Gx.val rfl rfl rfl (val_sub rfl rfl rfl (r := ((a + (b - a) / 4 * 2 - 1 : Nat) : Int)) (w64 (by omega) (by omega))) ?_
  refine Gx.val rfl rfl rfl (val_assign rfl rfl) ?_
  refine Gx.done ?_
  refine Gx.thenN ?_
  refine Gx.block ?_
  refine Gx.loop (ι := Nat × Int × (List Dk)) (fun ξ => (a + (b - a) / 4 * 2 - 1 ≤ ξ.1) ∧ (ξ.1 ≤ a + (b - a) / 4 * 2 + 2) ∧ (Sh a b xs ξ.2.2)) (fun ξ => [(0, v), (1, .int .i64 ((a : Nat) : Int)), (8, .int .i64 ((b - a : Nat) : Int)), (9, ptr b1 0), (10, .int .u64 ((pwN (b - a) : Nat) : Int)), (11, .int .i64 ((ξ.1 : Nat) : Int))]) (fun ξ => [Hp.rec_ b1 [.int .u64 ξ.2.1], Hp.own FK 3 v ξ.2.2, R]) (fun ξ => a + (b - a) / 4 * 2 + 2 - ξ.1) (a + (b - a) / 4 * 2 - 1, ((b - a : Nat) : Int), xs) ⟨by first | omega | (dsimp only; omega), by first | omega | (dsimp only; omega), Sh.refl _⟩ ((.cons rfl (.cons rfl (.cons rfl (.cons rfl (.cons rfl (.cons rfl .nil))))))) rfl ?_
  rintro ⟨i, zr, L⟩ ⟨hi0, hi1, hsh⟩
  dsimp only at hi0 hi1 hsh
  refine Gx.know (m' := [(0, v), (1, .int .i64 ((a : Nat) : Int)), (8, .int .i64 ((b - a : Nat) : Int)), (9, ptr b1 0), (10, .int .u64 ((pwN (b - a) : Nat) : Int)), (11, .int .i64 ((i : Nat) : Int))]) (.cons rfl (.cons rfl (.cons rfl (.cons rfl (.cons rfl (.cons rfl .nil)))))) (Gx.norm (l' := [Hp.rec_ b1 [.int .u64 zr], Hp.own FK 3 v L, R]) rfl ?_)
  have hL := hsh.len
  have hpw := pwN_at (n := b - a) (by omega) (by omega)
  refine Gx.seq ?_
  refine Gx.seq ?_
  refine Gx.region ?_
  refine Gx.val rfl rfl rfl (val_move rfl rfl) ?_
  refine Gx.val rfl rfl rfl (val_move rfl rfl) ?_
  refine Gx.val rfl rfl rfl (val_move rfl rfl) ?_
  refine Gx.val rfl rfl rfl (val_quo rfl rfl rfl (r := (((b - a) / 4 : Nat) : Int)) (by omega) (q64 (a := b - a) (m := 4) (by omega) rfl (by omega))) ?_
  refine Gx.val rfl rfl rfl (val_mul rfl rfl rfl (r := ((((b - a) / 4) * 2 : Nat) : Int)) (w64 (by omega) (by omega))) ?_
  refine Gx.val rfl rfl rfl (val_add rfl rfl rfl (r := ((a + (((b - a) / 4) * 2) : Nat) : Int)) (w64 (by omega) (by omega))) ?_
  refine Gx.val rfl rfl rfl (val_add rfl rfl rfl (r := ((a + (((b - a) / 4) * 2) + 1 : Nat) : Int)) (w64 (by omega) (by omega))) ?_
  refine Gx.val rfl rfl rfl (val_leq rfl rfl rfl) ?_
  refine Gx.done ?_
  refine Gx.thenN ?_
  refine Gx.dec rfl (fun h2 => ?_) (fun h2 => ?_)
  · refine Gx.skip ?_
    refine Gx.thenN ?_
    refine Gx.seq ?_
    refine Gx.block ?_
    refine Gx.seq ?_
    refine Gx.region ?_
    refine Gx.eff rfl rfl rfl (eff_call (vs := [ptr b1 0]) rfl Try.fn62 rfl (fun w H => next_any (H.at_ (k := 0) rfl))) ?_
    rintro _ l4 ⟨z3, rfl, hl4⟩
    refine Gx.sepEq (l' := [Hp.rec_ b1 [.int .u64 z3], Hp.own FK 3 v L, R]) hl4 ?_
    refine Gx.val rfl rfl rfl (val_move rfl rfl) ?_
    refine Gx.val rfl rfl rfl (val_sub rfl rfl rfl (r := ((pwN (b - a) - 1 : Nat) : Int)) (u64in (by omega) (by omega))) ?_
    obtain ⟨q, hq, hqe⟩ := and_le (z := z3) (m := pwN (b - a) - 1) (by omega)
    refine Gx.val rfl rfl rfl (val_and rfl rfl rfl hqe) ?_
    refine Gx.val rfl rfl rfl (val_conv rfl Try.underlying76 Try.underlying3 rfl (r := ((q : Nat) : Int)) (w64 rfl (by omega))) ?_
    refine Gx.val rfl rfl rfl (val_assign rfl rfl) ?_
    refine Gx.done ?_
    refine Gx.thenN ?_
    refine Gx.seq ?_
    refine Gx.seq ?_
    refine Gx.region ?_
    refine Gx.val rfl rfl rfl (val_move rfl rfl) ?_
    refine Gx.val rfl rfl rfl (val_move rfl rfl) ?_
    refine Gx.val rfl rfl rfl (val_geq rfl rfl rfl) ?_
    refine Gx.done ?_
    refine Gx.thenN ?_
    refine Gx.dec rfl (fun h5 => ?_) (fun h5 => ?_)
    · refine Gx.region ?_
      refine Gx.val rfl rfl rfl (val_move rfl rfl) ?_
      refine Gx.val rfl rfl rfl (val_move rfl rfl) ?_
      refine Gx.val rfl rfl rfl (val_sub rfl rfl rfl (r := ((q - (b - a) : Nat) : Int)) (w64 (by omega) (by omega))) ?_
      refine Gx.val rfl rfl rfl (val_assign rfl rfl) ?_
      refine Gx.done ?_
      refine Gx.thenN ?_
      obtain ⟨oo, hoo⟩ : ∃ oo, oo = q - (b - a) := ⟨_, rfl⟩
      refine Gx.slot (t := 12) (v := .int .i64 ((oo : Nat) : Int)) (by rw [hoo]; rfl) ?_
      obtain ⟨x, hx⟩ := get_of_lt (xs := L) (k := i) (by omega)
      obtain ⟨y, hy⟩ := get_of_lt (xs := L) (k := a + oo) (by omega)
      refine Gx.regionO (fun j => j == 17) 19 [0, 1, 2, 3, 4, 5, 6, 7, 8, 9, 10, 11, 12, 13, 14, 15, 16, 17, 18] (fun us => match us with | [] => [Hp.rec_ b1 [.int .u64 z3], Hp.own FK 3 v L, R] | u1 :: _ => [Hp.rec_ b1 [.int .u64 z3], Hp.own FK 3 v (L.set i y), R]) Try.mixed (by kernel_rfl) rfl ?_
      refine Gw.val rfl rfl rfl rfl rfl (fun us => val_move rfl rfl) ?_
      refine Gw.val rfl rfl rfl rfl rfl (fun us => val_move rfl rfl) ?_
      refine Gw.val rfl rfl rfl rfl rfl (fun us => val_move rfl rfl) ?_
      refine Gw.val rfl rfl rfl rfl rfl (fun us => val_move rfl rfl) ?_
      refine Gw.val rfl rfl rfl rfl rfl (fun us => val_move rfl rfl) ?_
      refine Gw.val rfl rfl rfl rfl rfl (fun us => val_add rfl rfl rfl (r := ((a + oo : Nat) : Int)) (w64 (by omega) (by omega))) ?_
      refine Gw.val rfl rfl rfl rfl rfl (fun us => val_move rfl rfl) ?_
      refine Gw.val rfl rfl rfl rfl rfl (fun us => val_move rfl rfl) ?_
      refine Gw.val rfl rfl rfl rfl rfl (fun us => val_move rfl rfl) ?_
      refine Gw.val rfl rfl rfl rfl rfl (fun us => val_add rfl rfl rfl (r := ((a + oo : Nat) : Int)) (w64 (by omega) (by omega))) ?_
      refine Gw.val0 rfl rfl rfl (by kernel_rfl) rfl rfl (val_ixa rfl Try.underlying25 Try.ty59 rfl rfl (j := a + oo) (rfl) (reach_own (k := 1) rfl hy)) ?_
      refine Gw.val0 rfl rfl rfl (by kernel_rfl) rfl rfl (Val.cast (val_loadA rfl Try.ty59 rfl rfl rfl (cells_own (sz := 3) (j := a + oo) (k := 1) rfl hy)) (v' := .agg #[.int .i64 y.1.item, .int .i64 y.1.who, .int .i64 y.1.n]) rfl) ?_
      refine Gw.val rfl rfl rfl rfl rfl (fun us => val_move rfl rfl) ?_
      refine Gw.val rfl rfl rfl rfl rfl (fun us => val_move rfl rfl) ?_
      obtain ⟨x6, hx6⟩ := get_of_lt (xs := L.set i y) (k := i) (by first | omega | (simp; omega))
      refine Gw.val rfl rfl rfl rfl rfl (fun us => match us with | [] => val_ixa rfl Try.underlying25 Try.ty59 rfl rfl (j := i) (rfl) (reach_own (k := 1) rfl hx) | u1 :: _ => val_ixa rfl Try.underlying25 Try.ty59 rfl rfl (j := i) (rfl) (reach_own (k := 1) rfl hx6)) ?_
      refine Gw.val0 rfl rfl rfl (by kernel_rfl) rfl rfl (Val.cast (val_loadA rfl Try.ty59 rfl rfl rfl (cells_own (k := 1) rfl hx)) (v' := .agg #[.int .i64 x.1.item, .int .i64 x.1.who, .int .i64 x.1.n]) rfl) ?_
      refine Gw.val0 rfl rfl rfl (by kernel_rfl) rfl rfl (val_ixa rfl Try.underlying25 Try.ty59 rfl rfl (j := i) (rfl) (reach_own (k := 1) rfl hx)) ?_
      refine Gw.chg0 rfl rfl rfl rfl (Eff.mono (eff_storeElA y rfl Try.ty59 rfl rfl rfl FK_one (k := 1) rfl FK_len hx (l' := [Hp.rec_ b1 [.int .u64 z3], Hp.own FK 3 v (L.set i y), R]) rfl) (fun _ _ h => congrArg sep h)) (fun _ => ?_)
      obtain ⟨x7, hx7⟩ := get_of_lt (xs := L.set i y) (k := a + oo) (by first | omega | (simp; omega))
      refine Gw.val0 rfl rfl rfl (by kernel_rfl) rfl rfl (val_ixa rfl Try.underlying25 Try.ty59 rfl rfl (j := a + oo) (rfl) (reach_own (k := 1) rfl hx7)) ?_
      refine Gw.done ?_
      refine Gx.norm (l' := [Hp.rec_ b1 [.int .u64 z3], Hp.own FK 3 v (L.set i y), R]) rfl ?_
      refine Gx.eff0 rfl rfl (eff_storeElA x rfl Try.ty59 rfl rfl rfl FK_one (k := 1) rfl FK_len hx7 (l' := [Hp.rec_ b1 [.int .u64 z3], Hp.own FK 3 v ((L.set i y).set (a + oo) x), R]) rfl) ?_
      rintro _ _ rfl
      refine Gx.done ?_
      refine Gx.blkN ?_
      refine Gx.thenN ?_
      refine Gx.region ?_
      refine Gx.val rfl rfl rfl (val_move rfl rfl) ?_
      refine Gx.val rfl rfl rfl (val_add rfl rfl rfl (r := ((i + 1 : Nat) : Int)) (w64 (by omega) (by omega))) ?_
      refine Gx.val rfl rfl rfl (val_assign rfl rfl) ?_
      refine Gx.done ?_
      refine Gx.thenN ?_
      exact Gx.round (i + 1, z3, (L.set i y).set (a + oo) x) ⟨by first | omega | (dsimp only; omega), by first | omega | (dsimp only; omega), Sh.swap hsh (by omega) (by omega) (by omega) (by omega) hx hy⟩ (by first | omega | (dsimp only; omega)) ((.cons rfl (.cons rfl (.cons rfl (.cons rfl (.cons rfl (.cons rfl .nil))))))) rfl
    refine Gx.skip ?_
    refine Gx.thenN ?_
    obtain ⟨oo, hoo⟩ : ∃ oo, oo = q := ⟨_, rfl⟩
    refine Gx.slot (t := 12) (v := .int .i64 ((oo : Nat) : Int)) (by rw [hoo]; rfl) ?_
    obtain ⟨x, hx⟩ := get_of_lt (xs := L) (k := i) (by omega)
    obtain ⟨y, hy⟩ := get_of_lt (xs := L) (k := a + oo) (by omega)
    refine Gx.regionO (fun j => j == 17) 19 [0, 1, 2, 3, 4, 5, 6, 7, 8, 9, 10, 11, 12, 13, 14, 15, 16, 17, 18] (fun us => match us with | [] => [Hp.rec_ b1 [.int .u64 z3], Hp.own FK 3 v L, R] | u1 :: _ => [Hp.rec_ b1 [.int .u64 z3], Hp.own FK 3 v (L.set i y), R]) Try.mixed (by kernel_rfl) rfl ?_
    refine Gw.val rfl rfl rfl rfl rfl (fun us => val_move rfl rfl) ?_
    refine Gw.val rfl rfl rfl rfl rfl (fun us => val_move rfl rfl) ?_
    refine Gw.val rfl rfl rfl rfl rfl (fun us => val_move rfl rfl) ?_
    refine Gw.val rfl rfl rfl rfl rfl (fun us => val_move rfl rfl) ?_
    refine Gw.val rfl rfl rfl rfl rfl (fun us => val_move rfl rfl) ?_
    refine Gw.val rfl rfl rfl rfl rfl (fun us => val_add rfl rfl rfl (r := ((a + oo : Nat) : Int)) (w64 (by omega) (by omega))) ?_
    refine Gw.val rfl rfl rfl rfl rfl (fun us => val_move rfl rfl) ?_
    refine Gw.val rfl rfl rfl rfl rfl (fun us => val_move rfl rfl) ?_
    refine Gw.val rfl rfl rfl rfl rfl (fun us => val_move rfl rfl) ?_
    refine Gw.val rfl rfl rfl rfl rfl (fun us => val_add rfl rfl rfl (r := ((a + oo : Nat) : Int)) (w64 (by omega) (by omega))) ?_
    refine Gw.val0 rfl rfl rfl (by kernel_rfl) rfl rfl (val_ixa rfl Try.underlying25 Try.ty59 rfl rfl (j := a + oo) (rfl) (reach_own (k := 1) rfl hy)) ?_
    refine Gw.val0 rfl rfl rfl (by kernel_rfl) rfl rfl (Val.cast (val_loadA rfl Try.ty59 rfl rfl rfl (cells_own (sz := 3) (j := a + oo) (k := 1) rfl hy)) (v' := .agg #[.int .i64 y.1.item, .int .i64 y.1.who, .int .i64 y.1.n]) rfl) ?_
    refine Gw.val rfl rfl rfl rfl rfl (fun us => val_move rfl rfl) ?_
    refine Gw.val rfl rfl rfl rfl rfl (fun us => val_move rfl rfl) ?_
    obtain ⟨x8, hx8⟩ := get_of_lt (xs := L.set i y) (k := i) (by first | omega | (simp; omega))
    refine Gw.val rfl rfl rfl rfl rfl (fun us => match us with | [] => val_ixa rfl Try.underlying25 Try.ty59 rfl rfl (j := i) (rfl) (reach_own (k := 1) rfl hx) | u1 :: _ => val_ixa rfl Try.underlying25 Try.ty59 rfl rfl (j := i) (rfl) (reach_own (k := 1) rfl hx8)) ?_
    refine Gw.val0 rfl rfl rfl (by kernel_rfl) rfl rfl (Val.cast (val_loadA rfl Try.ty59 rfl rfl rfl (cells_own (k := 1) rfl hx)) (v' := .agg #[.int .i64 x.1.item, .int .i64 x.1.who, .int .i64 x.1.n]) rfl) ?_
    refine Gw.val0 rfl rfl rfl (by kernel_rfl) rfl rfl (val_ixa rfl Try.underlying25 Try.ty59 rfl rfl (j := i) (rfl) (reach_own (k := 1) rfl hx)) ?_
    refine Gw.chg0 rfl rfl rfl rfl (Eff.mono (eff_storeElA y rfl Try.ty59 rfl rfl rfl FK_one (k := 1) rfl FK_len hx (l' := [Hp.rec_ b1 [.int .u64 z3], Hp.own FK 3 v (L.set i y), R]) rfl) (fun _ _ h => congrArg sep h)) (fun _ => ?_)
    obtain ⟨x9, hx9⟩ := get_of_lt (xs := L.set i y) (k := a + oo) (by first | omega | (simp; omega))
    refine Gw.val0 rfl rfl rfl (by kernel_rfl) rfl rfl (val_ixa rfl Try.underlying25 Try.ty59 rfl rfl (j := a + oo) (rfl) (reach_own (k := 1) rfl hx9)) ?_
    refine Gw.done ?_
    refine Gx.norm (l' := [Hp.rec_ b1 [.int .u64 z3], Hp.own FK 3 v (L.set i y), R]) rfl ?_
    refine Gx.eff0 rfl rfl (eff_storeElA x rfl Try.ty59 rfl rfl rfl FK_one (k := 1) rfl FK_len hx9 (l' := [Hp.rec_ b1 [.int .u64 z3], Hp.own FK 3 v ((L.set i y).set (a + oo) x), R]) rfl) ?_
    rintro _ _ rfl
    refine Gx.done ?_
    refine Gx.blkN ?_
    refine Gx.thenN ?_
    refine Gx.region ?_
    refine Gx.val rfl rfl rfl (val_move rfl rfl) ?_
    refine Gx.val rfl rfl rfl (val_add rfl rfl rfl (r := ((i + 1 : Nat) : Int)) (w64 (by omega) (by omega))) ?_
    refine Gx.val rfl rfl rfl (val_assign rfl rfl) ?_
    refine Gx.done ?_
    refine Gx.thenN ?_
    exact Gx.round (i + 1, z3, (L.set i y).set (a + oo) x) ⟨by first | omega | (dsimp only; omega), by first | omega | (dsimp only; omega), Sh.swap hsh (by omega) (by omega) (by omega) (by omega) hx hy⟩ (by first | omega | (dsimp only; omega)) ((.cons rfl (.cons rfl (.cons rfl (.cons rfl (.cons rfl (.cons rfl .nil))))))) rfl
  refine Gx.exit ?_
  refine Gx.thenE ?_
  refine Gx.thenE ?_
  refine Gx.blkE ?_
  refine Gx.endN ?_
  refine Gx.drop 0 rfl ?_
  refine Gx.front 0 rfl ?_
  refine Gx.ret0 Try.results52 ?_
  exact ⟨_, hsh, rfl, sep1 _ _⟩

end Go.Proofs.Ytfpkfbffpkjgbaa
