/- The least of a set; a way's number; what is sent; a vote. The walks. No condition. -/
import Derived.Test.YtcblkjjkpffjhaaDoorD1
import Derived.Test.YtcblkjjkpffjhaaDoorX7
namespace Go.Proofs.YtcblkjjkpffjhaaDoor
open Go.RowKit
set_option linter.unusedVariables false
set_option linter.unusedSimpArgs false
set_option maxRecDepth 100000

theorem neg32 {u : Nat} (h0 : 0 < u) (h : u < 4294967296) : IntKind.u32.wrap (-(u : Int)) = ((4294967296 - u : Nat) : Int) := by
  show (-(u : Int)) % 4294967296 = _
  omega
theorem mul32 (a b : Nat) : IntKind.u32.wrap ((a : Int) * (b : Int)) = ((a * b % 4294967296 : Nat) : Int) := by
  show ((a : Int) * (b : Int)) % 4294967296 = _
  rw [← Int.natCast_mul]; omega
theorem sub32 {u : Nat} (h0 : u ≠ 0) (h : u < 4294967296) : IntKind.u32.wrap ((u : Int) - 1) = ((u - 1 : Nat) : Int) := by
  show ((u : Int) - 1) % 4294967296 = _
  omega
theorem and64 {a b : Nat} (ha : a < 18446744073709551616) (hb : b < 18446744073709551616) : IntKind.u64.wrap ((BitVec.ofInt IntKind.u64.bits (a : Int) &&& BitVec.ofInt IntKind.u64.bits (b : Int)).toNat) = ((a &&& b : Nat) : Int) := by
  have e1 : ∀ a : Nat, BitVec.ofInt 64 (a : Int) = BitVec.ofNat 64 a := fun a => BitVec.ofInt_natCast ..
  have e3 : (BitVec.ofInt 64 (a : Int) &&& BitVec.ofInt 64 (b : Int)).toNat = a &&& b := by
    rw [e1, e1, BitVec.toNat_and, BitVec.toNat_ofNat, BitVec.toNat_ofNat, Nat.mod_eq_of_lt ha, Nat.mod_eq_of_lt hb]
  have h1 : a &&& b < 18446744073709551616 := Nat.lt_of_le_of_lt Nat.and_le_left ha
  show (((BitVec.ofInt 64 (a : Int) &&& BitVec.ofInt 64 (b : Int)).toNat : Nat) : Int) % 18446744073709551616 = _
  rw [e3]
  generalize a &&& b = z at *
  omega
theorem bit_and1 (m i : Nat) : (m >>> i &&& 1) = if m.testBit i = true then 1 else 0 := by
  rw [Nat.and_one_is_mod, Nat.testBit, Nat.and_comm, Nat.and_one_is_mod]
  have : (m >>> i) % 2 = 0 ∨ (m >>> i) % 2 = 1 := by omega
  rcases this with h | h <;> simp [h]
theorem bit_eq0 (m i : Nat) : Value.bool (decide (((m >>> i &&& 1 : Nat) : Int) = 0)) = .bool (!m.testBit i) := by rw [bit_and1]; cases h : m.testBit i <;> simp
theorem bit_eq1 (m i : Nat) : Value.bool (decide (((m >>> i &&& 1 : Nat) : Int) = 1)) = .bool (m.testBit i) := by rw [bit_and1]; cases h : m.testBit i <;> simp
theorem tz_any {W : World} {u : Nat} (hT : HT W) (hu : u < 128) (h0 : u ≠ 0) : Calls Tryd.prog 11 #[.int .u32 ((u : Nat) : Int)] W fun e w' => e = .returned (.int .i64 ((lo u : Nat) : Int)) ∧ Below W.heap.size W w' := by
  have hl7 := (lo_bit hu h0).2
  refine calls_pure (Gx.enter (l := []) Tryd.func11 rfl Tryd.ntmps11 rfl (Sat.start W) ?_)
  refine Gx.know (m' := [(0, .int .u32 ((u : Nat) : Int))]) (.cons rfl .nil) ?_
  refine Gx.seq ?_
  refine Gx.region ?_
  refine Gx.val rfl rfl rfl (val_assign rfl rfl) ?_
  refine Gx.done ?_
  refine Gx.thenN ?_
  refine Gx.seq ?_
  refine Gx.seq ?_
  refine Gx.region ?_
  refine Gx.val rfl rfl rfl (val_move rfl rfl) ?_
  refine Gx.val rfl rfl rfl (val_eql rfl rfl rfl) ?_
  refine Gx.done ?_
  refine Gx.thenN ?_
  refine Gx.decF rfl (by omega) ?_
  refine Gx.skip ?_
  refine Gx.thenN ?_
  refine Gx.seq ?_
  refine Gx.region ?_
  refine Gx.val rfl rfl rfl (val_move rfl rfl) ?_
  refine Gx.val rfl rfl rfl (val_move rfl rfl) ?_
  refine Gx.val rfl rfl rfl (val_neg rfl rfl (neg32 (by omega) (by omega))) ?_
  refine Gx.val rfl rfl rfl (val_and rfl rfl rfl (and32 (by omega) (by omega))) ?_
  refine Gx.val rfl rfl rfl (val_mul rfl rfl rfl (mul32 _ _)) ?_
  refine Gx.val rfl rfl rfl (val_shr (b := 27) rfl rfl rfl rfl (by decide) (shr32 _ _)) ?_
  refine Gx.val rfl rfl rfl (Val.cast (val_ixaA rfl Tryd.underlying43 Tryd.ty5 rfl rfl (j := tzI u) (rfl) ((tz_tab hu h0).2)) (v' := ptr 0 (0 + (tzI u) * 1)) rfl) ?_
  refine Gx.val rfl rfl rfl (val_load rfl Tryd.ty5 rfl rfl (cell_old hT.lt (by have := hT (tzI u) (lo u) (tz_tab hu h0).1; simpa using this))) ?_
  refine Gx.val rfl rfl rfl (val_conv rfl Tryd.underlying5 Tryd.underlying3 rfl (r := ((lo u : Nat) : Int)) (w64 rfl (by omega))) ?_
  refine Gx.val rfl rfl rfl (val_assign rfl rfl) ?_
  refine Gx.done ?_
  refine Gx.thenN ?_
  refine Gx.ret ?_
  refine Gx.ret1 Tryd.results11 rfl ?_
  rfl

theorem snoc_rec {α : Type} {P : List α → Prop} (nil : P []) (snoc : ∀ (l : List α) (i : α), P l → P (l ++ [i])) (l : List α) : P l := by
  have key : ∀ (n : Nat) (l : List α), l.length = n → P l := by
    intro n
    induction n with
    | zero => intro l h; cases l with | nil => exact nil | cons a l => simp at h
    | succ n ih =>
      intro l h
      have hne : l ≠ [] := fun e => by rw [e] at h; simp at h
      rw [← List.dropLast_concat_getLast hne]
      exact snoc _ _ (ih _ (by rw [List.length_dropLast]; omega))
  exact key _ l rfl
theorem codeW_le : ∀ (way : List Nat), (∀ i ∈ way, i < 7) → codeW way + 1 ≤ 8 ^ way.length := by
  intro way
  induction way using snoc_rec with
  | nil => intro _; decide
  | snoc l i ih =>
    intro h
    have := ih fun j hj => h j (List.mem_append_left _ hj)
    have hi := h i (by simp)
    rw [codeW_snoc, List.length_append]
    show 7 * codeW l + i + 1 + 1 ≤ 8 ^ (l.length + 1)
    rw [Nat.pow_succ]
    have h1 : 1 ≤ 8 ^ l.length := Nat.one_le_pow _ _ (by decide)
    omega
theorem pow8 (k : Nat) (h : k ≤ 4) : 8 ^ k ≤ 4096 := by
  have := Nat.pow_le_pow_right (show 0 < 8 by decide) h
  exact this
theorem code_any {W : World} {wv : Value} {way : List Nat} (hs : SlS FN 1 W wv way) (h6 : ∀ i ∈ way, i < 7) (h4 : way.length ≤ 4) : Calls Tryd.prog 15 #[wv] W fun e w' => e = .returned (.int .i64 ((codeW way : Nat) : Int)) ∧ Below W.heap.size W w' := by
  refine calls_pure (Gx.enter (l := []) Tryd.func15 rfl Tryd.ntmps15 rfl (Sat.start W) ?_)
  refine Gx.know (m' := [(0, wv)]) (.cons rfl .nil) ?_
  refine Gx.seq ?_
  refine Gx.region ?_
  refine Gx.val rfl rfl rfl (val_assign rfl rfl) ?_
  refine Gx.done ?_
  refine Gx.thenN ?_
  refine Gx.seq ?_
  refine Gx.region ?_
  refine Gx.val rfl rfl rfl (val_assign rfl rfl) ?_
  refine Gx.done ?_
  refine Gx.thenN ?_
  refine Gx.seq ?_
  refine Gx.seq ?_
  refine Gx.region ?_
  refine Gx.val rfl rfl rfl (val_move rfl rfl) ?_
  refine Gx.val rfl rfl rfl (val_len rfl Tryd.underlying36 rfl (len_base hs)) ?_
  refine Gx.val rfl rfl rfl (val_move rfl rfl) ?_
  refine Gx.done ?_
  refine Gx.thenN ?_
  refine Gx.block ?_
  refine Gx.loop (ι := Nat × Nat) (fun ξ => (ξ.1 ≤ way.length) ∧ (ξ.2 = codeW (way.take ξ.1))) (fun ξ => [(0, wv), (3, .int .i64 ((ξ.2 : Nat) : Int)), (6, wv), (7, .int .i64 ((way.length : Nat) : Int)), (8, .int .i64 ((ξ.1 : Nat) : Int))]) (fun ξ => []) (fun ξ => way.length - ξ.1) (0, 0) ⟨by first | omega | (dsimp only; omega), rfl⟩ ((.cons rfl (.cons rfl (.cons rfl (.cons rfl (.cons rfl .nil)))))) rfl ?_
  rintro ⟨k, c⟩ ⟨hk, hc⟩
  dsimp only at hk hc
  refine Gx.know (m' := [(0, wv), (3, .int .i64 ((c : Nat) : Int)), (6, wv), (7, .int .i64 ((way.length : Nat) : Int)), (8, .int .i64 ((k : Nat) : Int))]) (.cons rfl (.cons rfl (.cons rfl (.cons rfl (.cons rfl .nil))))) (Gx.norm (l' := []) rfl ?_)
  have hcb := codeW_le (way.take k) (fun i hi => h6 i (List.mem_of_mem_take hi))
  rw [List.length_take, Nat.min_eq_left hk] at hcb
  have hp8 := pow8 k (by omega)
  refine Gx.seq ?_
  refine Gx.region ?_
  refine Gx.val rfl rfl rfl (val_lss rfl rfl rfl) ?_
  refine Gx.done ?_
  refine Gx.thenN ?_
  refine Gx.seq ?_
  refine Gx.dec rfl (fun h1 => ?_) (fun h1 => ?_)
  · refine Gx.skip ?_
    refine Gx.thenN ?_
    refine Gx.seq ?_
    refine Gx.block ?_
    refine Gx.seq ?_
    refine Gx.region ?_
    obtain ⟨x2, hx2⟩ := get_of_lt (xs := way) (k := k) (by omega)
    refine Gx.val rfl rfl rfl (val_ixa rfl Tryd.underlying36 Tryd.ty3 rfl rfl (j := k) (rfl) (reach_base hs hx2)) ?_
    refine Gx.val rfl rfl rfl (val_load rfl Tryd.ty3 rfl rfl (cell_base (i := 0) hs hx2 rfl)) ?_
    refine Gx.val rfl rfl rfl (val_assign rfl rfl) ?_
    refine Gx.done ?_
    refine Gx.thenN ?_
    refine Gx.region ?_
    have hx6 := h6 x2 (List.mem_of_getElem? hx2)
    refine Gx.val rfl rfl rfl (val_move rfl rfl) ?_
    refine Gx.val rfl rfl rfl (val_mul rfl rfl rfl (r := ((7 * c : Nat) : Int)) (w64 (by omega) (by omega))) ?_
    refine Gx.val rfl rfl rfl (val_move rfl rfl) ?_
    refine Gx.val rfl rfl rfl (val_add rfl rfl rfl (r := ((7 * c + x2 : Nat) : Int)) (w64 (by omega) (by omega))) ?_
    refine Gx.val rfl rfl rfl (val_add rfl rfl rfl (r := ((7 * c + x2 + 1 : Nat) : Int)) (w64 (by omega) (by omega))) ?_
    refine Gx.val rfl rfl rfl (val_assign rfl rfl) ?_
    refine Gx.done ?_
    refine Gx.blkN ?_
    refine Gx.thenN ?_
    refine Gx.region ?_
    refine Gx.val rfl rfl rfl (val_add rfl rfl rfl (r := ((k + 1 : Nat) : Int)) (w64 (by omega) (by omega))) ?_
    refine Gx.val rfl rfl rfl (val_move rfl rfl) ?_
    refine Gx.done ?_
    refine Gx.thenN ?_
    exact Gx.round (k + 1, 7 * c + x2 + 1) ⟨by first | omega | (dsimp only; omega), by rw [take_of hx2, codeW_snoc, ← hc]⟩ (by first | omega | (dsimp only; omega)) ((.cons rfl (.cons rfl (.cons rfl (.cons rfl (.cons rfl .nil)))))) rfl
  · refine Gx.exit ?_
    refine Gx.thenE ?_
    refine Gx.thenE ?_
    refine Gx.blkE ?_
    refine Gx.thenN ?_
    refine Gx.seq ?_
    refine Gx.region ?_
    refine Gx.val rfl rfl rfl (val_move rfl rfl) ?_
    refine Gx.val rfl rfl rfl (val_assign rfl rfl) ?_
    refine Gx.done ?_
    refine Gx.thenN ?_
    refine Gx.ret ?_
    refine Gx.ret1 Tryd.results15 rfl ?_
    obtain rfl : k = way.length := by omega
    rw [List.take_length] at hc
    rw [hc]

theorem sent_any {W : World} {c : Cp} {wv : Value} {way : List Nat} {to : Nat} {x : Bool} (htr : c.tr < 4294967296) (hli : c.li < 18446744073709551616) (hs : SlS FN 1 W wv way) (h1 : 1 ≤ way.length) (h4 : way.length ≤ 4) (h6 : ∀ i ∈ way, i < 7) (hto : to < 7) :
    Calls Tryd.prog 12 #[.agg #[.int .u32 ((c.tr : Nat) : Int), .int .u64 ((c.li : Nat) : Int)], wv, .int .i64 ((to : Nat) : Int), .bool x] W fun e w' => e = .returned (.bool (sentP c way to x)) ∧ Below W.heap.size W w' := by
  have hcb := codeW_le way h6
  have hp8 := pow8 way.length h4
  refine calls_pure (Gx.enter (l := []) Tryd.func12 rfl Tryd.ntmps12 rfl (Sat.start W) ?_)
  refine Gx.know (m' := [(0, .agg #[.int .u32 ((c.tr : Nat) : Int), .int .u64 ((c.li : Nat) : Int)]), (1, wv), (2, .int .i64 ((to : Nat) : Int)), (3, .bool x)]) (.cons rfl (.cons rfl (.cons rfl (.cons rfl .nil)))) ?_
  refine Gx.seq ?_
  refine Gx.region ?_
  refine Gx.eff rfl rfl rfl (eff_box rfl rfl (vs := [.int .u32 ((c.tr : Nat) : Int), .int .u64 ((c.li : Nat) : Int)]) rfl) ?_
  rintro _ _ ⟨b1, rfl, rfl⟩
  refine Gx.val rfl rfl rfl (val_assign rfl rfl) ?_
  refine Gx.done ?_
  refine Gx.thenN ?_
  refine Gx.seq ?_
  refine Gx.seq ?_
  refine Gx.region ?_
  refine Gx.val rfl rfl rfl (val_move rfl rfl) ?_
  refine Gx.val rfl rfl rfl (val_move rfl rfl) ?_
  refine Gx.val rfl rfl rfl (val_len rfl Tryd.underlying36 rfl (len_base hs)) ?_
  refine Gx.val rfl rfl rfl (val_sub rfl rfl rfl (r := ((way.length - 1 : Nat) : Int)) (w64 (by omega) (by omega))) ?_
  obtain ⟨x2, hx2⟩ := get_of_lt (xs := way) (k := way.length - 1) (by omega)
  refine Gx.val rfl rfl rfl (val_ixa rfl Tryd.underlying36 Tryd.ty3 rfl rfl (j := way.length - 1) (rfl) (reach_base hs hx2)) ?_
  refine Gx.val rfl rfl rfl (val_load rfl Tryd.ty3 rfl rfl (cell_base (i := 0) (sz := 1) (j := way.length - 1) hs hx2 rfl)) ?_
  refine Gx.val rfl rfl rfl (val_assign rfl rfl) ?_
  refine Gx.done ?_
  refine Gx.thenN ?_
  refine Gx.seq ?_
  refine Gx.region ?_
  have hlw : lastW way = x2 := by unfold lastW; rw [List.getD_eq_getElem?_getD, hx2]; rfl
  have hl6 := h6 x2 (List.mem_of_getElem? hx2)
  refine Gx.val rfl rfl rfl (Val.cast (val_fieldAddr rfl Tryd.underlying33 rfl Tryd.ty22 rfl rfl) (v' := ptr b1 0) rfl) ?_
  refine Gx.val rfl rfl rfl (val_load rfl Tryd.ty22 rfl rfl (cell_rec (k := 0) rfl rfl)) ?_
  refine Gx.val rfl rfl rfl (val_move rfl rfl) ?_
  refine Gx.val rfl rfl rfl (val_shr (b := x2) rfl rfl rfl rfl (by show x2 ≤ 32; omega) (shr32 _ _)) ?_
  refine Gx.val rfl rfl rfl (val_and rfl rfl rfl (and32 (Nat.lt_of_le_of_lt (Nat.shiftRight_le _ _) htr) (by decide : 1 < 4294967296))) ?_
  refine Gx.val rfl rfl rfl (Val.cast (val_eql rfl rfl rfl) (v' := .bool (!c.tr.testBit x2)) (bit_eq0 c.tr x2)) ?_
  refine Gx.done ?_
  refine Gx.thenN ?_
  refine Gx.bool rfl (fun h3 => ?_) (fun h3 => ?_)
  · refine Gx.seq ?_
    refine Gx.region ?_
    refine Gx.val rfl rfl rfl (val_move rfl rfl) ?_
    refine Gx.val rfl rfl rfl (val_assign rfl rfl) ?_
    refine Gx.done ?_
    refine Gx.thenN ?_
    refine Gx.ret ?_
    refine Gx.thenR ?_
    refine Gx.ret1 Tryd.results12 rfl ?_
    exact congrArg Value.bool (by unfold sentP; rw [hlw, if_neg (by simp_all)])
  · refine Gx.skip ?_
    refine Gx.thenN ?_
    refine Gx.seq ?_
    refine Gx.regionQ Tryd.mixed (by kernel_rfl) ?_
    refine Gq.val rfl rfl rfl (Val.cast (val_fieldAddr rfl Tryd.underlying33 rfl Tryd.ty23 rfl rfl) (v' := ptr b1 1) rfl) ?_
    refine Gq.val rfl rfl rfl (val_load rfl Tryd.ty23 rfl rfl (cell_rec (k := 0) rfl rfl)) ?_
    refine Gq.val rfl rfl rfl (val_move rfl rfl) ?_
    refine Gq.val rfl rfl rfl (val_call (vs := [wv]) rfl Tryd.fn15 rfl (fun w H => code_any (hs.below H.below) h6 h4)) ?_
    refine Gq.val rfl rfl rfl (val_mul rfl rfl rfl (r := ((7 * (codeW way) : Nat) : Int)) (w64 (by omega) (by omega))) ?_
    refine Gq.val rfl rfl rfl (val_move rfl rfl) ?_
    refine Gq.val rfl rfl rfl (val_add rfl rfl rfl (r := ((7 * (codeW way) + to : Nat) : Int)) (w64 (by omega) (by omega))) ?_
    refine Gq.val rfl rfl rfl (val_rem rfl rfl rfl (r := (((7 * codeW way + to) % 64 : Nat) : Int)) (by decide) (rfl)) ?_
    refine Gq.val rfl rfl rfl (val_shr (b := (7 * codeW way + to) % 64) rfl rfl rfl rfl (by show (7 * codeW way + to) % 64 ≤ 64; omega) (shr32 _ _)) ?_
    refine Gq.val rfl rfl rfl (val_and rfl rfl rfl (and64 (Nat.lt_of_le_of_lt (Nat.shiftRight_le _ _) hli) (by decide : 1 < 18446744073709551616))) ?_
    refine Gq.val rfl rfl rfl (Val.cast (val_eql rfl rfl rfl) (v' := .bool (c.li.testBit ((7 * codeW way + to) % 64))) (bit_eq1 c.li ((7 * codeW way + to) % 64))) ?_
    refine Gq.val rfl rfl rfl (val_assign rfl rfl) ?_
    refine Gq.done ?_
    refine Gx.thenN ?_
    refine Gx.ret ?_
    refine Gx.ret1 Tryd.results12 rfl ?_
    exact congrArg Value.bool (by unfold sentP; rw [hlw, if_pos (by simp_all)])

theorem clone_any {W : World} {wv : Value} {way : List Nat} (hs : SlS FN 1 W wv way) (h0 : 0 < way.length) (h6 : way.length ≤ 6) :
    Calls Tryd.prog 14 #[wv] W (Ret W fun v l9 => IsS v ∧ l9 = [Hp.own FN 1 v way]) := by
  refine Gx.enter (l := []) Tryd.func14 rfl Tryd.ntmps14 rfl (Sat.start W) ?_
  refine Gx.know (m' := [(0, wv)]) (.cons rfl .nil) ?_
  refine Gx.seq ?_
  refine Gx.region ?_
  refine Gx.val rfl rfl rfl (val_assign rfl rfl) ?_
  refine Gx.done ?_
  refine Gx.thenN ?_
  refine Gx.seq ?_
  refine Gx.seq ?_
  refine Gx.region ?_
  refine Gx.val rfl rfl rfl (val_move rfl rfl) ?_
  refine Gx.val rfl rfl rfl (val_eqlSl rfl Tryd.underlying36 rfl rfl hs h0) ?_
  refine Gx.done ?_
  refine Gx.thenN ?_
  refine Gx.f rfl ?_
  refine Gx.skip ?_
  refine Gx.thenN ?_
  refine Gx.seq ?_
  refine Gx.region ?_
  refine Gx.eff rfl rfl rfl (eff_buildNil (f := FN) (sz := 1) (e := 3) rfl Tryd.underlying36 (fun w => by first | (go_simp; done) | (go_simp; rfl))) ?_
  rintro v1 _ ⟨hiv1, rfl⟩
  refine Gx.val rfl rfl rfl (val_move rfl rfl) ?_
  refine Gx.eff rfl rfl rfl (eff_pushAll (k := 0) (ys := way) rfl Tryd.eN FN_len FN_one rfl rfl (fun w H => hs.below H.below) rfl (by simp; omega) (by simp; omega)) ?_
  rintro v2 _ ⟨hiv2, rfl⟩
  refine Gx.norm (l' := [Hp.own FN 1 v2 way]) rfl ?_
  refine Gx.val rfl rfl rfl (val_assign rfl rfl) ?_
  refine Gx.done ?_
  refine Gx.thenN ?_
  refine Gx.ret ?_
  refine Gx.ret1 Tryd.results14 rfl ?_
  exact ⟨hiv2, rfl⟩

end Go.Proofs.YtcblkjjkpffjhaaDoor
