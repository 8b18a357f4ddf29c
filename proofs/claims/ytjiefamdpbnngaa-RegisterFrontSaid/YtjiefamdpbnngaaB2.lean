/- What is done later changes nothing of what is done. The walk. No condition. -/
import Derived.Test.YtjiefamdpbnngaaA7
import Derived.Test.YtjiefamdpbnngaaM1
namespace Go.Proofs.Ytjiefamdpbnngaa
open Go.RowKit
set_option linter.unusedVariables false
set_option linter.unusedSimpArgs false
set_option maxRecDepth 100000

theorem neq_same {c : Cx} {m : List (Nat × Value)} {l : List Hp} {o : Oper} {x y : Operand} {e e' : Oq} (h : e' = e) (ho : o.op = .binOp .neq 33 x y 33) (hx : evo m x = some (.agg #[.int .i64 ((e.who : Nat) : Int), .int .i64 0, .bool e.wr, .int .i64 e.val, .int .i64 ((e.frm : Nat) : Int), .int .i64 e.to]))
   (hy : evo m y = some (.agg #[.int .i64 ((e'.who : Nat) : Int), .int .i64 0, .bool e'.wr, .int .i64 e'.val, .int .i64 ((e'.frm : Nat) : Int), .int .i64 e'.to])) : Val Try.prog c m l o (.bool false) := Val.of fun a w s H => by
  subst h
  have h1 := s.ev hx
  have h2 := s.ev hy
  simp only [execOp, ho, h1, h2]
  go_simp
theorem ext_len {a b : List Oq} (h : Ext a b) : a.length ≤ b.length := by
  refine Nat.le_of_not_lt fun hc => ?_
  obtain ⟨o, ho⟩ := get_of_lt hc
  obtain ⟨o', ho', _⟩ := h _ o ho
  have := (List.getElem?_eq_some_iff.1 ho').1
  omega
theorem play_some {W : World} {n : Int} {sv : Value} {cs : List Cl} (hs : SlS FC 6 W sv cs) :
    Calls Try.prog 8 #[.int .i64 n, sv] W fun e w' => ∃ v, e = .returned v ∧ (∃ (a a' : Option Addr) (m c m' c' : Nat) (z : Int), v = .tuple #[.agg #[.slice a m c, .slice a' m' c'], .int .i64 z]) ∧ Below W.heap.size W w' := by
  by_cases h : n < 1 ∨ 5 < n ∨ 120 < (cs.length : Int)
  · exact (play_no hs h).mono fun e w' ⟨he, hb⟩ => ⟨_, he, ⟨_, _, _, _, _, _, _, rfl⟩, hb⟩
  · obtain ⟨m, rfl⟩ : ∃ m : Nat, n = (m : Int) := ⟨n.toNat, by omega⟩
    refine (play_ok (by omega) (by omega) hs (by omega)).mono fun e w' ⟨v, he, ⟨cv, pv, hv, h1, h2⟩, hb⟩ => ⟨v, he, ?_, hb⟩
    obtain ⟨_, _, _, rfl⟩ := h1.isS
    obtain ⟨_, _, _, rfl⟩ := h2.isS
    exact ⟨_, _, _, _, _, _, _, hv⟩
theorem codes_any {W : World} {va vb : Value} {xs ys : List Int} (ha : SlS FZ 1 W va xs) (hb : SlS FZ 1 W vb ys) : Calls Try.prog 9 #[va, vb] W fun e w' => e = .returned (.bool (decide (xs = ys))) ∧ Below W.heap.size W w' := by
  have m1 := sls_bd ha
  have m2 := sls_bd hb
  refine calls_pure (Gx.enter (l := []) Try.func9 rfl Try.ntmps9 rfl (Sat.start W) ?_)
  refine Gx.know (m' := [(0, va), (1, vb)]) (.cons rfl (.cons rfl .nil)) ?_
  refine Gx.seq ?_
  refine Gx.region ?_
  refine Gx.val rfl rfl rfl (val_assign rfl rfl) ?_
  refine Gx.done ?_
  refine Gx.thenN ?_
  refine Gx.seq ?_
  refine Gx.seq ?_
  refine Gx.region ?_
  refine Gx.val rfl rfl rfl (val_move rfl rfl) ?_
  refine Gx.val rfl rfl rfl (val_len rfl Try.underlying25 rfl (len_base ha)) ?_
  refine Gx.val rfl rfl rfl (val_move rfl rfl) ?_
  refine Gx.val rfl rfl rfl (val_len rfl Try.underlying25 rfl (len_base hb)) ?_
  refine Gx.val rfl rfl rfl (val_neq rfl rfl rfl) ?_
  refine Gx.done ?_
  refine Gx.thenN ?_
  refine Gx.dec rfl (fun h1 => ?_) (fun h1 => ?_)
  · refine Gx.seq ?_
    refine Gx.region ?_
    refine Gx.val rfl rfl rfl (val_assign rfl rfl) ?_
    refine Gx.done ?_
    refine Gx.thenN ?_
    refine Gx.ret ?_
    refine Gx.thenR ?_
    refine Gx.ret1 Try.results9 rfl ?_
    exact (congrArg Value.bool (decide_eq_false fun h => by subst h; omega)).symm
  · refine Gx.skip ?_
    refine Gx.thenN ?_
    refine Gx.seq ?_
    refine Gx.seq ?_
    refine Gx.region ?_
    refine Gx.val rfl rfl rfl (val_assign rfl rfl) ?_
    refine Gx.done ?_
    refine Gx.thenN ?_
    refine Gx.block ?_
    refine Gx.loop (ι := Nat) (fun ξ => (ξ ≤ xs.length) ∧ (∀ q, q < ξ → xs[q]? = ys[q]?)) (fun ξ => [(0, va), (1, vb), (5, .int .i64 ((ξ : Nat) : Int))]) (fun ξ => []) (fun ξ => xs.length - ξ) 0 ⟨by first | omega | (dsimp only; omega), by omega⟩ ((.cons rfl (.cons rfl (.cons rfl .nil)))) rfl ?_
    rintro k ⟨hk, he⟩
    refine Gx.know (m' := [(0, va), (1, vb), (5, .int .i64 ((k : Nat) : Int))]) (.cons rfl (.cons rfl (.cons rfl .nil))) (Gx.norm (l' := []) rfl ?_)
    refine Gx.seq ?_
    refine Gx.seq ?_
    refine Gx.region ?_
    refine Gx.val rfl rfl rfl (val_move rfl rfl) ?_
    refine Gx.val rfl rfl rfl (val_move rfl rfl) ?_
    refine Gx.val rfl rfl rfl (val_len rfl Try.underlying25 rfl (len_base ha)) ?_
    refine Gx.val rfl rfl rfl (val_lss rfl rfl rfl) ?_
    refine Gx.done ?_
    refine Gx.thenN ?_
    refine Gx.dec rfl (fun h2 => ?_) (fun h2 => ?_)
    · refine Gx.skip ?_
      refine Gx.thenN ?_
      refine Gx.seq ?_
      refine Gx.block ?_
      refine Gx.seq ?_
      refine Gx.regionQ Try.mixed (by kernel_rfl) ?_
      refine Gq.val rfl rfl rfl (val_move rfl rfl) ?_
      refine Gq.val rfl rfl rfl (val_move rfl rfl) ?_
      obtain ⟨x3, hx3⟩ := get_of_lt (xs := xs) (k := k) (by omega)
      refine Gq.val rfl rfl rfl (val_ixa rfl Try.underlying25 Try.ty29 rfl rfl (j := k) (rfl) (reach_base ha hx3)) ?_
      refine Gq.val rfl rfl rfl (val_load rfl Try.ty29 rfl rfl (cell_base (i := 0) ha hx3 rfl)) ?_
      refine Gq.val rfl rfl rfl (val_move rfl rfl) ?_
      refine Gq.val rfl rfl rfl (val_move rfl rfl) ?_
      obtain ⟨x4, hx4⟩ := get_of_lt (xs := ys) (k := k) (by omega)
      refine Gq.val rfl rfl rfl (val_ixa rfl Try.underlying25 Try.ty29 rfl rfl (j := k) (rfl) (reach_base hb hx4)) ?_
      refine Gq.val rfl rfl rfl (val_load rfl Try.ty29 rfl rfl (cell_base (i := 0) hb hx4 rfl)) ?_
      refine Gq.val rfl rfl rfl (val_neq rfl rfl rfl) ?_
      refine Gq.done ?_
      refine Gx.thenN ?_
      refine Gx.dec rfl (fun h5 => ?_) (fun h5 => ?_)
      · refine Gx.seq ?_
        refine Gx.region ?_
        refine Gx.val rfl rfl rfl (val_assign rfl rfl) ?_
        refine Gx.done ?_
        refine Gx.thenN ?_
        refine Gx.ret ?_
        refine Gx.blkR ?_
        refine Gx.thenR ?_
        refine Gx.thenR ?_
        refine Gx.blkR ?_
        refine Gx.thenR ?_
        refine Gx.ret1 Try.results9 rfl ?_
        exact (congrArg Value.bool (decide_eq_false fun h => by subst h; have q := hx3.symm.trans hx4; cases q; omega)).symm
      · refine Gx.skip ?_
        refine Gx.blkN ?_
        refine Gx.thenN ?_
        refine Gx.region ?_
        refine Gx.val rfl rfl rfl (val_move rfl rfl) ?_
        refine Gx.val rfl rfl rfl (val_add rfl rfl rfl (r := ((k + 1 : Nat) : Int)) (w64 (by omega) (by omega))) ?_
        refine Gx.val rfl rfl rfl (val_assign rfl rfl) ?_
        refine Gx.done ?_
        refine Gx.thenN ?_
        exact Gx.round (k + 1) ⟨by first | omega | (dsimp only; omega), fun q hq => by rcases Nat.lt_or_eq_of_le (Nat.le_of_lt_succ hq) with h | rfl; (exact he q h); (rw [hx3, hx4]; exact congrArg some (by omega))⟩ (by first | omega | (dsimp only; omega)) ((.cons rfl (.cons rfl (.cons rfl .nil)))) rfl
    · refine Gx.exit ?_
      refine Gx.thenE ?_
      refine Gx.thenE ?_
      refine Gx.blkE ?_
      refine Gx.thenN ?_
      refine Gx.seq ?_
      refine Gx.region ?_
      refine Gx.val rfl rfl rfl (val_assign rfl rfl) ?_
      refine Gx.done ?_
      refine Gx.thenN ?_
      refine Gx.ret ?_
      refine Gx.ret1 Try.results9 rfl ?_
      exact (congrArg Value.bool (decide_eq_true (List.ext_getElem? fun q => by rcases Nat.lt_or_ge q k with h | h; (exact he q h); (rw [List.getElem?_eq_none (by omega), List.getElem?_eq_none (by omega)])))).symm

theorem front_no {W : World} {n : Int} {k : Nat} {sv : Value} {cs : List Cl} (hs : SlS FC 6 W sv cs) (hbad : n < 1 ∨ 5 < n ∨ 120 < (cs.length : Int)) (hk : k ≤ 255) :
    Calls Try.prog 5 #[.int .i64 n, sv, .int .u8 ((k : Nat) : Int)] W fun e w' => e = .returned (.bool true) ∧ Below W.heap.size W w' := by
  have hk9 := hk
  have hkm := Nat.mod_lt k (show 0 < cs.length + 1 by omega)
  have hm := sls_bd hs
  refine calls_pure (Gx.enter (l := []) Try.func5 rfl Try.ntmps5 rfl (Sat.start W) ?_)
  refine Gx.know (m' := [(0, .int .i64 n), (1, sv), (2, .int .u8 ((k : Nat) : Int))]) (.cons rfl (.cons rfl (.cons rfl .nil))) ?_
  refine Gx.seq ?_
  refine Gx.region ?_
  refine Gx.val rfl rfl rfl (val_assign rfl rfl) ?_
  refine Gx.done ?_
  refine Gx.thenN ?_
  refine Gx.seq ?_
  refine Gx.region ?_
  refine Gx.val rfl rfl rfl (val_move rfl rfl) ?_
  refine Gx.val rfl rfl rfl (val_move rfl rfl) ?_
  refine Gx.val rfl rfl rfl (val_call (vs := [.int .i64 n, sv]) rfl Try.fn8 rfl (fun w H => play_no (hs.below H.below) (by omega))) ?_
  refine Gx.val rfl rfl rfl (val_move rfl rfl) ?_
  refine Gx.val rfl rfl rfl (val_extract rfl rfl rfl) ?_
  refine Gx.val rfl rfl rfl (val_extract rfl rfl rfl) ?_
  refine Gx.eff rfl rfl rfl (eff_alloc rfl Try.ty28 (vs := [.slice none 0 0, .slice none 0 0]) rfl) ?_
  rintro _ _ ⟨b1, rfl, rfl⟩
  refine Gx.eff0 rfl rfl (eff_store rfl Try.ty28 rfl rfl (us := [.slice none 0 0, .slice none 0 0]) rfl rfl rfl (k := 0) rfl (rfl) (vs' := [.slice none 0 0, .slice none 0 0]) (rfl) (l' := [Hp.rec_ b1 [.slice none 0 0, .slice none 0 0]]) rfl) ?_
  rintro _ _ rfl
  refine Gx.val rfl rfl rfl (val_assign rfl rfl) ?_
  refine Gx.done ?_
  refine Gx.thenN ?_
  refine Gx.seq ?_
  refine Gx.region ?_
  refine Gx.val rfl rfl rfl (val_move rfl rfl) ?_
  refine Gx.val rfl rfl rfl (val_conv rfl Try.underlying5 Try.underlying3 rfl (r := ((k : Nat) : Int)) (w64 rfl (by omega))) ?_
  refine Gx.val rfl rfl rfl (val_move rfl rfl) ?_
  refine Gx.val rfl rfl rfl (val_len rfl Try.underlying22 rfl (len_base hs)) ?_
  refine Gx.val rfl rfl rfl (val_add rfl rfl rfl (r := ((cs.length + 1 : Nat) : Int)) (w64 (by omega) (by omega))) ?_
  refine Gx.val rfl rfl rfl (val_rem rfl rfl rfl (r := ((k % (cs.length + 1) : Nat) : Int)) (by omega) (rfl)) ?_
  refine Gx.val rfl rfl rfl (val_assign rfl rfl) ?_
  refine Gx.done ?_
  refine Gx.thenN ?_
  refine Gx.seq ?_
  refine Gx.region ?_
  refine Gx.val rfl rfl rfl (val_move rfl rfl) ?_
  refine Gx.val rfl rfl rfl (val_move rfl rfl) ?_
  refine Gx.val rfl rfl rfl (val_move rfl rfl) ?_
  have hcut2 : SlS FC 6 W (sCut 6 0 (k % (cs.length + 1)) sv) (cs.take (k % (cs.length + 1))) := (hs).cut (lo := 0) (hi := k % (cs.length + 1)) (by omega) (by omega)
  refine Gx.val rfl rfl rfl (val_cutTo (up := k % (cs.length + 1)) rfl Try.underlying22 Try.ty24 rfl hs rfl (rfl) (by omega)) ?_
  refine Gx.eff rfl rfl rfl (eff_callE (vs := [.int .i64 n, sCut 6 0 (k % (cs.length + 1)) sv]) rfl Try.fn8 rfl (R := fun v => ∃ (a a' : Option Addr) (m c m' c' : Nat) (z : Int), v = .tuple #[.agg #[.slice a m c, .slice a' m' c'], .int .i64 z]) (fun w H => play_some (hcut2.below H.below))) ?_
  rintro _ _ ⟨⟨a4, b5, p6, q7, r8, s9, z3, rfl⟩, rfl⟩
  refine Gx.val rfl rfl rfl (val_move rfl rfl) ?_
  refine Gx.val rfl rfl rfl (val_extract rfl rfl rfl) ?_
  refine Gx.val rfl rfl rfl (val_extract rfl rfl rfl) ?_
  refine Gx.eff rfl rfl rfl (eff_alloc rfl Try.ty28 (vs := [.slice none 0 0, .slice none 0 0]) rfl) ?_
  rintro _ _ ⟨b10, rfl, rfl⟩
  refine Gx.eff0 rfl rfl (eff_store rfl Try.ty28 rfl rfl (us := [.slice a4 p6 q7, .slice b5 r8 s9]) rfl rfl rfl (k := 0) rfl (rfl) (vs' := [.slice a4 p6 q7, .slice b5 r8 s9]) (rfl) (l' := [Hp.rec_ b10 [.slice a4 p6 q7, .slice b5 r8 s9], Hp.rec_ b1 [.slice none 0 0, .slice none 0 0]]) rfl) ?_
  rintro _ _ rfl
  refine Gx.val rfl rfl rfl (val_assign rfl rfl) ?_
  refine Gx.done ?_
  refine Gx.thenN ?_
  refine Gx.seq ?_
  refine Gx.seq ?_
  refine Gx.region ?_
  refine Gx.val rfl rfl rfl (val_move rfl rfl) ?_
  refine Gx.val rfl rfl rfl (Val.cast (val_neq rfl rfl rfl) (v' := .bool true) rfl) ?_
  refine Gx.done ?_
  refine Gx.thenN ?_
  refine Gx.t rfl ?_
  refine Gx.seq ?_
  refine Gx.region ?_
  refine Gx.val rfl rfl rfl (val_assign rfl rfl) ?_
  refine Gx.done ?_
  refine Gx.thenN ?_
  refine Gx.ret ?_
  refine Gx.thenR ?_
  refine Gx.ret1 Try.results5 rfl ?_
  rfl

theorem front_yes {W : World} {n k : Nat} {sv : Value} {cs : List Cl} (h1n : 1 ≤ n) (h5n : n ≤ 5) (hcl : cs.length ≤ 120) (hk : k ≤ 255) (hs : SlS FC 6 W sv cs) :
    Calls Try.prog 5 #[.int .i64 ((n : Nat) : Int), sv, .int .u8 ((k : Nat) : Int)] W fun e w' => e = .returned (.bool true) ∧ Below W.heap.size W w' := by
  have hk9 := hk
  have hkm := Nat.mod_lt k (show 0 < cs.length + 1 by omega)
  have hm := sls_bd hs
  have hext := front h1n cs (k % (cs.length + 1))
  have hlen := ext_len hext
  have hcn := ((InvR.zero n).run h1n cs).cnt
  refine calls_pure (Gx.enter (l := []) Try.func5 rfl Try.ntmps5 rfl (Sat.start W) ?_)
  refine Gx.know (m' := [(0, .int .i64 ((n : Nat) : Int)), (1, sv), (2, .int .u8 ((k : Nat) : Int))]) (.cons rfl (.cons rfl (.cons rfl .nil))) ?_
  refine Gx.seq ?_
  refine Gx.region ?_
  refine Gx.val rfl rfl rfl (val_assign rfl rfl) ?_
  refine Gx.done ?_
  refine Gx.thenN ?_
  refine Gx.seq ?_
  refine Gx.region ?_
  refine Gx.val rfl rfl rfl (val_move rfl rfl) ?_
  refine Gx.val rfl rfl rfl (val_move rfl rfl) ?_
  refine Gx.callB rfl rfl rfl (vs := [.int .i64 ((n : Nat) : Int), sv]) rfl Try.fn8 rfl (R := fun v w' => ∃ cv pv, v = .tuple #[.agg #[cv, pv], .int .i64 0] ∧ SlS FZ 1 w' cv (codesR (rs0 n) 0 cs) ∧ SlS FO 6 w' pv (stR (rs0 n) 0 cs).ops) (fun w H => play_ok h1n h5n (hs.below H.below) (by omega)) ?_
  rintro _ W3 ⟨cv1, pv2, rfl, hcv1, hpv2⟩ H4
  have hW5 := H4.below
  have hs6 := hs.below H4.below
  have hclcv1 : (codesR (rs0 n) 0 cs).length = (cs).length := codesR_len ..
  obtain ⟨a7, m8, c9, rfl⟩ := hcv1.isS
  obtain ⟨a10, m11, c12, rfl⟩ := hpv2.isS
  refine Gx.val rfl rfl rfl (val_move rfl rfl) ?_
  refine Gx.val rfl rfl rfl (val_extract rfl rfl rfl) ?_
  refine Gx.val rfl rfl rfl (val_extract rfl rfl rfl) ?_
  refine Gx.eff rfl rfl rfl (eff_alloc rfl Try.ty28 (vs := [.slice none 0 0, .slice none 0 0]) rfl) ?_
  rintro _ _ ⟨b13, rfl, rfl⟩
  refine Gx.eff0 rfl rfl (eff_store rfl Try.ty28 rfl rfl (us := [.slice a7 m8 c9, .slice a10 m11 c12]) rfl rfl rfl (k := 0) rfl (rfl) (vs' := [.slice a7 m8 c9, .slice a10 m11 c12]) (rfl) (l' := [Hp.rec_ b13 [.slice a7 m8 c9, .slice a10 m11 c12]]) rfl) ?_
  rintro _ _ rfl
  refine Gx.val rfl rfl rfl (val_assign rfl rfl) ?_
  refine Gx.done ?_
  refine Gx.thenN ?_
  refine Gx.seq ?_
  refine Gx.region ?_
  refine Gx.val rfl rfl rfl (val_move rfl rfl) ?_
  refine Gx.val rfl rfl rfl (val_conv rfl Try.underlying5 Try.underlying3 rfl (r := ((k : Nat) : Int)) (w64 rfl (by omega))) ?_
  refine Gx.val rfl rfl rfl (val_move rfl rfl) ?_
  refine Gx.val rfl rfl rfl (val_len rfl Try.underlying22 rfl (len_base hs6)) ?_
  refine Gx.val rfl rfl rfl (val_add rfl rfl rfl (r := ((cs.length + 1 : Nat) : Int)) (w64 (by omega) (by omega))) ?_
  refine Gx.val rfl rfl rfl (val_rem rfl rfl rfl (r := ((k % (cs.length + 1) : Nat) : Int)) (by omega) (rfl)) ?_
  refine Gx.val rfl rfl rfl (val_assign rfl rfl) ?_
  refine Gx.done ?_
  refine Gx.thenN ?_
  refine Gx.seq ?_
  refine Gx.region ?_
  refine Gx.val rfl rfl rfl (val_move rfl rfl) ?_
  refine Gx.val rfl rfl rfl (val_move rfl rfl) ?_
  refine Gx.val rfl rfl rfl (val_move rfl rfl) ?_
  have hcut14 : SlS FC 6 W3 (sCut 6 0 (k % (cs.length + 1)) sv) (cs.take (k % (cs.length + 1))) := (hs6).cut (lo := 0) (hi := k % (cs.length + 1)) (by omega) (by omega)
  refine Gx.val rfl rfl rfl (val_cutTo (up := k % (cs.length + 1)) rfl Try.underlying22 Try.ty24 rfl hs6 rfl (rfl) (by omega)) ?_
  refine Gx.callB rfl rfl rfl (vs := [.int .i64 ((n : Nat) : Int), sCut 6 0 (k % (cs.length + 1)) sv]) rfl Try.fn8 rfl (R := fun v w' => ∃ cv pv, v = .tuple #[.agg #[cv, pv], .int .i64 0] ∧ SlS FZ 1 w' cv (codesR (rs0 n) 0 (cs.take (k % (cs.length + 1)))) ∧ SlS FO 6 w' pv (stR (rs0 n) 0 (cs.take (k % (cs.length + 1)))).ops) (fun w H => play_ok h1n h5n (hcut14.below H.below) (by rw [List.length_take]; omega)) ?_
  rintro _ W17 ⟨cv15, pv16, rfl, hcv15, hpv16⟩ H18
  have hW19 := hW5.trans (H18.below.mono hW5.size)
  have hs20 := hs6.below H18.below
  have hs21 := hcv1.below H18.below
  have hs22 := hpv2.below H18.below
  have hs23 := hcut14.below H18.below
  have hb24 := (H18.at_ (k := 0) rfl).rec_.1
  have hc25 := (H18.at_ (k := 0) rfl).cell 0 (u := .slice a7 m8 c9) rfl
  have hc26 := (H18.at_ (k := 0) rfl).cell 1 (u := .slice a10 m11 c12) rfl
  have hclcv15 : (codesR (rs0 n) 0 (cs.take (k % (cs.length + 1)))).length = ((cs.take (k % (cs.length + 1)))).length := codesR_len ..
  obtain ⟨a27, m28, c29, rfl⟩ := hcv15.isS
  obtain ⟨a30, m31, c32, rfl⟩ := hpv16.isS
  refine Gx.val rfl rfl rfl (val_move rfl rfl) ?_
  refine Gx.val rfl rfl rfl (val_extract rfl rfl rfl) ?_
  refine Gx.val rfl rfl rfl (val_extract rfl rfl rfl) ?_
  refine Gx.eff rfl rfl rfl (eff_alloc rfl Try.ty28 (vs := [.slice none 0 0, .slice none 0 0]) rfl) ?_
  rintro _ _ ⟨b33, rfl, rfl⟩
  refine Gx.eff0 rfl rfl (eff_store rfl Try.ty28 rfl rfl (us := [.slice a27 m28 c29, .slice a30 m31 c32]) rfl rfl rfl (k := 0) rfl (rfl) (vs' := [.slice a27 m28 c29, .slice a30 m31 c32]) (rfl) (l' := [Hp.rec_ b33 [.slice a27 m28 c29, .slice a30 m31 c32]]) rfl) ?_
  rintro _ _ rfl
  refine Gx.val rfl rfl rfl (val_assign rfl rfl) ?_
  refine Gx.done ?_
  refine Gx.thenN ?_
  refine Gx.seq ?_
  refine Gx.seq ?_
  refine Gx.region ?_
  refine Gx.val rfl rfl rfl (val_move rfl rfl) ?_
  refine Gx.val rfl rfl rfl (Val.cast (val_neq rfl rfl rfl) (v' := .bool false) rfl) ?_
  refine Gx.done ?_
  refine Gx.thenN ?_
  refine Gx.f rfl ?_
  refine Gx.skip ?_
  refine Gx.thenN ?_
  refine Gx.seq ?_
  refine Gx.seq ?_
  refine Gx.regionQ Try.mixed (by kernel_rfl) ?_
  refine Gq.val rfl rfl rfl (val_move rfl rfl) ?_
  refine Gq.val rfl rfl rfl (Val.cast (val_neq rfl rfl rfl) (v' := .bool false) rfl) ?_
  refine Gq.val rfl rfl rfl (val_move rfl rfl) ?_
  refine Gq.valg rfl rfl rfl rfl rfl (Val.cast (val_fieldAddr rfl Try.underlying28 rfl Try.ty25 rfl rfl) (v' := ptr b13 0) rfl) ?_
  refine Gq.valg rfl rfl rfl rfl rfl (val_load rfl Try.ty25 rfl rfl (cell_old hb24 hc25)) ?_
  refine Gq.valg rfl rfl rfl rfl rfl (val_len rfl Try.underlying25 rfl (len_base hs21)) ?_
  refine Gq.valg rfl rfl rfl rfl rfl (val_move rfl rfl) ?_
  refine Gq.valg rfl rfl rfl rfl rfl (val_len rfl Try.underlying22 rfl (len_base hs20)) ?_
  refine Gq.valg rfl rfl rfl rfl rfl (val_neq rfl rfl rfl) ?_
  refine Gq.val rfl rfl rfl (val_pickF rfl rfl rfl) ?_
  refine Gq.val rfl rfl rfl (val_move rfl rfl) ?_
  refine Gq.slot (t := 45) (v := .bool false) (look_decF rfl (by omega)) ?_
  refine Gq.valg rfl rfl rfl rfl rfl (Val.cast (val_fieldAddr rfl Try.underlying28 rfl Try.ty25 rfl rfl) (v' := ptr b33 0) rfl) ?_
  refine Gq.valg rfl rfl rfl rfl rfl (val_load rfl Try.ty25 rfl rfl (cell_rec (k := 0) rfl rfl)) ?_
  refine Gq.valg rfl rfl rfl rfl rfl (Val.cast (val_fieldAddr rfl Try.underlying28 rfl Try.ty25 rfl rfl) (v' := ptr b13 0) rfl) ?_
  refine Gq.valg rfl rfl rfl rfl rfl (val_load rfl Try.ty25 rfl rfl (cell_old hb24 hc25)) ?_
  refine Gq.valg rfl rfl rfl rfl rfl (val_move rfl rfl) ?_
  have hcut34 : SlS FZ 1 W17 (sCut 1 0 (k % (cs.length + 1)) (.slice a7 m8 c9)) ((codesR (rs0 n) 0 cs).take (k % (cs.length + 1))) := (hs21).cut (lo := 0) (hi := k % (cs.length + 1)) (by omega) (by omega)
  refine Gq.valg rfl rfl rfl rfl rfl (val_cutTo (up := k % (cs.length + 1)) rfl Try.underlying25 Try.ty29 rfl hs21 rfl (rfl) (by omega)) ?_
  refine Gq.valg rfl rfl rfl rfl rfl (val_call (vs := [.slice a27 m28 c29, sCut 1 0 (k % (cs.length + 1)) (.slice a7 m8 c9)]) rfl Try.fn9 rfl (fun w H => codes_any (hcv15.below H.below) (hcut34.below H.below))) ?_
  refine Gq.valg rfl rfl rfl rfl rfl (val_notD rfl rfl) ?_
  refine Gq.val rfl rfl rfl (val_pickF rfl rfl rfl) ?_
  refine Gq.val rfl rfl rfl (val_move rfl rfl) ?_
  refine Gq.slot (t := 55) (v := .bool false) (look_decF rfl (fun q => q (front_codes cs _))) ?_
  refine Gq.valg rfl rfl rfl rfl rfl (Val.cast (val_fieldAddr rfl Try.underlying28 rfl Try.ty26 rfl rfl) (v' := ptr b33 1) rfl) ?_
  refine Gq.valg rfl rfl rfl rfl rfl (val_load rfl Try.ty26 rfl rfl (cell_rec (k := 0) rfl rfl)) ?_
  refine Gq.valg rfl rfl rfl rfl rfl (val_len rfl Try.underlying26 rfl (len_base hpv16)) ?_
  refine Gq.valg rfl rfl rfl rfl rfl (Val.cast (val_fieldAddr rfl Try.underlying28 rfl Try.ty26 rfl rfl) (v' := ptr b13 1) rfl) ?_
  refine Gq.valg rfl rfl rfl rfl rfl (val_load rfl Try.ty26 rfl rfl (cell_old hb24 hc26)) ?_
  refine Gq.valg rfl rfl rfl rfl rfl (val_len rfl Try.underlying26 rfl (len_base hs22)) ?_
  refine Gq.valg rfl rfl rfl rfl rfl (val_gtr rfl rfl rfl) ?_
  refine Gq.val rfl rfl rfl (val_pickF rfl rfl rfl) ?_
  refine Gq.done ?_
  refine Gx.thenN ?_
  refine Gx.decF rfl (by omega) ?_
  refine Gx.skip ?_
  refine Gx.thenN ?_
  refine Gx.seq ?_
  refine Gx.seq ?_
  refine Gx.region ?_
  refine Gx.val rfl rfl rfl (val_assign rfl rfl) ?_
  refine Gx.done ?_
  refine Gx.thenN ?_
  refine Gx.block ?_
  refine Gx.loop (ι := Nat) (fun ξ => (ξ ≤ (stR (rs0 n) 0 (cs.take (k % (cs.length + 1)))).ops.length)) (fun ξ => [(7, ptr b13 0), (10, ptr b33 0), (12, .int .i64 ((ξ : Nat) : Int))]) (fun ξ => [Hp.rec_ b33 [.slice a27 m28 c29, .slice a30 m31 c32]]) (fun ξ => (stR (rs0 n) 0 (cs.take (k % (cs.length + 1)))).ops.length - ξ) 0 (by first | omega | (dsimp only; omega)) ((.cons rfl (.cons rfl (.cons rfl .nil)))) rfl ?_
  rintro i hi
  refine Gx.know (m' := [(7, ptr b13 0), (10, ptr b33 0), (12, .int .i64 ((i : Nat) : Int))]) (.cons rfl (.cons rfl (.cons rfl .nil))) (Gx.norm (l' := [Hp.rec_ b33 [.slice a27 m28 c29, .slice a30 m31 c32]]) rfl ?_)
  refine Gx.seq ?_
  refine Gx.seq ?_
  refine Gx.region ?_
  refine Gx.val rfl rfl rfl (val_move rfl rfl) ?_
  refine Gx.val rfl rfl rfl (Val.cast (val_fieldAddr rfl Try.underlying28 rfl Try.ty26 rfl rfl) (v' := ptr b33 1) rfl) ?_
  refine Gx.val rfl rfl rfl (val_load rfl Try.ty26 rfl rfl (cell_rec (k := 0) rfl rfl)) ?_
  refine Gx.val rfl rfl rfl (val_len rfl Try.underlying26 rfl (len_base hpv16)) ?_
  refine Gx.val rfl rfl rfl (val_lss rfl rfl rfl) ?_
  refine Gx.done ?_
  refine Gx.thenN ?_
  refine Gx.dec rfl (fun h35 => ?_) (fun h35 => ?_)
  · refine Gx.skip ?_
    refine Gx.thenN ?_
    refine Gx.seq ?_
    refine Gx.block ?_
    refine Gx.seq ?_
    obtain ⟨x, hx⟩ := get_of_lt (xs := (stR (rs0 n) 0 (cs.take (k % (cs.length + 1)))).ops) (k := i) (by omega)
    obtain ⟨y, hy, y1, y2, y3, y4, y5⟩ := hext i x hx
    refine Gx.regionQ Try.mixed (by kernel_rfl) ?_
    refine Gq.val rfl rfl rfl (Val.cast (val_fieldAddr rfl Try.underlying28 rfl Try.ty26 rfl rfl) (v' := ptr b33 1) rfl) ?_
    refine Gq.val rfl rfl rfl (val_load rfl Try.ty26 rfl rfl (cell_rec (k := 0) rfl rfl)) ?_
    refine Gq.val rfl rfl rfl (val_move rfl rfl) ?_
    refine Gq.val rfl rfl rfl (val_ixa rfl Try.underlying26 Try.ty33 rfl rfl (j := i) (rfl) (reach_base hpv16 hx)) ?_
    refine Gq.val rfl rfl rfl (Val.cast (val_fieldAddr rfl Try.underlying33 rfl Try.ty3 rfl rfl) (v' := ptr (sB (.slice a30 m31 c32)) (sO (.slice a30 m31 c32) + i * 6 + 5)) rfl) ?_
    refine Gq.val rfl rfl rfl (val_load rfl Try.ty3 rfl rfl (cell_base (i := 5) hpv16 hx rfl)) ?_
    refine Gq.val rfl rfl rfl (val_geq rfl rfl rfl) ?_
    refine Gq.val rfl rfl rfl (val_move rfl rfl) ?_
    refine Gq.cases (t := 78) rfl (fun h36 => ?_) (fun h36 => ?_)
    · refine Gq.valg rfl rfl rfl rfl rfl (Val.cast (val_fieldAddr rfl Try.underlying28 rfl Try.ty26 rfl rfl) (v' := ptr b33 1) rfl) ?_
      refine Gq.valg rfl rfl rfl rfl rfl (val_load rfl Try.ty26 rfl rfl (cell_rec (k := 0) rfl rfl)) ?_
      refine Gq.valg rfl rfl rfl rfl rfl (val_move rfl rfl) ?_
      refine Gq.valg rfl rfl rfl rfl rfl (val_ixa rfl Try.underlying26 Try.ty33 rfl rfl (j := i) (rfl) (reach_base hpv16 hx)) ?_
      refine Gq.valg rfl rfl rfl rfl rfl (Val.cast (val_loadA rfl Try.ty33 rfl rfl rfl (cells_base hpv16 hx)) (v' := .agg #[.int .i64 ((x.who : Nat) : Int), .int .i64 0, .bool x.wr, .int .i64 x.val, .int .i64 ((x.frm : Nat) : Int), .int .i64 x.to]) rfl) ?_
      refine Gq.valg rfl rfl rfl rfl rfl (Val.cast (val_fieldAddr rfl Try.underlying28 rfl Try.ty26 rfl rfl) (v' := ptr b13 1) rfl) ?_
      refine Gq.valg rfl rfl rfl rfl rfl (val_load rfl Try.ty26 rfl rfl (cell_old hb24 hc26)) ?_
      refine Gq.valg rfl rfl rfl rfl rfl (val_move rfl rfl) ?_
      refine Gq.valg rfl rfl rfl rfl rfl (val_ixa rfl Try.underlying26 Try.ty33 rfl rfl (j := i) (rfl) (reach_base hs22 hy)) ?_
      refine Gq.valg rfl rfl rfl rfl rfl (Val.cast (val_loadA rfl Try.ty33 rfl rfl rfl (cells_base hs22 hy)) (v' := .agg #[.int .i64 ((y.who : Nat) : Int), .int .i64 0, .bool y.wr, .int .i64 y.val, .int .i64 ((y.frm : Nat) : Int), .int .i64 y.to]) rfl) ?_
      refine Gq.valg rfl rfl rfl rfl rfl (neq_same (y5 h36) rfl rfl rfl) ?_
      refine Gq.val rfl rfl rfl (val_pickT rfl rfl rfl) ?_
      refine Gq.val rfl rfl rfl (val_move rfl rfl) ?_
      refine Gq.valg rfl rfl rfl rfl rfl (Val.cast (val_fieldAddr rfl Try.underlying28 rfl Try.ty26 rfl rfl) (v' := ptr b33 1) rfl) ?_
      refine Gq.valg rfl rfl rfl rfl rfl (val_load rfl Try.ty26 rfl rfl (cell_rec (k := 0) rfl rfl)) ?_
      refine Gq.valg rfl rfl rfl rfl rfl (val_move rfl rfl) ?_
      refine Gq.valg rfl rfl rfl rfl rfl (val_ixa rfl Try.underlying26 Try.ty33 rfl rfl (j := i) (rfl) (reach_base hpv16 hx)) ?_
      refine Gq.valg rfl rfl rfl rfl rfl (Val.cast (val_fieldAddr rfl Try.underlying33 rfl Try.ty3 rfl rfl) (v' := ptr (sB (.slice a30 m31 c32)) (sO (.slice a30 m31 c32) + i * 6 + 4)) rfl) ?_
      refine Gq.valg rfl rfl rfl rfl rfl (val_load rfl Try.ty3 rfl rfl (cell_base (i := 4) hpv16 hx rfl)) ?_
      refine Gq.valg rfl rfl rfl rfl rfl (Val.cast (val_fieldAddr rfl Try.underlying28 rfl Try.ty26 rfl rfl) (v' := ptr b13 1) rfl) ?_
      refine Gq.valg rfl rfl rfl rfl rfl (val_load rfl Try.ty26 rfl rfl (cell_old hb24 hc26)) ?_
      refine Gq.valg rfl rfl rfl rfl rfl (val_move rfl rfl) ?_
      refine Gq.valg rfl rfl rfl rfl rfl (val_ixa rfl Try.underlying26 Try.ty33 rfl rfl (j := i) (rfl) (reach_base hs22 hy)) ?_
      refine Gq.valg rfl rfl rfl rfl rfl (Val.cast (val_fieldAddr rfl Try.underlying33 rfl Try.ty3 rfl rfl) (v' := ptr (sB (.slice a10 m11 c12)) (sO (.slice a10 m11 c12) + i * 6 + 4)) rfl) ?_
      refine Gq.valg rfl rfl rfl rfl rfl (val_load rfl Try.ty3 rfl rfl (cell_base (i := 4) hs22 hy rfl)) ?_
      refine Gq.valg rfl rfl rfl rfl rfl (val_neq rfl rfl rfl) ?_
      refine Gq.val rfl rfl rfl (val_pickF rfl rfl rfl) ?_
      refine Gq.val rfl rfl rfl (val_move rfl rfl) ?_
      refine Gq.slot (t := 106) (v := .bool false) (look_decF rfl (by omega)) ?_
      refine Gq.valg rfl rfl rfl rfl rfl (Val.cast (val_fieldAddr rfl Try.underlying28 rfl Try.ty26 rfl rfl) (v' := ptr b33 1) rfl) ?_
      refine Gq.valg rfl rfl rfl rfl rfl (val_load rfl Try.ty26 rfl rfl (cell_rec (k := 0) rfl rfl)) ?_
      refine Gq.valg rfl rfl rfl rfl rfl (val_move rfl rfl) ?_
      refine Gq.valg rfl rfl rfl rfl rfl (val_ixa rfl Try.underlying26 Try.ty33 rfl rfl (j := i) (rfl) (reach_base hpv16 hx)) ?_
      refine Gq.valg rfl rfl rfl rfl rfl (Val.cast (val_fieldAddr rfl Try.underlying33 rfl Try.ty3 rfl rfl) (v' := ptr (sB (.slice a30 m31 c32)) (sO (.slice a30 m31 c32) + i * 6)) rfl) ?_
      refine Gq.valg rfl rfl rfl rfl rfl (val_load rfl Try.ty3 rfl rfl (cell_base (i := 0) hpv16 hx rfl)) ?_
      refine Gq.valg rfl rfl rfl rfl rfl (Val.cast (val_fieldAddr rfl Try.underlying28 rfl Try.ty26 rfl rfl) (v' := ptr b13 1) rfl) ?_
      refine Gq.valg rfl rfl rfl rfl rfl (val_load rfl Try.ty26 rfl rfl (cell_old hb24 hc26)) ?_
      refine Gq.valg rfl rfl rfl rfl rfl (val_move rfl rfl) ?_
      refine Gq.valg rfl rfl rfl rfl rfl (val_ixa rfl Try.underlying26 Try.ty33 rfl rfl (j := i) (rfl) (reach_base hs22 hy)) ?_
      refine Gq.valg rfl rfl rfl rfl rfl (Val.cast (val_fieldAddr rfl Try.underlying33 rfl Try.ty3 rfl rfl) (v' := ptr (sB (.slice a10 m11 c12)) (sO (.slice a10 m11 c12) + i * 6)) rfl) ?_
      refine Gq.valg rfl rfl rfl rfl rfl (val_load rfl Try.ty3 rfl rfl (cell_base (i := 0) hs22 hy rfl)) ?_
      refine Gq.valg rfl rfl rfl rfl rfl (val_neq rfl rfl rfl) ?_
      refine Gq.val rfl rfl rfl (val_pickF rfl rfl rfl) ?_
      refine Gq.val rfl rfl rfl (val_move rfl rfl) ?_
      refine Gq.slot (t := 121) (v := .bool false) (look_decF rfl (by omega)) ?_
      refine Gq.valg rfl rfl rfl rfl rfl (Val.cast (val_fieldAddr rfl Try.underlying28 rfl Try.ty26 rfl rfl) (v' := ptr b33 1) rfl) ?_
      refine Gq.valg rfl rfl rfl rfl rfl (val_load rfl Try.ty26 rfl rfl (cell_rec (k := 0) rfl rfl)) ?_
      refine Gq.valg rfl rfl rfl rfl rfl (val_move rfl rfl) ?_
      refine Gq.valg rfl rfl rfl rfl rfl (val_ixa rfl Try.underlying26 Try.ty33 rfl rfl (j := i) (rfl) (reach_base hpv16 hx)) ?_
      refine Gq.valg rfl rfl rfl rfl rfl (Val.cast (val_fieldAddr rfl Try.underlying33 rfl Try.ty4 rfl rfl) (v' := ptr (sB (.slice a30 m31 c32)) (sO (.slice a30 m31 c32) + i * 6 + 2)) rfl) ?_
      refine Gq.valg rfl rfl rfl rfl rfl (val_load rfl Try.ty4 rfl rfl (cell_base (i := 2) hpv16 hx rfl)) ?_
      refine Gq.valg rfl rfl rfl rfl rfl (Val.cast (val_fieldAddr rfl Try.underlying28 rfl Try.ty26 rfl rfl) (v' := ptr b13 1) rfl) ?_
      refine Gq.valg rfl rfl rfl rfl rfl (val_load rfl Try.ty26 rfl rfl (cell_old hb24 hc26)) ?_
      refine Gq.valg rfl rfl rfl rfl rfl (val_move rfl rfl) ?_
      refine Gq.valg rfl rfl rfl rfl rfl (val_ixa rfl Try.underlying26 Try.ty33 rfl rfl (j := i) (rfl) (reach_base hs22 hy)) ?_
      refine Gq.valg rfl rfl rfl rfl rfl (Val.cast (val_fieldAddr rfl Try.underlying33 rfl Try.ty4 rfl rfl) (v' := ptr (sB (.slice a10 m11 c12)) (sO (.slice a10 m11 c12) + i * 6 + 2)) rfl) ?_
      refine Gq.valg rfl rfl rfl rfl rfl (val_load rfl Try.ty4 rfl rfl (cell_base (i := 2) hs22 hy rfl)) ?_
      refine Gq.valg rfl rfl rfl rfl rfl (val_neqB Try.underlying4 rfl rfl rfl) ?_
      refine Gq.val rfl rfl rfl (val_pickF rfl rfl rfl) ?_
      refine Gq.done ?_
      refine Gx.thenN ?_
      refine Gx.boolF rfl (by rw [y2]; simp) ?_
      refine Gx.skip ?_
      refine Gx.blkN ?_
      refine Gx.thenN ?_
      refine Gx.region ?_
      refine Gx.val rfl rfl rfl (val_move rfl rfl) ?_
      refine Gx.val rfl rfl rfl (val_add rfl rfl rfl (r := ((i + 1 : Nat) : Int)) (w64 (by omega) (by omega))) ?_
      refine Gx.val rfl rfl rfl (val_assign rfl rfl) ?_
      refine Gx.done ?_
      refine Gx.thenN ?_
      exact Gx.round (i + 1) (by first | omega | (dsimp only; omega)) (by first | omega | (dsimp only; omega)) ((.cons rfl (.cons rfl (.cons rfl .nil)))) rfl
    · refine Gq.skipg rfl rfl rfl rfl rfl rfl ?_
      refine Gq.skipg rfl rfl rfl rfl rfl rfl ?_
      refine Gq.skipg rfl rfl rfl rfl rfl rfl ?_
      refine Gq.skipg rfl rfl rfl rfl rfl rfl ?_
      refine Gq.skipg rfl rfl rfl rfl rfl rfl ?_
      refine Gq.skipg rfl rfl rfl rfl rfl rfl ?_
      refine Gq.skipg rfl rfl rfl rfl rfl rfl ?_
      refine Gq.skipg rfl rfl rfl rfl rfl rfl ?_
      refine Gq.skipg rfl rfl rfl rfl rfl rfl ?_
      refine Gq.skipg rfl rfl rfl rfl rfl rfl ?_
      refine Gq.skipg rfl rfl rfl rfl rfl rfl ?_
      refine Gq.val rfl rfl rfl (val_pickF rfl rfl rfl) ?_
      refine Gq.val rfl rfl rfl (val_move rfl rfl) ?_
      refine Gq.valg rfl rfl rfl rfl rfl (Val.cast (val_fieldAddr rfl Try.underlying28 rfl Try.ty26 rfl rfl) (v' := ptr b33 1) rfl) ?_
      refine Gq.valg rfl rfl rfl rfl rfl (val_load rfl Try.ty26 rfl rfl (cell_rec (k := 0) rfl rfl)) ?_
      refine Gq.valg rfl rfl rfl rfl rfl (val_move rfl rfl) ?_
      refine Gq.valg rfl rfl rfl rfl rfl (val_ixa rfl Try.underlying26 Try.ty33 rfl rfl (j := i) (rfl) (reach_base hpv16 hx)) ?_
      refine Gq.valg rfl rfl rfl rfl rfl (Val.cast (val_fieldAddr rfl Try.underlying33 rfl Try.ty3 rfl rfl) (v' := ptr (sB (.slice a30 m31 c32)) (sO (.slice a30 m31 c32) + i * 6 + 4)) rfl) ?_
      refine Gq.valg rfl rfl rfl rfl rfl (val_load rfl Try.ty3 rfl rfl (cell_base (i := 4) hpv16 hx rfl)) ?_
      refine Gq.valg rfl rfl rfl rfl rfl (Val.cast (val_fieldAddr rfl Try.underlying28 rfl Try.ty26 rfl rfl) (v' := ptr b13 1) rfl) ?_
      refine Gq.valg rfl rfl rfl rfl rfl (val_load rfl Try.ty26 rfl rfl (cell_old hb24 hc26)) ?_
      refine Gq.valg rfl rfl rfl rfl rfl (val_move rfl rfl) ?_
      refine Gq.valg rfl rfl rfl rfl rfl (val_ixa rfl Try.underlying26 Try.ty33 rfl rfl (j := i) (rfl) (reach_base hs22 hy)) ?_
      refine Gq.valg rfl rfl rfl rfl rfl (Val.cast (val_fieldAddr rfl Try.underlying33 rfl Try.ty3 rfl rfl) (v' := ptr (sB (.slice a10 m11 c12)) (sO (.slice a10 m11 c12) + i * 6 + 4)) rfl) ?_
      refine Gq.valg rfl rfl rfl rfl rfl (val_load rfl Try.ty3 rfl rfl (cell_base (i := 4) hs22 hy rfl)) ?_
      refine Gq.valg rfl rfl rfl rfl rfl (val_neq rfl rfl rfl) ?_
      refine Gq.val rfl rfl rfl (val_pickF rfl rfl rfl) ?_
      refine Gq.val rfl rfl rfl (val_move rfl rfl) ?_
      refine Gq.slot (t := 106) (v := .bool false) (look_decF rfl (by omega)) ?_
      refine Gq.valg rfl rfl rfl rfl rfl (Val.cast (val_fieldAddr rfl Try.underlying28 rfl Try.ty26 rfl rfl) (v' := ptr b33 1) rfl) ?_
      refine Gq.valg rfl rfl rfl rfl rfl (val_load rfl Try.ty26 rfl rfl (cell_rec (k := 0) rfl rfl)) ?_
      refine Gq.valg rfl rfl rfl rfl rfl (val_move rfl rfl) ?_
      refine Gq.valg rfl rfl rfl rfl rfl (val_ixa rfl Try.underlying26 Try.ty33 rfl rfl (j := i) (rfl) (reach_base hpv16 hx)) ?_
      refine Gq.valg rfl rfl rfl rfl rfl (Val.cast (val_fieldAddr rfl Try.underlying33 rfl Try.ty3 rfl rfl) (v' := ptr (sB (.slice a30 m31 c32)) (sO (.slice a30 m31 c32) + i * 6)) rfl) ?_
      refine Gq.valg rfl rfl rfl rfl rfl (val_load rfl Try.ty3 rfl rfl (cell_base (i := 0) hpv16 hx rfl)) ?_
      refine Gq.valg rfl rfl rfl rfl rfl (Val.cast (val_fieldAddr rfl Try.underlying28 rfl Try.ty26 rfl rfl) (v' := ptr b13 1) rfl) ?_
      refine Gq.valg rfl rfl rfl rfl rfl (val_load rfl Try.ty26 rfl rfl (cell_old hb24 hc26)) ?_
      refine Gq.valg rfl rfl rfl rfl rfl (val_move rfl rfl) ?_
      refine Gq.valg rfl rfl rfl rfl rfl (val_ixa rfl Try.underlying26 Try.ty33 rfl rfl (j := i) (rfl) (reach_base hs22 hy)) ?_
      refine Gq.valg rfl rfl rfl rfl rfl (Val.cast (val_fieldAddr rfl Try.underlying33 rfl Try.ty3 rfl rfl) (v' := ptr (sB (.slice a10 m11 c12)) (sO (.slice a10 m11 c12) + i * 6)) rfl) ?_
      refine Gq.valg rfl rfl rfl rfl rfl (val_load rfl Try.ty3 rfl rfl (cell_base (i := 0) hs22 hy rfl)) ?_
      refine Gq.valg rfl rfl rfl rfl rfl (val_neq rfl rfl rfl) ?_
      refine Gq.val rfl rfl rfl (val_pickF rfl rfl rfl) ?_
      refine Gq.val rfl rfl rfl (val_move rfl rfl) ?_
      refine Gq.slot (t := 121) (v := .bool false) (look_decF rfl (by omega)) ?_
      refine Gq.valg rfl rfl rfl rfl rfl (Val.cast (val_fieldAddr rfl Try.underlying28 rfl Try.ty26 rfl rfl) (v' := ptr b33 1) rfl) ?_
      refine Gq.valg rfl rfl rfl rfl rfl (val_load rfl Try.ty26 rfl rfl (cell_rec (k := 0) rfl rfl)) ?_
      refine Gq.valg rfl rfl rfl rfl rfl (val_move rfl rfl) ?_
      refine Gq.valg rfl rfl rfl rfl rfl (val_ixa rfl Try.underlying26 Try.ty33 rfl rfl (j := i) (rfl) (reach_base hpv16 hx)) ?_
      refine Gq.valg rfl rfl rfl rfl rfl (Val.cast (val_fieldAddr rfl Try.underlying33 rfl Try.ty4 rfl rfl) (v' := ptr (sB (.slice a30 m31 c32)) (sO (.slice a30 m31 c32) + i * 6 + 2)) rfl) ?_
      refine Gq.valg rfl rfl rfl rfl rfl (val_load rfl Try.ty4 rfl rfl (cell_base (i := 2) hpv16 hx rfl)) ?_
      refine Gq.valg rfl rfl rfl rfl rfl (Val.cast (val_fieldAddr rfl Try.underlying28 rfl Try.ty26 rfl rfl) (v' := ptr b13 1) rfl) ?_
      refine Gq.valg rfl rfl rfl rfl rfl (val_load rfl Try.ty26 rfl rfl (cell_old hb24 hc26)) ?_
      refine Gq.valg rfl rfl rfl rfl rfl (val_move rfl rfl) ?_
      refine Gq.valg rfl rfl rfl rfl rfl (val_ixa rfl Try.underlying26 Try.ty33 rfl rfl (j := i) (rfl) (reach_base hs22 hy)) ?_
      refine Gq.valg rfl rfl rfl rfl rfl (Val.cast (val_fieldAddr rfl Try.underlying33 rfl Try.ty4 rfl rfl) (v' := ptr (sB (.slice a10 m11 c12)) (sO (.slice a10 m11 c12) + i * 6 + 2)) rfl) ?_
      refine Gq.valg rfl rfl rfl rfl rfl (val_load rfl Try.ty4 rfl rfl (cell_base (i := 2) hs22 hy rfl)) ?_
      refine Gq.valg rfl rfl rfl rfl rfl (val_neqB Try.underlying4 rfl rfl rfl) ?_
      refine Gq.val rfl rfl rfl (val_pickF rfl rfl rfl) ?_
      refine Gq.done ?_
      refine Gx.thenN ?_
      refine Gx.boolF rfl (by rw [y2]; simp) ?_
      refine Gx.skip ?_
      refine Gx.blkN ?_
      refine Gx.thenN ?_
      refine Gx.region ?_
      refine Gx.val rfl rfl rfl (val_move rfl rfl) ?_
      refine Gx.val rfl rfl rfl (val_add rfl rfl rfl (r := ((i + 1 : Nat) : Int)) (w64 (by omega) (by omega))) ?_
      refine Gx.val rfl rfl rfl (val_assign rfl rfl) ?_
      refine Gx.done ?_
      refine Gx.thenN ?_
      exact Gx.round (i + 1) (by first | omega | (dsimp only; omega)) (by first | omega | (dsimp only; omega)) ((.cons rfl (.cons rfl (.cons rfl .nil)))) rfl
  · refine Gx.exit ?_
    refine Gx.thenE ?_
    refine Gx.thenE ?_
    refine Gx.blkE ?_
    refine Gx.thenN ?_
    refine Gx.seq ?_
    refine Gx.region ?_
    refine Gx.val rfl rfl rfl (val_assign rfl rfl) ?_
    refine Gx.done ?_
    refine Gx.thenN ?_
    refine Gx.ret ?_
    refine Gx.ret1B hW19 Try.results5 rfl ?_
    rfl

theorem front_any {W : World} {n z : Int} {sv : Value} {cs : List Cl} (h0 : 0 ≤ z) (h255 : z ≤ 255) (hs : SlS FC 6 W sv cs) :
    Calls Try.prog 5 #[.int .i64 n, sv, .int .u8 z] W fun e w' => e = .returned (.bool true) ∧ Below W.heap.size W w' := by
  obtain ⟨k, rfl⟩ : ∃ k : Nat, z = (k : Int) := ⟨z.toNat, by omega⟩
  by_cases h : n < 1 ∨ 5 < n ∨ 120 < (cs.length : Int)
  · exact front_no hs h (by omega)
  · obtain ⟨m, rfl⟩ : ∃ m : Nat, n = (m : Int) := ⟨n.toNat, by omega⟩
    exact front_yes (by omega) (by omega) (by omega) (by omega) hs
end Go.Proofs.Ytjiefamdpbnngaa
