/- Two pays that touch no account in common may be turned. The walk. No condition. -/
import Derived.Test.YtbdlpomcmkojmaaDoorM2
import Derived.Test.YtbdlpomcmkojmaaDoorB2
namespace Go.Proofs.YtbdlpomcmkojmaaDoor
open Go.RowKit
set_option linter.unusedVariables false
set_option linter.unusedSimpArgs false
set_option maxRecDepth 100000

theorem neq_same {c : Cx} {m : List (Nat × Value)} {l : List Hp} {o : Oper} {x y : Operand} {e e' : Acc} (h : e' = e) (ho : o.op = .binOp .neq 31 x y 31) (hx : evo m x = some (.agg #[.int .i64 e.n, .int .i64 ((e.ser : Nat) : Int)]))
   (hy : evo m y = some (.agg #[.int .i64 e'.n, .int .i64 ((e'.ser : Nat) : Int)])) : Val Tryd.prog c m l o (.bool false) := Val.of fun a w s H => by
  subst h
  have h1 := s.ev hx
  have h2 := s.ev hy
  simp only [execOp, ho, h1, h2]
  go_simp
theorem accounts_same {W : World} {va vb : Value} {xs ys : List Acc} (heq : xs = ys) (ha : SlS FA 2 W va xs) (hb : SlS FA 2 W vb ys) : Calls Tryd.prog 9 #[va, vb] W fun e w' => e = .returned (.bool true) ∧ Below W.heap.size W w' := by
  have hle : xs.length = ys.length := by rw [heq]
  have m1 := len_bd ha
  have m2 := len_bd hb
  refine calls_pure (Gx.enter (l := []) Tryd.func9 rfl Tryd.ntmps9 rfl (Sat.start W) ?_)
  refine Gx.know (m' := [(0, va), (1, vb)]) (.cons rfl (.cons rfl .nil)) ?_
  refine Gx.seq ?_
  refine Gx.region ?_
  refine Gx.val rfl rfl rfl (val_assign rfl rfl) ?_
  refine Gx.done ?_
  refine Gx.thenN ?_
  refine Gx.seq ?_
  refine Gx.seq ?_
  refine Gx.region ?_
  refine Gx.val rfl rfl rfl (val_move rfl rfl) ?_
  refine Gx.val rfl rfl rfl (val_len rfl Tryd.underlying24 rfl (len_base ha)) ?_
  refine Gx.val rfl rfl rfl (val_move rfl rfl) ?_
  refine Gx.val rfl rfl rfl (val_len rfl Tryd.underlying24 rfl (len_base hb)) ?_
  refine Gx.val rfl rfl rfl (val_neq rfl rfl rfl) ?_
  refine Gx.done ?_
  refine Gx.thenN ?_
  refine Gx.decF rfl (by omega) ?_
  refine Gx.skip ?_
  refine Gx.thenN ?_
  refine Gx.seq ?_
  refine Gx.seq ?_
  refine Gx.region ?_
  refine Gx.val rfl rfl rfl (val_assign rfl rfl) ?_
  refine Gx.done ?_
  refine Gx.thenN ?_
  refine Gx.block ?_
  refine Gx.loop (ι := Nat) (fun ξ => (ξ ≤ xs.length)) (fun ξ => [(0, va), (1, vb), (5, .int .i64 ((ξ : Nat) : Int))]) (fun ξ => []) (fun ξ => xs.length - ξ) 0 (by first | omega | (dsimp only; omega)) ((.cons rfl (.cons rfl (.cons rfl .nil)))) rfl ?_
  rintro k hk
  refine Gx.know (m' := [(0, va), (1, vb), (5, .int .i64 ((k : Nat) : Int))]) (.cons rfl (.cons rfl (.cons rfl .nil))) (Gx.norm (l' := []) rfl ?_)
  refine Gx.seq ?_
  refine Gx.seq ?_
  refine Gx.region ?_
  refine Gx.val rfl rfl rfl (val_move rfl rfl) ?_
  refine Gx.val rfl rfl rfl (val_move rfl rfl) ?_
  refine Gx.val rfl rfl rfl (val_len rfl Tryd.underlying24 rfl (len_base ha)) ?_
  refine Gx.val rfl rfl rfl (val_lss rfl rfl rfl) ?_
  refine Gx.done ?_
  refine Gx.thenN ?_
  refine Gx.dec rfl (fun h1 => ?_) (fun h1 => ?_)
  · refine Gx.skip ?_
    refine Gx.thenN ?_
    refine Gx.seq ?_
    refine Gx.block ?_
    refine Gx.seq ?_
    refine Gx.regionQ Tryd.mixed (by kernel_rfl) ?_
    refine Gq.val rfl rfl rfl (val_move rfl rfl) ?_
    refine Gq.val rfl rfl rfl (val_move rfl rfl) ?_
    obtain ⟨x2, hx2⟩ := get_of_lt (xs := xs) (k := k) (by omega)
    refine Gq.val rfl rfl rfl (val_ixa rfl Tryd.underlying24 Tryd.ty31 rfl rfl (j := k) (rfl) (reach_base ha hx2)) ?_
    refine Gq.val rfl rfl rfl (Val.cast (val_loadA rfl Tryd.ty31 rfl rfl rfl (cells_base ha hx2)) (v' := .agg #[.int .i64 x2.n, .int .i64 ((x2.ser : Nat) : Int)]) rfl) ?_
    refine Gq.val rfl rfl rfl (val_move rfl rfl) ?_
    refine Gq.val rfl rfl rfl (val_move rfl rfl) ?_
    obtain ⟨x3, hx3⟩ := get_of_lt (xs := ys) (k := k) (by omega)
    refine Gq.val rfl rfl rfl (val_ixa rfl Tryd.underlying24 Tryd.ty31 rfl rfl (j := k) (rfl) (reach_base hb hx3)) ?_
    refine Gq.val rfl rfl rfl (Val.cast (val_loadA rfl Tryd.ty31 rfl rfl rfl (cells_base hb hx3)) (v' := .agg #[.int .i64 x3.n, .int .i64 ((x3.ser : Nat) : Int)]) rfl) ?_
    refine Gq.val rfl rfl rfl (neq_same (Option.some.inj (hx3.symm.trans ((congrArg (·[k]?) heq).symm.trans hx2))) rfl rfl rfl) ?_
    refine Gq.done ?_
    refine Gx.thenN ?_
    refine Gx.f rfl ?_
    refine Gx.skip ?_
    refine Gx.blkN ?_
    refine Gx.thenN ?_
    refine Gx.region ?_
    refine Gx.val rfl rfl rfl (val_move rfl rfl) ?_
    refine Gx.val rfl rfl rfl (val_add rfl rfl rfl (r := ((k + 1 : Nat) : Int)) (w64 (by omega) (by omega))) ?_
    refine Gx.val rfl rfl rfl (val_assign rfl rfl) ?_
    refine Gx.done ?_
    refine Gx.thenN ?_
    exact Gx.round (k + 1) (by first | omega | (dsimp only; omega)) (by first | omega | (dsimp only; omega)) ((.cons rfl (.cons rfl (.cons rfl .nil)))) rfl
  · refine Gx.exit ?_
    refine Gx.thenE ?_
    refine Gx.thenE ?_
    refine Gx.blkE ?_
    refine Gx.thenN ?_
    refine Gx.seq ?_
    refine Gx.region ?_
    refine Gx.val rfl rfl rfl (val_assign rfl rfl) ?_
    refine Gx.done ?_
    refine Gx.thenN ?_
    refine Gx.ret ?_
    refine Gx.ret1 Tryd.results9 rfl ?_
    rfl

theorem apart_no {W : World} {mv pv : Value} {money : List Int} {pays : List Py} {k : Nat} (hg : HG W) (hm : SlS FM 1 W mv money) (hp : SlS FP 4 W pv pays) (hk : k ≤ 255) (hno : ¬ OkL money pays.length) :
    Calls Tryd.prog 5 #[mv, pv, .int .u8 ((k : Nat) : Int)] W fun e w' => e = .returned (.bool true) ∧ Below W.heap.size W w' := by
  have hm1 := len_bd hm
  have hp1 := len_bd hp
  refine calls_pure (Gx.enter (l := []) Tryd.func5 rfl Tryd.ntmps5 rfl (Sat.start W) ?_)
  refine Gx.know (m' := [(0, mv), (1, pv), (2, .int .u8 ((k : Nat) : Int))]) (.cons rfl (.cons rfl (.cons rfl .nil))) ?_
  refine Gx.seq ?_
  refine Gx.region ?_
  refine Gx.val rfl rfl rfl (val_assign rfl rfl) ?_
  refine Gx.done ?_
  refine Gx.thenN ?_
  refine Gx.seq ?_
  refine Gx.region ?_
  refine Gx.val rfl rfl rfl (val_move rfl rfl) ?_
  refine Gx.val rfl rfl rfl (val_move rfl rfl) ?_
  refine Gx.eff rfl rfl rfl (eff_callE (vs := [mv, pv]) rfl Tryd.fn7 rfl (R := fun u => ∃ c : Int, u = .tuple #[.slice none 0 0, .slice none 0 0, .int .i64 c] ∧ c ≠ 0) (fun w H => play_no (hm.below H.below) (hp.below H.below) hno)) ?_
  rintro _ _ ⟨⟨c1, rfl, hc1⟩, rfl⟩
  refine Gx.val rfl rfl rfl (val_move rfl rfl) ?_
  refine Gx.val rfl rfl rfl (val_extract rfl rfl rfl) ?_
  refine Gx.val rfl rfl rfl (val_extract rfl rfl rfl) ?_
  refine Gx.val rfl rfl rfl (val_extract rfl rfl rfl) ?_
  refine Gx.val rfl rfl rfl (val_assign rfl rfl) ?_
  refine Gx.val rfl rfl rfl (val_assign rfl rfl) ?_
  refine Gx.val rfl rfl rfl (val_assign rfl rfl) ?_
  refine Gx.done ?_
  refine Gx.thenN ?_
  refine Gx.seq ?_
  refine Gx.seq ?_
  refine Gx.region ?_
  refine Gx.val rfl rfl rfl (val_move rfl rfl) ?_
  refine Gx.val rfl rfl rfl (val_neq rfl rfl rfl) ?_
  refine Gx.val rfl rfl rfl (val_move rfl rfl) ?_
  refine Gx.slot (t := 25) (v := .bool true) (look_decT rfl (by assumption)) ?_
  refine Gx.skipg rfl rfl rfl rfl rfl rfl ?_
  refine Gx.skipg rfl rfl rfl rfl rfl rfl ?_
  refine Gx.skipg rfl rfl rfl rfl rfl rfl ?_
  refine Gx.skipg rfl rfl rfl rfl rfl rfl ?_
  refine Gx.skipg rfl rfl rfl rfl rfl rfl ?_
  refine Gx.val rfl rfl rfl (val_pickT rfl rfl rfl) ?_
  refine Gx.done ?_
  refine Gx.thenN ?_
  refine Gx.t rfl ?_
  refine Gx.seq ?_
  refine Gx.region ?_
  refine Gx.val rfl rfl rfl (val_move rfl rfl) ?_
  refine Gx.val rfl rfl rfl (val_neq rfl rfl rfl) ?_
  refine Gx.val rfl rfl rfl (val_assign rfl rfl) ?_
  refine Gx.done ?_
  refine Gx.thenN ?_
  refine Gx.ret ?_
  refine Gx.thenR ?_
  refine Gx.ret1 Tryd.results5 rfl ?_
  exact congrArg Value.bool (decide_eq_true (by assumption))

theorem apart_yes {W : World} {mv pv : Value} {money : List Int} {pays : List Py} {k : Nat} (hg : HG W) (hm : SlS FM 1 W mv money) (hp : SlS FP 4 W pv pays) (hk : k ≤ 255) (hok : OkL money pays.length) :
    Calls Tryd.prog 5 #[mv, pv, .int .u8 ((k : Nat) : Int)] W fun e w' => e = .returned (.bool true) ∧ Below W.heap.size W w' := by
  have hm1 := len_bd hm
  have hp1 := len_bd hp
  have hk9 := hk
  have hfew := hok.few
  refine calls_pure (Gx.enter (l := []) Tryd.func5 rfl Tryd.ntmps5 rfl (Sat.start W) ?_)
  refine Gx.know (m' := [(0, mv), (1, pv), (2, .int .u8 ((k : Nat) : Int))]) (.cons rfl (.cons rfl (.cons rfl .nil))) ?_
  refine Gx.seq ?_
  refine Gx.region ?_
  refine Gx.val rfl rfl rfl (val_assign rfl rfl) ?_
  refine Gx.done ?_
  refine Gx.thenN ?_
  refine Gx.seq ?_
  refine Gx.region ?_
  refine Gx.val rfl rfl rfl (val_move rfl rfl) ?_
  refine Gx.val rfl rfl rfl (val_move rfl rfl) ?_
  refine Gx.callB rfl rfl rfl (vs := [mv, pv]) rfl Tryd.fn7 rfl (R := fun v w' => ∃ av cv, v = .tuple #[av, cv, .int .i64 0] ∧ SlS FA 2 w' av (accsL (start0 money) pays) ∧ SlS FZ 1 w' cv (codesL (start0 money) pays)) (fun w H => play_ok (hg.below H.below) (hm.below H.below) (hp.below H.below) hok) ?_
  rintro _ W3 ⟨av2, cv1, rfl, hav2, hcv1⟩ H4
  have hW5 := H4.below
  have hs6 := hm.below H4.below
  have hs7 := hp.below H4.below
  have hg8 := hg.below H4.below
  have hclcv1 : (codesL (start0 money) pays).length = (pays).length := codesL_len ..
  have halav2 : (accsL (start0 money) pays).length = money.length := by rw [accsL_len, start_len]
  refine Gx.val rfl rfl rfl (val_move rfl rfl) ?_
  refine Gx.val rfl rfl rfl (val_extract rfl rfl rfl) ?_
  refine Gx.val rfl rfl rfl (val_extract rfl rfl rfl) ?_
  refine Gx.val rfl rfl rfl (val_extract rfl rfl rfl) ?_
  refine Gx.val rfl rfl rfl (val_assign rfl rfl) ?_
  refine Gx.val rfl rfl rfl (val_assign rfl rfl) ?_
  refine Gx.val rfl rfl rfl (val_assign rfl rfl) ?_
  refine Gx.done ?_
  refine Gx.thenN ?_
  refine Gx.seq ?_
  refine Gx.seq ?_
  refine Gx.region ?_
  refine Gx.val rfl rfl rfl (val_move rfl rfl) ?_
  refine Gx.val rfl rfl rfl (Val.cast (val_neq rfl rfl rfl) (v' := .bool false) rfl) ?_
  refine Gx.val rfl rfl rfl (val_move rfl rfl) ?_
  refine Gx.valg rfl rfl rfl rfl rfl (val_move rfl rfl) ?_
  refine Gx.valg rfl rfl rfl rfl rfl (val_len rfl Tryd.underlying25 rfl (len_base hcv1)) ?_
  refine Gx.valg rfl rfl rfl rfl rfl (val_move rfl rfl) ?_
  refine Gx.valg rfl rfl rfl rfl rfl (val_len rfl Tryd.underlying23 rfl (len_base hs7)) ?_
  refine Gx.valg rfl rfl rfl rfl rfl (val_neq rfl rfl rfl) ?_
  refine Gx.val rfl rfl rfl (val_pickF rfl rfl rfl) ?_
  refine Gx.done ?_
  refine Gx.thenN ?_
  refine Gx.decF rfl (by omega) ?_
  refine Gx.skip ?_
  refine Gx.thenN ?_
  refine Gx.seq ?_
  refine Gx.seq ?_
  refine Gx.region ?_
  refine Gx.val rfl rfl rfl (val_move rfl rfl) ?_
  refine Gx.val rfl rfl rfl (val_len rfl Tryd.underlying23 rfl (len_base hs7)) ?_
  refine Gx.val rfl rfl rfl (val_lss rfl rfl rfl) ?_
  refine Gx.done ?_
  refine Gx.thenN ?_
  refine Gx.dec rfl (fun h9 => ?_) (fun h9 => ?_)
  · refine Gx.seq ?_
    refine Gx.region ?_
    refine Gx.val rfl rfl rfl (val_assign rfl rfl) ?_
    refine Gx.done ?_
    refine Gx.thenN ?_
    refine Gx.ret ?_
    refine Gx.thenR ?_
    refine Gx.ret1B hW5 Tryd.results5 rfl ?_
    rfl
  · refine Gx.skip ?_
    refine Gx.thenN ?_
    refine Gx.seq ?_
    refine Gx.region ?_
    refine Gx.val rfl rfl rfl (val_move rfl rfl) ?_
    refine Gx.val rfl rfl rfl (val_conv rfl Tryd.underlying5 Tryd.underlying3 rfl (r := ((k : Nat) : Int)) (w64 rfl (by omega))) ?_
    refine Gx.val rfl rfl rfl (val_move rfl rfl) ?_
    refine Gx.val rfl rfl rfl (val_len rfl Tryd.underlying23 rfl (len_base hs7)) ?_
    refine Gx.val rfl rfl rfl (val_sub rfl rfl rfl (r := ((pays.length - 1 : Nat) : Int)) (w64 (by omega) (by omega))) ?_
    refine Gx.val rfl rfl rfl (val_rem rfl rfl rfl (r := ((k % (pays.length - 1) : Nat) : Int)) (by omega) (rfl)) ?_
    refine Gx.val rfl rfl rfl (val_assign rfl rfl) ?_
    refine Gx.done ?_
    refine Gx.thenN ?_
    refine Gx.seq ?_
    have hkm := Nat.mod_lt k (show 0 < pays.length - 1 by omega)
    obtain ⟨x10, hx10⟩ := get_of_lt (xs := pays) (k := k % (pays.length - 1)) (by omega)
    obtain ⟨x11, hx11⟩ := get_of_lt (xs := pays) (k := k % (pays.length - 1) + 1) (by omega)
    have hsl1 : (pays.set (k % (pays.length - 1)) x11).length = pays.length := by simp
    have hsl2 : ((pays.set (k % (pays.length - 1)) x11).set (k % (pays.length - 1) + 1) x10).length = pays.length := by simp
    -- region 7, in whatever order
    refine Gx.ones 4 (Gx.norm (l' := [1, 1, 1, 1]) rfl ?_)
    obtain ⟨pp12x0, pp12x0e⟩ : ∃ p : Done → Hp, p = fun d => cond (dn d 11) (Hp.rec_ (pB (dv d 9)) [.int .i64 x10.frm, .int .i64 x10.to, .int .i64 x10.ser, .int .i64 x10.n]) (cond (dn d 9) (Hp.rec_ (pB (dv d 9)) [.int .i64 0, .int .i64 0, .int .i64 0, .int .i64 0]) (1)) := ⟨_, rfl⟩
    obtain ⟨pp12x1, pp12x1e⟩ : ∃ p : Done → Hp, p = fun d => cond (dn d 12) (Hp.rec_ (pB (dv d 10)) [.int .i64 x11.frm, .int .i64 x11.to, .int .i64 x11.ser, .int .i64 x11.n]) (cond (dn d 10) (Hp.rec_ (pB (dv d 10)) [.int .i64 0, .int .i64 0, .int .i64 0, .int .i64 0]) (1)) := ⟨_, rfl⟩
    obtain ⟨pp12x2, pp12x2e⟩ : ∃ p : Done → Hp, p = fun d => cond (dn d 9) (Hp.pure (dv d 9 = ptr (pB (dv d 9)) 0)) 1 := ⟨_, rfl⟩
    obtain ⟨pp12x3, pp12x3e⟩ : ∃ p : Done → Hp, p = fun d => cond (dn d 10) (Hp.pure (dv d 10 = ptr (pB (dv d 10)) 0)) 1 := ⟨_, rfl⟩
    refine Gx.regionF [9, 10, 11, 12] [0, 1, 2, 3, 4, 5, 6, 7, 8] (fun ιi => []) (fun d => [pp12x0 d, pp12x1 d, pp12x2 d, pp12x3 d]) Tryd.mixed (by kernel_rfl) (by kernel_rfl) (by rw [pp12x0e]; rw [pp12x1e]; rw [pp12x2e]; rw [pp12x3e]; rfl) ?_ ?_
    · intro ιi d w hc hs H
      refine Sat.listed (l := []) H.noneL ?_
      rfl
    refine Gp.val rfl rfl rfl rfl (val_move rfl rfl) ?_
    refine Gp.val rfl rfl rfl rfl (val_move rfl rfl) ?_
    refine Gp.val rfl rfl rfl rfl (val_ixa rfl Tryd.underlying23 Tryd.ty33 rfl rfl (j := k % (pays.length - 1)) (rfl) (reach_base hs7 hx10)) ?_
    refine Gp.val rfl rfl rfl rfl (Val.cast (val_loadA rfl Tryd.ty33 rfl rfl rfl (cells_base (sz := 4) (j := k % (pays.length - 1)) hs7 hx10)) (v' := .agg #[.int .i64 x10.frm, .int .i64 x10.to, .int .i64 x10.ser, .int .i64 x10.n]) rfl) ?_
    refine Gp.val rfl rfl rfl rfl (val_move rfl rfl) ?_
    refine Gp.val rfl rfl rfl rfl (val_move rfl rfl) ?_
    refine Gp.val rfl rfl rfl rfl (val_add rfl rfl rfl (r := ((k % (pays.length - 1) + 1 : Nat) : Int)) (w64 (by omega) (by omega))) ?_
    refine Gp.val rfl rfl rfl rfl (val_ixa rfl Tryd.underlying23 Tryd.ty33 rfl rfl (j := k % (pays.length - 1) + 1) (rfl) (reach_base hs7 hx11)) ?_
    refine Gp.val rfl rfl rfl rfl (Val.cast (val_loadA rfl Tryd.ty33 rfl rfl rfl (cells_base (sz := 4) (j := k % (pays.length - 1) + 1) hs7 hx11)) (v' := .agg #[.int .i64 x11.frm, .int .i64 x11.to, .int .i64 x11.ser, .int .i64 x11.n]) rfl) ?_
    refine Gp.done (uniq_of (by kernel_rfl)) (by rfl) (by kernel_rfl) ⟨⟨_, rfl, ?_⟩, ⟨_, rfl, ?_⟩, ⟨_, rfl, ?_⟩, ⟨_, rfl, ?_⟩, trivial⟩ ?_
    · intro d hc hdi hpre a w hf H
      change Sat _ _ (sep [pp12x0 d, pp12x1 d, pp12x2 d, pp12x3 d]) at H
      have q9 := hdi
      have q11 : dn d 11 = false := hc.not 11 9 rfl (by kernel_rfl) q9
      have q12 : dn d 12 = false := hc.not 12 9 rfl (by kernel_rfl) q9
      have n0 : pp12x0 d = 1 := by rw [pp12x0e]; simp only [q9, q11, cond_true, cond_false]
      have n2 : pp12x2 d = 1 := by rw [pp12x2e]; simp only [q9, cond_true, cond_false]
      rw [n0, n2] at H
      refine EffAt.mono (Eff.at_ hf.slots H (eff_alloc rfl Tryd.ty33 (vs := [.int .i64 0, .int .i64 0, .int .i64 0, .int .i64 0]) rfl)) ?_
      rintro _ w2 ⟨_, ⟨b13, rfl, rfl⟩, H2⟩
      have H2 := Sat.fillAt H2 (k := 0) rfl
      have H2 := (Sat.pureI (p := (ptr b13 0 : Value) = ptr b13 0) rfl H2).fillAt (k := 2) rfl
      obtain ⟨d2, hd2⟩ : ∃ d2, d2 = upd d 9 (ptr b13 0) := ⟨_, rfl⟩
      have m9 : dn d2 9 = true := by rw [hd2]; rfl
      have m11 : dn d2 11 = false := by rw [hd2]; exact q11
      have m12 : dn d2 12 = false := by rw [hd2]; exact q12
      rw [← hd2]
      change Sat _ _ (sep [pp12x0 d2, pp12x1 d2, pp12x2 d2, pp12x3 d2])
      have u0 := congrFun pp12x0e d2
      simp only [m9, m11, cond_true, cond_false] at u0
      have u1 : pp12x1 d2 = pp12x1 d := by rw [hd2, pp12x1e]; rfl
      have u2 := congrFun pp12x2e d2
      simp only [m9, cond_true, cond_false] at u2
      have u3 : pp12x3 d2 = pp12x3 d := by rw [hd2, pp12x3e]; rfl
      rw [u0, u1, u2, u3]
      subst hd2
      exact H2
    · intro d hc hdi hpre a w hf H
      change Sat _ _ (sep [pp12x0 d, pp12x1 d, pp12x2 d, pp12x3 d]) at H
      have q10 := hdi
      have q11 : dn d 11 = false := hc.not 11 10 rfl (by kernel_rfl) q10
      have q12 : dn d 12 = false := hc.not 12 10 rfl (by kernel_rfl) q10
      have n1 : pp12x1 d = 1 := by rw [pp12x1e]; simp only [q10, q12, cond_true, cond_false]
      have n3 : pp12x3 d = 1 := by rw [pp12x3e]; simp only [q10, cond_true, cond_false]
      rw [n1, n3] at H
      refine EffAt.mono (Eff.at_ hf.slots H (eff_alloc rfl Tryd.ty33 (vs := [.int .i64 0, .int .i64 0, .int .i64 0, .int .i64 0]) rfl)) ?_
      rintro _ w2 ⟨_, ⟨b14, rfl, rfl⟩, H2⟩
      have H2 := Sat.fillAt H2 (k := 1) rfl
      have H2 := (Sat.pureI (p := (ptr b14 0 : Value) = ptr b14 0) rfl H2).fillAt (k := 3) rfl
      obtain ⟨d2, hd2⟩ : ∃ d2, d2 = upd d 10 (ptr b14 0) := ⟨_, rfl⟩
      have m10 : dn d2 10 = true := by rw [hd2]; rfl
      have m11 : dn d2 11 = false := by rw [hd2]; exact q11
      have m12 : dn d2 12 = false := by rw [hd2]; exact q12
      rw [← hd2]
      change Sat _ _ (sep [pp12x0 d2, pp12x1 d2, pp12x2 d2, pp12x3 d2])
      have u0 : pp12x0 d2 = pp12x0 d := by rw [hd2, pp12x0e]; rfl
      have u1 := congrFun pp12x1e d2
      simp only [m10, m12, cond_true, cond_false] at u1
      have u2 : pp12x2 d2 = pp12x2 d := by rw [hd2, pp12x2e]; rfl
      have u3 := congrFun pp12x3e d2
      simp only [m10, cond_true, cond_false] at u3
      rw [u0, u1, u2, u3]
      subst hd2
      exact H2
    · intro d hc hdi hpre a w hf H
      change Sat _ _ (sep [pp12x0 d, pp12x1 d, pp12x2 d, pp12x3 d]) at H
      have q9 : dn d 9 = true := hpre 9 (by kernel_rfl)
      have q9 : dn d 9 = true := hpre 9 (by kernel_rfl)
      have q10 : dn d 10 = true := hpre 10 (by kernel_rfl)
      have q11 := hdi
      have q12 : dn d 12 = false := hc.not 12 11 rfl (by kernel_rfl) q11
      have e9 : dv d 9 = ptr (pB (dv d 9)) 0 := H.factAt (k := 2) rfl (by rw [pp12x2e]; simp only [q9, cond_true])
      have e10 : dv d 10 = ptr (pB (dv d 10)) 0 := H.factAt (k := 3) rfl (by rw [pp12x3e]; simp only [q10, cond_true])
      have n0 : pp12x0 d = Hp.rec_ (pB (dv d 9)) [.int .i64 0, .int .i64 0, .int .i64 0, .int .i64 0] := by rw [pp12x0e]; simp only [q9, q11, cond_true, cond_false]
      have n1 : pp12x1 d = Hp.rec_ (pB (dv d 10)) [.int .i64 0, .int .i64 0, .int .i64 0, .int .i64 0] := by rw [pp12x1e]; simp only [q10, q12, cond_true, cond_false]
      rw [n0, n1] at H
      have s9 := hf.add hf.slots 9 rfl (by kernel_rfl) rfl q9 (v := ptr (pB (dv d 9)) 0) e9
      refine EffAt.mono (Eff.at_ s9 H (eff_store rfl Tryd.ty33 rfl rfl (us := [.int .i64 x10.frm, .int .i64 x10.to, .int .i64 x10.ser, .int .i64 x10.n]) rfl rfl rfl (k := 0) rfl (rfl) (vs' := [.int .i64 x10.frm, .int .i64 x10.to, .int .i64 x10.ser, .int .i64 x10.n]) (rfl) (l' := [Hp.rec_ (pB (dv d 9)) [.int .i64 x10.frm, .int .i64 x10.to, .int .i64 x10.ser, .int .i64 x10.n], Hp.rec_ (pB (dv d 10)) [.int .i64 0, .int .i64 0, .int .i64 0, .int .i64 0], pp12x2 d, pp12x3 d]) rfl)) ?_
      rintro v w2 ⟨_, rfl, H2⟩
      obtain ⟨d2, hd2⟩ : ∃ d2, d2 = upd d 11 v := ⟨_, rfl⟩
      have m11 : dn d2 11 = true := by rw [hd2]; rfl
      have m9 : dn d2 9 = true := by rw [hd2]; exact q9
      have m10 : dn d2 10 = true := by rw [hd2]; exact q10
      have m12 : dn d2 12 = false := by rw [hd2]; exact q12
      rw [← hd2]
      change Sat _ _ (sep [pp12x0 d2, pp12x1 d2, pp12x2 d2, pp12x3 d2])
      have u0 := congrFun pp12x0e d2
      simp only [m9, m11, cond_true, cond_false] at u0
      have u1 := congrFun pp12x1e d2
      simp only [m10, m12, cond_true, cond_false] at u1
      have u2 : pp12x2 d2 = pp12x2 d := by rw [hd2, pp12x2e]; rfl
      have u3 : pp12x3 d2 = pp12x3 d := by rw [hd2, pp12x3e]; rfl
      rw [u0, u1, u2, u3]
      subst hd2
      exact H2
    · intro d hc hdi hpre a w hf H
      change Sat _ _ (sep [pp12x0 d, pp12x1 d, pp12x2 d, pp12x3 d]) at H
      have q10 : dn d 10 = true := hpre 10 (by kernel_rfl)
      have q11 : dn d 11 = true := hpre 11 (by kernel_rfl)
      have q9 : dn d 9 = true := hpre 9 (by kernel_rfl)
      have q10 : dn d 10 = true := hpre 10 (by kernel_rfl)
      have q11 : dn d 11 = true := hpre 11 (by kernel_rfl)
      have q12 := hdi
      have e10 : dv d 10 = ptr (pB (dv d 10)) 0 := H.factAt (k := 3) rfl (by rw [pp12x3e]; simp only [q10, cond_true])
      have e9 : dv d 9 = ptr (pB (dv d 9)) 0 := H.factAt (k := 2) rfl (by rw [pp12x2e]; simp only [q9, cond_true])
      have n0 : pp12x0 d = Hp.rec_ (pB (dv d 9)) [.int .i64 x10.frm, .int .i64 x10.to, .int .i64 x10.ser, .int .i64 x10.n] := by rw [pp12x0e]; simp only [q9, q11, cond_true, cond_false]
      have n1 : pp12x1 d = Hp.rec_ (pB (dv d 10)) [.int .i64 0, .int .i64 0, .int .i64 0, .int .i64 0] := by rw [pp12x1e]; simp only [q10, q12, cond_true, cond_false]
      rw [n0, n1] at H
      have s10 := hf.add hf.slots 10 rfl (by kernel_rfl) rfl q10 (v := ptr (pB (dv d 10)) 0) e10
      refine EffAt.mono (Eff.at_ s10 H (eff_store rfl Tryd.ty33 rfl rfl (us := [.int .i64 x11.frm, .int .i64 x11.to, .int .i64 x11.ser, .int .i64 x11.n]) rfl rfl rfl (k := 1) rfl (rfl) (vs' := [.int .i64 x11.frm, .int .i64 x11.to, .int .i64 x11.ser, .int .i64 x11.n]) (rfl) (l' := [Hp.rec_ (pB (dv d 9)) [.int .i64 x10.frm, .int .i64 x10.to, .int .i64 x10.ser, .int .i64 x10.n], Hp.rec_ (pB (dv d 10)) [.int .i64 x11.frm, .int .i64 x11.to, .int .i64 x11.ser, .int .i64 x11.n], pp12x2 d, pp12x3 d]) rfl)) ?_
      rintro v w2 ⟨_, rfl, H2⟩
      obtain ⟨d2, hd2⟩ : ∃ d2, d2 = upd d 12 v := ⟨_, rfl⟩
      have m12 : dn d2 12 = true := by rw [hd2]; rfl
      have m10 : dn d2 10 = true := by rw [hd2]; exact q10
      have m11 : dn d2 11 = true := by rw [hd2]; exact q11
      have m9 : dn d2 9 = true := by rw [hd2]; exact q9
      rw [← hd2]
      change Sat _ _ (sep [pp12x0 d2, pp12x1 d2, pp12x2 d2, pp12x3 d2])
      have u0 := congrFun pp12x0e d2
      simp only [m9, m11, cond_true, cond_false] at u0
      have u1 := congrFun pp12x1e d2
      simp only [m10, m12, cond_true, cond_false] at u1
      have u2 : pp12x2 d2 = pp12x2 d := by rw [hd2, pp12x2e]; rfl
      have u3 : pp12x3 d2 = pp12x3 d := by rw [hd2, pp12x3e]; rfl
      rw [u0, u1, u2, u3]
      subst hd2
      exact H2
    · intro d hc hall a hf w H
      change Sat _ _ (sep [pp12x0 d, pp12x1 d, pp12x2 d, pp12x3 d]) at H
      have q9 : dn d 9 = true := hall 9 rfl
      have q10 : dn d 10 = true := hall 10 rfl
      have q11 : dn d 11 = true := hall 11 rfl
      have q12 : dn d 12 = true := hall 12 rfl
      have e9 : dv d 9 = ptr (pB (dv d 9)) 0 := H.factAt (k := 2) rfl (by rw [pp12x2e]; simp only [q9, cond_true])
      have e10 : dv d 10 = ptr (pB (dv d 10)) 0 := H.factAt (k := 3) rfl (by rw [pp12x3e]; simp only [q10, cond_true])
      have n0 : pp12x0 d = Hp.rec_ (pB (dv d 9)) [.int .i64 x10.frm, .int .i64 x10.to, .int .i64 x10.ser, .int .i64 x10.n] := by rw [pp12x0e]; simp only [q9, q11, cond_true, cond_false]
      have n1 : pp12x1 d = Hp.rec_ (pB (dv d 10)) [.int .i64 x11.frm, .int .i64 x11.to, .int .i64 x11.ser, .int .i64 x11.n] := by rw [pp12x1e]; simp only [q10, q12, cond_true, cond_false]
      have n2 : pp12x2 d = Hp.pure (dv d 9 = ptr (pB (dv d 9)) 0) := by rw [pp12x2e]; simp only [q9, cond_true]
      have n3 : pp12x3 d = Hp.pure (dv d 10 = ptr (pB (dv d 10)) 0) := by rw [pp12x3e]; simp only [q10, cond_true]
      rw [n0, n1, n2, n3] at H
      clear n0 n1 n2 n3
      obtain ⟨z15, hz15⟩ : ∃ b, b = pB (dv d 9) := ⟨_, rfl⟩
      rw [← hz15] at e9  H
      have s9 := hf.add hf.slots 9 rfl rfl rfl q9 (v := ptr z15 0) e9
      obtain ⟨z16, hz16⟩ : ∃ b, b = pB (dv d 10) := ⟨_, rfl⟩
      rw [← hz16] at e10  H
      have s10 := hf.add s9 10 rfl rfl rfl q10 (v := ptr z16 0) e10
      refine Gx.use s10 H ?_
      refine Gx.drop 3 rfl ?_
      refine Gx.drop 2 rfl ?_
      refine Gx.norm (l' := [Hp.rec_ z15 [.int .i64 x10.frm, .int .i64 x10.to, .int .i64 x10.ser, .int .i64 x10.n], Hp.rec_ z16 [.int .i64 x11.frm, .int .i64 x11.to, .int .i64 x11.ser, .int .i64 x11.n]]) rfl ?_
      refine Gx.thenN ?_
      refine Gx.seq ?_
      refine Gx.seq ?_
      refine Gx.region ?_
      refine Gx.val rfl rfl rfl (Val.cast (val_fieldAddr rfl Tryd.underlying33 rfl Tryd.ty3 rfl rfl) (v' := ptr z15 0) rfl) ?_
      refine Gx.val rfl rfl rfl (val_load rfl Tryd.ty3 rfl rfl (cell_rec (k := 0) rfl rfl)) ?_
      refine Gx.val rfl rfl rfl (Val.cast (val_fieldAddr rfl Tryd.underlying33 rfl Tryd.ty3 rfl rfl) (v' := ptr z16 0) rfl) ?_
      refine Gx.val rfl rfl rfl (val_load rfl Tryd.ty3 rfl rfl (cell_rec (k := 1) rfl rfl)) ?_
      refine Gx.val rfl rfl rfl (val_eql rfl rfl rfl) ?_
      refine Gx.val rfl rfl rfl (val_move rfl rfl) ?_
      refine Gx.cases (t := 57) rfl (fun h17 => ?_) (fun h17 => ?_)
      · refine Gx.skipg rfl rfl rfl rfl rfl rfl ?_
        refine Gx.skipg rfl rfl rfl rfl rfl rfl ?_
        refine Gx.skipg rfl rfl rfl rfl rfl rfl ?_
        refine Gx.skipg rfl rfl rfl rfl rfl rfl ?_
        refine Gx.skipg rfl rfl rfl rfl rfl rfl ?_
        refine Gx.val rfl rfl rfl (val_pickT rfl rfl rfl) ?_
        refine Gx.val rfl rfl rfl (val_move rfl rfl) ?_
        refine Gx.skipg rfl rfl rfl rfl rfl rfl ?_
        refine Gx.skipg rfl rfl rfl rfl rfl rfl ?_
        refine Gx.skipg rfl rfl rfl rfl rfl rfl ?_
        refine Gx.skipg rfl rfl rfl rfl rfl rfl ?_
        refine Gx.skipg rfl rfl rfl rfl rfl rfl ?_
        refine Gx.val rfl rfl rfl (val_pickT rfl rfl rfl) ?_
        refine Gx.val rfl rfl rfl (val_move rfl rfl) ?_
        refine Gx.skipg rfl rfl rfl rfl rfl rfl ?_
        refine Gx.skipg rfl rfl rfl rfl rfl rfl ?_
        refine Gx.skipg rfl rfl rfl rfl rfl rfl ?_
        refine Gx.skipg rfl rfl rfl rfl rfl rfl ?_
        refine Gx.skipg rfl rfl rfl rfl rfl rfl ?_
        refine Gx.val rfl rfl rfl (val_pickT rfl rfl rfl) ?_
        refine Gx.done ?_
        refine Gx.thenN ?_
        refine Gx.t rfl ?_
        refine Gx.seq ?_
        refine Gx.region ?_
        refine Gx.val rfl rfl rfl (val_assign rfl rfl) ?_
        refine Gx.done ?_
        refine Gx.thenN ?_
        refine Gx.ret ?_
        refine Gx.thenR ?_
        refine Gx.ret1B hW5 Tryd.results5 rfl ?_
        rfl
      · refine Gx.valg rfl rfl rfl rfl rfl (Val.cast (val_fieldAddr rfl Tryd.underlying33 rfl Tryd.ty3 rfl rfl) (v' := ptr z15 0) rfl) ?_
        refine Gx.valg rfl rfl rfl rfl rfl (val_load rfl Tryd.ty3 rfl rfl (cell_rec (k := 0) rfl rfl)) ?_
        refine Gx.valg rfl rfl rfl rfl rfl (Val.cast (val_fieldAddr rfl Tryd.underlying33 rfl Tryd.ty3 rfl rfl) (v' := ptr z16 1) rfl) ?_
        refine Gx.valg rfl rfl rfl rfl rfl (val_load rfl Tryd.ty3 rfl rfl (cell_rec (k := 1) rfl rfl)) ?_
        refine Gx.valg rfl rfl rfl rfl rfl (val_eql rfl rfl rfl) ?_
        refine Gx.val rfl rfl rfl (val_pickF rfl rfl rfl) ?_
        refine Gx.val rfl rfl rfl (val_move rfl rfl) ?_
        refine Gx.cases (t := 64) rfl (fun h18 => ?_) (fun h18 => ?_)
        · refine Gx.skipg rfl rfl rfl rfl rfl rfl ?_
          refine Gx.skipg rfl rfl rfl rfl rfl rfl ?_
          refine Gx.skipg rfl rfl rfl rfl rfl rfl ?_
          refine Gx.skipg rfl rfl rfl rfl rfl rfl ?_
          refine Gx.skipg rfl rfl rfl rfl rfl rfl ?_
          refine Gx.val rfl rfl rfl (val_pickT rfl rfl rfl) ?_
          refine Gx.val rfl rfl rfl (val_move rfl rfl) ?_
          refine Gx.skipg rfl rfl rfl rfl rfl rfl ?_
          refine Gx.skipg rfl rfl rfl rfl rfl rfl ?_
          refine Gx.skipg rfl rfl rfl rfl rfl rfl ?_
          refine Gx.skipg rfl rfl rfl rfl rfl rfl ?_
          refine Gx.skipg rfl rfl rfl rfl rfl rfl ?_
          refine Gx.val rfl rfl rfl (val_pickT rfl rfl rfl) ?_
          refine Gx.done ?_
          refine Gx.thenN ?_
          refine Gx.t rfl ?_
          refine Gx.seq ?_
          refine Gx.region ?_
          refine Gx.val rfl rfl rfl (val_assign rfl rfl) ?_
          refine Gx.done ?_
          refine Gx.thenN ?_
          refine Gx.ret ?_
          refine Gx.thenR ?_
          refine Gx.ret1B hW5 Tryd.results5 rfl ?_
          rfl
        · refine Gx.valg rfl rfl rfl rfl rfl (Val.cast (val_fieldAddr rfl Tryd.underlying33 rfl Tryd.ty3 rfl rfl) (v' := ptr z15 1) rfl) ?_
          refine Gx.valg rfl rfl rfl rfl rfl (val_load rfl Tryd.ty3 rfl rfl (cell_rec (k := 0) rfl rfl)) ?_
          refine Gx.valg rfl rfl rfl rfl rfl (Val.cast (val_fieldAddr rfl Tryd.underlying33 rfl Tryd.ty3 rfl rfl) (v' := ptr z16 0) rfl) ?_
          refine Gx.valg rfl rfl rfl rfl rfl (val_load rfl Tryd.ty3 rfl rfl (cell_rec (k := 1) rfl rfl)) ?_
          refine Gx.valg rfl rfl rfl rfl rfl (val_eql rfl rfl rfl) ?_
          refine Gx.val rfl rfl rfl (val_pickF rfl rfl rfl) ?_
          refine Gx.val rfl rfl rfl (val_move rfl rfl) ?_
          refine Gx.cases (t := 71) rfl (fun h19 => ?_) (fun h19 => ?_)
          · refine Gx.skipg rfl rfl rfl rfl rfl rfl ?_
            refine Gx.skipg rfl rfl rfl rfl rfl rfl ?_
            refine Gx.skipg rfl rfl rfl rfl rfl rfl ?_
            refine Gx.skipg rfl rfl rfl rfl rfl rfl ?_
            refine Gx.skipg rfl rfl rfl rfl rfl rfl ?_
            refine Gx.val rfl rfl rfl (val_pickT rfl rfl rfl) ?_
            refine Gx.done ?_
            refine Gx.thenN ?_
            refine Gx.t rfl ?_
            refine Gx.seq ?_
            refine Gx.region ?_
            refine Gx.val rfl rfl rfl (val_assign rfl rfl) ?_
            refine Gx.done ?_
            refine Gx.thenN ?_
            refine Gx.ret ?_
            refine Gx.thenR ?_
            refine Gx.ret1B hW5 Tryd.results5 rfl ?_
            rfl
          · refine Gx.valg rfl rfl rfl rfl rfl (Val.cast (val_fieldAddr rfl Tryd.underlying33 rfl Tryd.ty3 rfl rfl) (v' := ptr z15 1) rfl) ?_
            refine Gx.valg rfl rfl rfl rfl rfl (val_load rfl Tryd.ty3 rfl rfl (cell_rec (k := 0) rfl rfl)) ?_
            refine Gx.valg rfl rfl rfl rfl rfl (Val.cast (val_fieldAddr rfl Tryd.underlying33 rfl Tryd.ty3 rfl rfl) (v' := ptr z16 1) rfl) ?_
            refine Gx.valg rfl rfl rfl rfl rfl (val_load rfl Tryd.ty3 rfl rfl (cell_rec (k := 1) rfl rfl)) ?_
            refine Gx.valg rfl rfl rfl rfl rfl (val_eql rfl rfl rfl) ?_
            refine Gx.val rfl rfl rfl (val_pickF rfl rfl rfl) ?_
            refine Gx.done ?_
            refine Gx.thenN ?_
            refine Gx.dec rfl (fun h20 => ?_) (fun h20 => ?_)
            · refine Gx.seq ?_
              refine Gx.region ?_
              refine Gx.val rfl rfl rfl (val_assign rfl rfl) ?_
              refine Gx.done ?_
              refine Gx.thenN ?_
              refine Gx.ret ?_
              refine Gx.thenR ?_
              refine Gx.ret1B hW5 Tryd.results5 rfl ?_
              rfl
            · refine Gx.skip ?_
              refine Gx.thenN ?_
              refine Gx.seq ?_
              refine Gx.region ?_
              refine Gx.eff rfl rfl rfl (eff_buildNil (f := FP) (sz := 4) (e := 33) rfl Tryd.underlying23 (fun w => by first | (go_simp; done) | (go_simp; rfl))) ?_
              rintro v21 _ ⟨hiv21, rfl⟩
              refine Gx.val rfl rfl rfl (val_move rfl rfl) ?_
              refine Gx.eff rfl rfl rfl (eff_pushAll (k := 0) (ys := pays) rfl Tryd.eP FP_len FP_one rfl rfl (fun w H => hs7.below H.below) rfl (by simp; omega) (by simp; omega)) ?_
              rintro v22 _ ⟨hiv22, rfl⟩
              refine Gx.norm (l' := [Hp.own FP 4 v22 pays, Hp.rec_ z15 [.int .i64 x10.frm, .int .i64 x10.to, .int .i64 x10.ser, .int .i64 x10.n], Hp.rec_ z16 [.int .i64 x11.frm, .int .i64 x11.to, .int .i64 x11.ser, .int .i64 x11.n]]) rfl ?_
              refine Gx.val rfl rfl rfl (val_assign rfl rfl) ?_
              refine Gx.done ?_
              refine Gx.thenN ?_
              refine Gx.seq ?_
              refine Gx.region ?_
              refine Gx.val rfl rfl rfl (val_move rfl rfl) ?_
              refine Gx.val rfl rfl rfl (val_move rfl rfl) ?_
              refine Gx.val rfl rfl rfl (Val.cast (val_loadA rfl Tryd.ty33 rfl rfl rfl (cells_rec (k := 2) rfl)) (v' := .agg #[.int .i64 x11.frm, .int .i64 x11.to, .int .i64 x11.ser, .int .i64 x11.n]) rfl) ?_
              refine Gx.val rfl rfl rfl (val_ixa rfl Tryd.underlying23 Tryd.ty33 rfl rfl (j := k % (pays.length - 1)) (rfl) (reach_own (k := 0) rfl hx10)) ?_
              refine Gx.eff0 rfl rfl (eff_storeElA x11 rfl Tryd.ty33 rfl rfl rfl FP_one (k := 0) rfl FP_len hx10 (l' := [Hp.own FP 4 v22 (pays.set (k % (pays.length - 1)) x11), Hp.rec_ z15 [.int .i64 x10.frm, .int .i64 x10.to, .int .i64 x10.ser, .int .i64 x10.n], Hp.rec_ z16 [.int .i64 x11.frm, .int .i64 x11.to, .int .i64 x11.ser, .int .i64 x11.n]]) rfl) ?_
              rintro _ _ rfl
              refine Gx.done ?_
              refine Gx.thenN ?_
              refine Gx.seq ?_
              refine Gx.region ?_
              refine Gx.val rfl rfl rfl (val_move rfl rfl) ?_
              refine Gx.val rfl rfl rfl (val_move rfl rfl) ?_
              refine Gx.val rfl rfl rfl (val_add rfl rfl rfl (r := ((k % (pays.length - 1) + 1 : Nat) : Int)) (w64 (by omega) (by omega))) ?_
              refine Gx.val rfl rfl rfl (Val.cast (val_loadA rfl Tryd.ty33 rfl rfl rfl (cells_rec (k := 1) rfl)) (v' := .agg #[.int .i64 x10.frm, .int .i64 x10.to, .int .i64 x10.ser, .int .i64 x10.n]) rfl) ?_
              obtain ⟨x23, hx23⟩ := get_of_lt (xs := pays.set (k % (pays.length - 1)) x11) (k := k % (pays.length - 1) + 1) (by omega)
              refine Gx.val rfl rfl rfl (val_ixa rfl Tryd.underlying23 Tryd.ty33 rfl rfl (j := k % (pays.length - 1) + 1) (rfl) (reach_own (k := 0) rfl hx23)) ?_
              refine Gx.eff0 rfl rfl (eff_storeElA x10 rfl Tryd.ty33 rfl rfl rfl FP_one (k := 0) rfl FP_len hx23 (l' := [Hp.own FP 4 v22 ((pays.set (k % (pays.length - 1)) x11).set (k % (pays.length - 1) + 1) x10), Hp.rec_ z15 [.int .i64 x10.frm, .int .i64 x10.to, .int .i64 x10.ser, .int .i64 x10.n], Hp.rec_ z16 [.int .i64 x11.frm, .int .i64 x11.to, .int .i64 x11.ser, .int .i64 x11.n]]) rfl) ?_
              rintro _ _ rfl
              refine Gx.done ?_
              refine Gx.thenN ?_
              refine Gx.seq ?_
              have hap := apart (l := start0 money) hx10 hx11 (by omega) (by omega) (by omega) (by omega)
              refine Gx.region ?_
              refine Gx.val rfl rfl rfl (val_move rfl rfl) ?_
              refine Gx.val rfl rfl rfl (val_move rfl rfl) ?_
              refine Gx.callB rfl rfl rfl (vs := [mv, v22]) rfl Tryd.fn7 rfl (R := fun v w' => ∃ av cv, v = .tuple #[av, cv, .int .i64 0] ∧ SlS FA 2 w' av (accsL (start0 money) ((pays.set (k % (pays.length - 1)) x11).set (k % (pays.length - 1) + 1) x10)) ∧ SlS FZ 1 w' cv (codesL (start0 money) ((pays.set (k % (pays.length - 1)) x11).set (k % (pays.length - 1) + 1) x10))) (fun w H => play_ok (hg8.below H.below) (hs6.below H.below) ((H.at_ (k := 0) rfl).sls (by omega)) (by rw [show ((pays.set _ _).set _ _).length = pays.length by simp]; exact hok)) ?_
              rintro _ W26 ⟨av25, cv24, rfl, hav25, hcv24⟩ H27
              have hW28 := hW5.trans (H27.below.mono hW5.size)
              have hs29 := hs6.below H27.below
              have hs30 := hs7.below H27.below
              have hs31 := hcv1.below H27.below
              have hs32 := hav2.below H27.below
              have hs33 := (H27.at_ (k := 0) rfl).sls (by first | omega | (simp; done) | (simp; omega))
              have hb34 := (H27.at_ (k := 1) rfl).rec_.1
              have hc35 := (H27.at_ (k := 1) rfl).cell 0 (u := .int .i64 x10.frm) rfl
              have hc36 := (H27.at_ (k := 1) rfl).cell 1 (u := .int .i64 x10.to) rfl
              have hc37 := (H27.at_ (k := 1) rfl).cell 2 (u := .int .i64 x10.ser) rfl
              have hc38 := (H27.at_ (k := 1) rfl).cell 3 (u := .int .i64 x10.n) rfl
              have hb39 := (H27.at_ (k := 2) rfl).rec_.1
              have hc40 := (H27.at_ (k := 2) rfl).cell 0 (u := .int .i64 x11.frm) rfl
              have hc41 := (H27.at_ (k := 2) rfl).cell 1 (u := .int .i64 x11.to) rfl
              have hc42 := (H27.at_ (k := 2) rfl).cell 2 (u := .int .i64 x11.ser) rfl
              have hc43 := (H27.at_ (k := 2) rfl).cell 3 (u := .int .i64 x11.n) rfl
              have hg44 := hg8.below H27.below
              have hclcv24 : (codesL (start0 money) ((pays.set (k % (pays.length - 1)) x11).set (k % (pays.length - 1) + 1) x10)).length = (((pays.set (k % (pays.length - 1)) x11).set (k % (pays.length - 1) + 1) x10)).length := codesL_len ..
              have halav25 : (accsL (start0 money) ((pays.set (k % (pays.length - 1)) x11).set (k % (pays.length - 1) + 1) x10)).length = money.length := by rw [accsL_len, start_len]
              refine Gx.val rfl rfl rfl (val_move rfl rfl) ?_
              refine Gx.val rfl rfl rfl (val_extract rfl rfl rfl) ?_
              refine Gx.val rfl rfl rfl (val_extract rfl rfl rfl) ?_
              refine Gx.val rfl rfl rfl (val_extract rfl rfl rfl) ?_
              refine Gx.val rfl rfl rfl (val_assign rfl rfl) ?_
              refine Gx.val rfl rfl rfl (val_assign rfl rfl) ?_
              refine Gx.val rfl rfl rfl (val_assign rfl rfl) ?_
              refine Gx.done ?_
              refine Gx.thenN ?_
              refine Gx.seq ?_
              refine Gx.regionQ Tryd.mixed (by kernel_rfl) ?_
              refine Gq.val rfl rfl rfl (val_move rfl rfl) ?_
              refine Gq.val rfl rfl rfl (Val.cast (val_eql rfl rfl rfl) (v' := .bool true) rfl) ?_
              refine Gq.val rfl rfl rfl (val_move rfl rfl) ?_
              refine Gq.valg rfl rfl rfl rfl rfl (val_move rfl rfl) ?_
              refine Gq.valg rfl rfl rfl rfl rfl (val_len rfl Tryd.underlying25 rfl (len_base hcv24)) ?_
              refine Gq.valg rfl rfl rfl rfl rfl (val_move rfl rfl) ?_
              refine Gq.valg rfl rfl rfl rfl rfl (val_len rfl Tryd.underlying25 rfl (len_base hs31)) ?_
              refine Gq.valg rfl rfl rfl rfl rfl (val_eql rfl rfl rfl) ?_
              refine Gq.val rfl rfl rfl (val_pickT rfl rfl rfl) ?_
              refine Gq.val rfl rfl rfl (val_move rfl rfl) ?_
              refine Gq.slot (t := 106) (v := .bool true) (look_decT rfl (by simp [codesL_len])) ?_
              refine Gq.valg rfl rfl rfl rfl rfl (val_move rfl rfl) ?_
              refine Gq.valg rfl rfl rfl rfl rfl (val_move rfl rfl) ?_
              obtain ⟨x45, hx45⟩ := get_of_lt (xs := (codesL (start0 money) ((pays.set (k % (pays.length - 1)) x11).set (k % (pays.length - 1) + 1) x10))) (k := k % (pays.length - 1)) (by omega)
              refine Gq.valg rfl rfl rfl rfl rfl (val_ixa rfl Tryd.underlying25 Tryd.ty26 rfl rfl (j := k % (pays.length - 1)) (rfl) (reach_base hcv24 hx45)) ?_
              refine Gq.valg rfl rfl rfl rfl rfl (val_load rfl Tryd.ty26 rfl rfl (cell_base (i := 0) (sz := 1) (j := k % (pays.length - 1)) hcv24 hx45 rfl)) ?_
              refine Gq.valg rfl rfl rfl rfl rfl (val_move rfl rfl) ?_
              refine Gq.valg rfl rfl rfl rfl rfl (val_move rfl rfl) ?_
              refine Gq.valg rfl rfl rfl rfl rfl (val_add rfl rfl rfl (r := ((k % (pays.length - 1) + 1 : Nat) : Int)) (w64 (by omega) (by omega))) ?_
              obtain ⟨x46, hx46⟩ := get_of_lt (xs := (codesL (start0 money) pays)) (k := k % (pays.length - 1) + 1) (by omega)
              refine Gq.valg rfl rfl rfl rfl rfl (val_ixa rfl Tryd.underlying25 Tryd.ty26 rfl rfl (j := k % (pays.length - 1) + 1) (rfl) (reach_base hs31 hx46)) ?_
              refine Gq.valg rfl rfl rfl rfl rfl (val_load rfl Tryd.ty26 rfl rfl (cell_base (i := 0) (sz := 1) (j := k % (pays.length - 1) + 1) hs31 hx46 rfl)) ?_
              refine Gq.valg rfl rfl rfl rfl rfl (val_eql rfl rfl rfl) ?_
              refine Gq.val rfl rfl rfl (val_pickT rfl rfl rfl) ?_
              refine Gq.val rfl rfl rfl (val_move rfl rfl) ?_
              refine Gq.slot (t := 118) (v := .bool true) (look_decT rfl (Option.some.inj (hx45.symm.trans (hap.2.1.trans hx46)))) ?_
              refine Gq.valg rfl rfl rfl rfl rfl (val_move rfl rfl) ?_
              refine Gq.valg rfl rfl rfl rfl rfl (val_move rfl rfl) ?_
              refine Gq.valg rfl rfl rfl rfl rfl (val_add rfl rfl rfl (r := ((k % (pays.length - 1) + 1 : Nat) : Int)) (w64 (by omega) (by omega))) ?_
              obtain ⟨x47, hx47⟩ := get_of_lt (xs := (codesL (start0 money) ((pays.set (k % (pays.length - 1)) x11).set (k % (pays.length - 1) + 1) x10))) (k := k % (pays.length - 1) + 1) (by omega)
              refine Gq.valg rfl rfl rfl rfl rfl (val_ixa rfl Tryd.underlying25 Tryd.ty26 rfl rfl (j := k % (pays.length - 1) + 1) (rfl) (reach_base hcv24 hx47)) ?_
              refine Gq.valg rfl rfl rfl rfl rfl (val_load rfl Tryd.ty26 rfl rfl (cell_base (i := 0) (sz := 1) (j := k % (pays.length - 1) + 1) hcv24 hx47 rfl)) ?_
              refine Gq.valg rfl rfl rfl rfl rfl (val_move rfl rfl) ?_
              refine Gq.valg rfl rfl rfl rfl rfl (val_move rfl rfl) ?_
              obtain ⟨x48, hx48⟩ := get_of_lt (xs := (codesL (start0 money) pays)) (k := k % (pays.length - 1)) (by omega)
              refine Gq.valg rfl rfl rfl rfl rfl (val_ixa rfl Tryd.underlying25 Tryd.ty26 rfl rfl (j := k % (pays.length - 1)) (rfl) (reach_base hs31 hx48)) ?_
              refine Gq.valg rfl rfl rfl rfl rfl (val_load rfl Tryd.ty26 rfl rfl (cell_base (i := 0) (sz := 1) (j := k % (pays.length - 1)) hs31 hx48 rfl)) ?_
              refine Gq.valg rfl rfl rfl rfl rfl (val_eql rfl rfl rfl) ?_
              refine Gq.val rfl rfl rfl (val_pickT rfl rfl rfl) ?_
              refine Gq.val rfl rfl rfl (val_move rfl rfl) ?_
              refine Gq.slot (t := 130) (v := .bool true) (look_decT rfl (Option.some.inj (hx47.symm.trans (hap.2.2.trans hx48)))) ?_
              refine Gq.valg rfl rfl rfl rfl rfl (val_move rfl rfl) ?_
              refine Gq.valg rfl rfl rfl rfl rfl (val_move rfl rfl) ?_
              refine Gq.valg rfl rfl rfl rfl rfl (val_call (vs := [av2, av25]) rfl Tryd.fn9 rfl (fun w H => accounts_same hap.1.symm (hs32.below H.below) (hav25.below H.below))) ?_
              refine Gq.val rfl rfl rfl (val_pickT rfl rfl rfl) ?_
              refine Gq.val rfl rfl rfl (val_assign rfl rfl) ?_
              refine Gq.done ?_
              refine Gx.thenN ?_
              refine Gx.ret ?_
              refine Gx.ret1B hW28 Tryd.results5 rfl ?_
              rfl

theorem apart_any {W : World} {mv pv : Value} {money : List Int} {pays : List Py} {k : Int} (h0 : 0 ≤ k) (h1 : k ≤ 255) (hg : HG W) (hm : SlS FM 1 W mv money) (hp : SlS FP 4 W pv pays) :
    Calls Tryd.prog 5 #[mv, pv, .int .u8 k] W fun e w' => e = .returned (.bool true) ∧ Below W.heap.size W w' := by
  obtain ⟨j, rfl⟩ := Int.eq_ofNat_of_zero_le h0
  by_cases h : OkL money pays.length
  · exact apart_yes hg hm hp (by omega) h
  · exact apart_no hg hm hp (by omega) h
end Go.Proofs.YtbdlpomcmkojmaaDoor
