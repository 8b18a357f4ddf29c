/- Copies put together. The walk. No condition. -/
import Derived.Test.YtfpkfbffpkjgbaaA11
import Derived.Test.YtfpkfbffpkjgbaaA6
namespace Go.Proofs.Ytfpkfbffpkjgbaa
open Go.RowKit
set_option linter.unusedVariables false
set_option linter.unusedSimpArgs false
set_option maxRecDepth 100000

/-- a copy -/
structure Cp where
  cn : List Int
  la : Sp
  ad : List Dt
  go : List Dt
def cp0 : Cp := ⟨[], ⟨0, 0, 0⟩, [], []⟩
def mx2 (x y : Int) : Int := if y > x then y else x
def mx : List Int → List Int → List Int
  | x :: a, y :: b => mx2 x y :: mx a b
  | _, _ => []
theorem mx_at : ∀ {a b : List Int} {i : Nat} {x y : Int}, a[i]? = some x → b[i]? = some y → (mx a b)[i]? = some (mx2 x y)
  | [], _, _, _, _, h, _ => by simp at h
  | _ :: _, [], _, _, _, _, h => by simp at h
  | u :: a, v :: b, 0, x, y, h, h' => by simp at h h'; subst h; subst h'; simp [mx]
  | u :: a, v :: b, i + 1, x, y, h, h' => by simp only [mx, List.getElem?_cons_succ] at h h' ⊢; exact mx_at h h'
theorem mx_len : ∀ {a b : List Int}, a.length ≤ b.length → (mx a b).length = a.length
  | [], [], _ => rfl
  | [], _ :: _, _ => rfl
  | _ :: _, [], h => by simp at h
  | u :: a, v :: b, h => by simp only [mx, List.length_cons] at h ⊢; rw [mx_len (by omega)]
theorem uni_len (xs ys : List Dt) : (uni xs ys).length ≤ xs.length + ys.length := by
  have : ∀ (d : Dt) (l : List Dt), (insD d l).length ≤ l.length + 1 := fun d l => by
    induction l with
    | nil => simp [insD]
    | cons x l ih => unfold insD; split; simp; split; simp; simp only [List.length_cons]; omega
  have h2 : ∀ l : List Dt, (l.foldr insD []).length ≤ l.length := fun l => by
    induction l with
    | nil => simp
    | cons x l ih => rw [List.foldr_cons, List.length_cons]; have := this x (l.foldr insD []); omega
  have := h2 (xs ++ ys)
  rw [List.length_append] at this
  exact this
/-- two copies together -/
def mrg (a b : Cp) : Cp := ⟨mx a.cn b.cn, if 0 < spC b.la a.la then b.la else a.la, uni a.ad b.ad, uni a.go b.go⟩
def mergeC (a b : Cp) : Int × Cp := if spC a.la b.la = 0 ∧ a.la ≠ b.la then (3, cp0) else if big 1 (mrg a b).ad.length (mrg a b).go.length = true then (1, cp0) else (0, mrg a b)
theorem mergeC_form {a b : Cp} (h : spC a.la b.la = 0) (h2 : a.la ≠ b.la) : mergeC a b = (3, cp0) := if_pos ⟨h, h2⟩
theorem mergeC_big {a b : Cp} (h : ¬ (spC a.la b.la = 0 ∧ a.la ≠ b.la)) (h2 : big 1 (uni a.ad b.ad).length (uni a.go b.go).length = true) : mergeC a b = (1, cp0) := by
  unfold mergeC; rw [if_neg h]; exact if_pos h2
theorem mergeC_ok {a b : Cp} {s : Sp} (h : ¬ (spC a.la b.la = 0 ∧ a.la ≠ b.la)) (h2 : big 1 (uni a.ad b.ad).length (uni a.go b.go).length = false) (hs : (if 0 < spC b.la a.la then b.la else a.la) = s) : mergeC a b = (0, ⟨mx a.cn b.cn, s, uni a.ad b.ad, uni a.go b.go⟩) := by
  unfold mergeC; rw [if_neg h, if_neg (by unfold mrg; rw [h2]; decide)]; unfold mrg; rw [hs]
theorem neqSp {x y : Sp} : (!decide (x.n = y.n ∧ x.who = y.who ∧ x.val = y.val)) = decide (x ≠ y) := by
  by_cases h : x = y
  · rw [decide_eq_true (Sp.same.2 h), decide_eq_false (fun e => e h)]; rfl
  · rw [decide_eq_false (fun e => h (Sp.same.1 e)), decide_eq_true h]; rfl
theorem union_ok {W : World} {av bv : Value} {xa xb : List Dt} (ha : SlS FD 3 W av xa) (hb : SlS FD 3 W bv xb) (ra : ∀ x ∈ xa, Rng x) (rb : ∀ x ∈ xb, Rng x) (hl : xa.length + xb.length ≤ 65000) :
    Calls Try.prog 33 #[av, bv] W (Ret W fun v l9 => IsS v ∧ l9 = [Hp.own FD 3 v (uni xa xb)]) := by
  obtain ⟨a1, n1, c1, rfl⟩ := ha.isS
  obtain ⟨a2, n2, c2, rfl⟩ := hb.isS
  exact union_any ha hb ra rb hl
set_option maxHeartbeats 1000000 in
theorem merge_lit {W : World} {ax1 ax2 ax3 ay1 ay2 ay3 : Option Addr} {nx1 nx2 nx3 ny1 ny2 ny3 cx1 cx2 cx3 cy1 cy2 cy3 : Nat} {s t : Sp} {xc yc : List Int} {xa xg ya yg : List Dt} (hxc : SlS FI 1 W (.slice ax1 nx1 cx1) xc) (hxa : SlS FD 3 W (.slice ax2 nx2 cx2) xa) (hxg : SlS FD 3 W (.slice ax3 nx3 cx3) xg) (hyc : SlS FI 1 W (.slice ay1 ny1 cy1) yc) (hya : SlS FD 3 W (.slice ay2 ny2 cy2) ya) (hyg : SlS FD 3 W (.slice ay3 ny3 cy3) yg) (ra : ∀ x ∈ xa, Rng x) (rg : ∀ x ∈ xg, Rng x) (rb : ∀ x ∈ ya, Rng x) (rh : ∀ x ∈ yg, Rng x) (l1 : xa.length ≤ 1000) (l2 : xg.length ≤ 1000) (l3 : ya.length ≤ 1000) (l4 : yg.length ≤ 1000) (hlen : xc.length ≤ yc.length) (hln : xc.length ≤ 1000) :
    Calls Try.prog 19 #[.agg #[.slice ax1 nx1 cx1, .int .i64 s.n, .int .i64 s.who, .int .i64 s.val, .slice ax2 nx2 cx2, .slice ax3 nx3 cx3], .agg #[.slice ay1 ny1 cy1, .int .i64 t.n, .int .i64 t.who, .int .i64 t.val, .slice ay2 ny2 cy2, .slice ay3 ny3 cy3]] W (Ret W fun u l9 => ∃ (p q r : Value) (code : Int) (o : Cp), mergeC ⟨xc, s, xa, xg⟩ ⟨yc, t, ya, yg⟩ = (code, o) ∧ IsS p ∧ IsS q ∧ IsS r ∧ u = .tuple #[.agg #[p, .int .i64 o.la.n, .int .i64 o.la.who, .int .i64 o.la.val, q, r], .int .i64 code] ∧ l9 = [Hp.own FI 1 p o.cn, Hp.own FD 3 q o.ad, Hp.own FD 3 r o.go]) := by
  have hu1 := uni_len xa ya
  have hu2 := uni_len xg yg
  refine Gx.enter (l := []) Try.func19 rfl Try.ntmps19 rfl (Sat.start W) ?_
  refine Gx.know (m' := [(0, .agg #[.slice ax1 nx1 cx1, .int .i64 s.n, .int .i64 s.who, .int .i64 s.val, .slice ax2 nx2 cx2, .slice ax3 nx3 cx3]), (1, .agg #[.slice ay1 ny1 cy1, .int .i64 t.n, .int .i64 t.who, .int .i64 t.val, .slice ay2 ny2 cy2, .slice ay3 ny3 cy3])]) (.cons rfl (.cons rfl .nil)) ?_
  refine Gx.seq ?_
  refine Gx.region ?_
  refine Gx.eff rfl rfl rfl (eff_box rfl rfl (vs := [.slice ax1 nx1 cx1, .int .i64 s.n, .int .i64 s.who, .int .i64 s.val, .slice ax2 nx2 cx2, .slice ax3 nx3 cx3]) rfl) ?_
  rintro _ _ ⟨b1, rfl, rfl⟩
  refine Gx.eff rfl rfl rfl (eff_box rfl rfl (vs := [.slice ay1 ny1 cy1, .int .i64 t.n, .int .i64 t.who, .int .i64 t.val, .slice ay2 ny2 cy2, .slice ay3 ny3 cy3]) rfl) ?_
  rintro _ _ ⟨b2, rfl, rfl⟩
  refine Gx.eff rfl rfl rfl (eff_alloc rfl Try.ty27 (vs := [.slice none 0 0, .int .i64 0, .int .i64 0, .int .i64 0, .slice none 0 0, .slice none 0 0]) rfl) ?_
  rintro _ _ ⟨b3, rfl, rfl⟩
  refine Gx.val rfl rfl rfl (val_assign rfl rfl) ?_
  refine Gx.done ?_
  refine Gx.thenN ?_
  refine Gx.meet (ι := Unit) (fun ξ => (¬ (spC s t = 0 ∧ s ≠ t))) (fun ξ => [(2, ptr b1 0), (3, ptr b2 0), (4, ptr b3 0), (5, .int .i64 0)]) (fun ξ => [Hp.rec_ b3 [.slice none 0 0, .int .i64 0, .int .i64 0, .int .i64 0, .slice none 0 0, .slice none 0 0], Hp.rec_ b2 [.slice ay1 ny1 cy1, .int .i64 t.n, .int .i64 t.who, .int .i64 t.val, .slice ay2 ny2 cy2, .slice ay3 ny3 cy3], Hp.rec_ b1 [.slice ax1 nx1 cx1, .int .i64 s.n, .int .i64 s.who, .int .i64 s.val, .slice ax2 nx2 cx2, .slice ax3 nx3 cx3]]) ?_ ?_
  · refine Gx.seq ?_
    refine Gx.region ?_
    refine Gx.val rfl rfl rfl (Val.cast (val_fieldAddr rfl Try.underlying27 rfl Try.ty24 rfl rfl) (v' := ptr b1 1) rfl) ?_
    refine Gx.val rfl rfl rfl (Val.cast (val_loadA rfl Try.ty24 rfl rfl (us := [.int .i64 s.n, .int .i64 s.who, .int .i64 s.val]) rfl (cells_rec_at (k := 2) (i := 1) (n := 3) rfl rfl)) (v' := .agg #[.int .i64 s.n, .int .i64 s.who, .int .i64 s.val]) rfl) ?_
    refine Gx.val rfl rfl rfl (Val.cast (val_fieldAddr rfl Try.underlying27 rfl Try.ty24 rfl rfl) (v' := ptr b2 1) rfl) ?_
    refine Gx.val rfl rfl rfl (Val.cast (val_loadA rfl Try.ty24 rfl rfl (us := [.int .i64 t.n, .int .i64 t.who, .int .i64 t.val]) rfl (cells_rec_at (k := 1) (i := 1) (n := 3) rfl rfl)) (v' := .agg #[.int .i64 t.n, .int .i64 t.who, .int .i64 t.val]) rfl) ?_
    refine Gx.val rfl rfl rfl (val_call (vs := [.agg #[.int .i64 s.n, .int .i64 s.who, .int .i64 s.val], .agg #[.int .i64 t.n, .int .i64 t.who, .int .i64 t.val]]) rfl Try.fn32 rfl (fun w H => stamps_any s t)) ?_
    refine Gx.val rfl rfl rfl (val_eql rfl rfl rfl) ?_
    refine Gx.val rfl rfl rfl (val_move rfl rfl) ?_
    refine Gx.cases (t := 15) rfl (fun h4 => ?_) (fun h4 => ?_)
    · refine Gx.valg rfl rfl rfl rfl rfl (Val.cast (val_fieldAddr rfl Try.underlying27 rfl Try.ty24 rfl rfl) (v' := ptr b1 1) rfl) ?_
      refine Gx.valg rfl rfl rfl rfl rfl (Val.cast (val_loadA rfl Try.ty24 rfl rfl (us := [.int .i64 s.n, .int .i64 s.who, .int .i64 s.val]) rfl (cells_rec_at (k := 2) (i := 1) (n := 3) rfl rfl)) (v' := .agg #[.int .i64 s.n, .int .i64 s.who, .int .i64 s.val]) rfl) ?_
      refine Gx.valg rfl rfl rfl rfl rfl (Val.cast (val_fieldAddr rfl Try.underlying27 rfl Try.ty24 rfl rfl) (v' := ptr b2 1) rfl) ?_
      refine Gx.valg rfl rfl rfl rfl rfl (Val.cast (val_loadA rfl Try.ty24 rfl rfl (us := [.int .i64 t.n, .int .i64 t.who, .int .i64 t.val]) rfl (cells_rec_at (k := 1) (i := 1) (n := 3) rfl rfl)) (v' := .agg #[.int .i64 t.n, .int .i64 t.who, .int .i64 t.val]) rfl) ?_
      refine Gx.valg rfl rfl rfl rfl rfl (Val.cast (val_neqR rfl rfl rfl (by kernel_rfl) (fun w => eqSp _ _ _ _ _ _ w)) (v' := .bool (decide (s ≠ t))) (congrArg Value.bool neqSp)) ?_
      refine Gx.val rfl rfl rfl (val_pickT rfl rfl rfl) ?_
      refine Gx.done ?_
      refine Gx.thenN ?_
      refine Gx.dec rfl (fun h5 => ?_) (fun h5 => ?_)
      · refine Gx.seq ?_
        refine Gx.region ?_
        refine Gx.val rfl rfl rfl (val_build rfl (qs := []) rfl rfl (fun w => by go_simp) (v := .agg #[.slice none 0 0, .int .i64 0, .int .i64 0, .int .i64 0, .slice none 0 0, .slice none 0 0])) ?_
        refine Gx.eff0 rfl rfl (eff_store rfl Try.ty27 rfl rfl (us := [.slice none 0 0, .int .i64 0, .int .i64 0, .int .i64 0, .slice none 0 0, .slice none 0 0]) rfl rfl rfl (k := 0) rfl (rfl) (vs' := [.slice none 0 0, .int .i64 0, .int .i64 0, .int .i64 0, .slice none 0 0, .slice none 0 0]) (rfl) (l' := [Hp.rec_ b3 [.slice none 0 0, .int .i64 0, .int .i64 0, .int .i64 0, .slice none 0 0, .slice none 0 0], Hp.rec_ b2 [.slice ay1 ny1 cy1, .int .i64 t.n, .int .i64 t.who, .int .i64 t.val, .slice ay2 ny2 cy2, .slice ay3 ny3 cy3], Hp.rec_ b1 [.slice ax1 nx1 cx1, .int .i64 s.n, .int .i64 s.who, .int .i64 s.val, .slice ax2 nx2 cx2, .slice ax3 nx3 cx3]]) rfl) ?_
        rintro _ _ rfl
        refine Gx.val rfl rfl rfl (val_assign rfl rfl) ?_
        refine Gx.done ?_
        refine Gx.thenN ?_
        refine Gx.ret ?_
        refine Gx.thenR ?_
        refine Gx.drop 1 rfl ?_
        refine Gx.drop 1 rfl ?_
        refine Gx.ownNil FD 3 ?_
        refine Gx.ownNil FD 3 ?_
        refine Gx.ownNil FI 1 ?_
        refine Gx.norm (l' := [Hp.own FI 1 (.slice none 0 0) ([]), Hp.own FD 3 (.slice none 0 0) ([]), Hp.own FD 3 (.slice none 0 0) ([]), Hp.rec_ b3 [.slice none 0 0, .int .i64 0, .int .i64 0, .int .i64 0, .slice none 0 0, .slice none 0 0]]) rfl ?_
        refine Gx.retC2d Try.results19 Try.ty27 rfl rfl (us := [.slice none 0 0, .int .i64 0, .int .i64 0, .int .i64 0, .slice none 0 0, .slice none 0 0]) rfl (k := 3) rfl rfl ?_
        exact ⟨_, _, _, _, _, mergeC_form h4 h5, ⟨none, 0, 0, rfl⟩, ⟨none, 0, 0, rfl⟩, ⟨none, 0, 0, rfl⟩, rfl, rfl⟩
      refine Gx.skip ?_
      refine Gx.thenN ?_
      exact Gx.fam () ((fun q => h5 q.2)) ((.cons rfl (.cons rfl (.cons rfl (.cons rfl .nil))))) rfl
    refine Gx.skipg rfl rfl rfl rfl rfl rfl ?_
    refine Gx.skipg rfl rfl rfl rfl rfl rfl ?_
    refine Gx.skipg rfl rfl rfl rfl rfl rfl ?_
    refine Gx.skipg rfl rfl rfl rfl rfl rfl ?_
    refine Gx.skipg rfl rfl rfl rfl rfl rfl ?_
    refine Gx.val rfl rfl rfl (val_pickF rfl rfl rfl) ?_
    refine Gx.done ?_
    refine Gx.thenN ?_
    refine Gx.f rfl ?_
    refine Gx.skip ?_
    refine Gx.thenN ?_
    exact Gx.fam () ((fun q => h4 q.1)) ((.cons rfl (.cons rfl (.cons rfl (.cons rfl .nil))))) rfl
  rintro _ hform
  refine Gx.know (m' := [(2, ptr b1 0), (3, ptr b2 0), (4, ptr b3 0), (5, .int .i64 0)]) (.cons rfl (.cons rfl (.cons rfl (.cons rfl .nil)))) (Gx.norm (l' := [Hp.rec_ b3 [.slice none 0 0, .int .i64 0, .int .i64 0, .int .i64 0, .slice none 0 0, .slice none 0 0], Hp.rec_ b2 [.slice ay1 ny1 cy1, .int .i64 t.n, .int .i64 t.who, .int .i64 t.val, .slice ay2 ny2 cy2, .slice ay3 ny3 cy3], Hp.rec_ b1 [.slice ax1 nx1 cx1, .int .i64 s.n, .int .i64 s.who, .int .i64 s.val, .slice ax2 nx2 cx2, .slice ax3 nx3 cx3]]) rfl ?_)
  refine Gx.seq ?_
  -- region 3, in whatever order
  refine Gx.ones 7 (Gx.norm (l' := [Hp.rec_ b3 [.slice none 0 0, .int .i64 0, .int .i64 0, .int .i64 0, .slice none 0 0, .slice none 0 0], Hp.rec_ b2 [.slice ay1 ny1 cy1, .int .i64 t.n, .int .i64 t.who, .int .i64 t.val, .slice ay2 ny2 cy2, .slice ay3 ny3 cy3], Hp.rec_ b1 [.slice ax1 nx1 cx1, .int .i64 s.n, .int .i64 s.who, .int .i64 s.val, .slice ax2 nx2 cx2, .slice ax3 nx3 cx3], 1, 1, 1, 1, 1, 1, 1]) rfl ?_)
  obtain ⟨pp6x3, pp6x3e⟩ : ∃ p : Done → Hp, p = fun d => cond (dn d 6) (Hp.own FD 3 (dv d 6) (uni xa ya)) (1) := ⟨_, rfl⟩
  obtain ⟨pp6x4, pp6x4e⟩ : ∃ p : Done → Hp, p = fun d => cond (dn d 11) (Hp.own FD 3 (dv d 11) (uni xg yg)) (1) := ⟨_, rfl⟩
  obtain ⟨pp6x5, pp6x5e⟩ : ∃ p : Done → Hp, p = fun d => cond (dn d 14) (Hp.rec_ (pB (dv d 13)) [.slice none 0 0, .int .i64 s.n, .int .i64 s.who, .int .i64 s.val, (dv d 6), (dv d 11)]) (cond (dn d 13) (Hp.rec_ (pB (dv d 13)) [.slice none 0 0, .int .i64 0, .int .i64 0, .int .i64 0, .slice none 0 0, .slice none 0 0]) (1)) := ⟨_, rfl⟩
  obtain ⟨pp6x6, pp6x6e⟩ : ∃ p : Done → Hp, p = fun d => cond (dn d 6) (Hp.pure (IsS (dv d 6))) 1 := ⟨_, rfl⟩
  obtain ⟨pp6x7, pp6x7e⟩ : ∃ p : Done → Hp, p = fun d => cond (dn d 11) (Hp.pure (IsS (dv d 11))) 1 := ⟨_, rfl⟩
  obtain ⟨pp6x8, pp6x8e⟩ : ∃ p : Done → Hp, p = fun d => cond (dn d 12) (Hp.pure (dv d 12 = .agg #[.slice none 0 0, .int .i64 s.n, .int .i64 s.who, .int .i64 s.val, (dv d 6), (dv d 11)])) 1 := ⟨_, rfl⟩
  obtain ⟨pp6x9, pp6x9e⟩ : ∃ p : Done → Hp, p = fun d => cond (dn d 13) (Hp.pure (dv d 13 = ptr (pB (dv d 13)) 0)) 1 := ⟨_, rfl⟩
  refine Gx.regionF [6, 11, 12, 13, 14] [0, 1, 2, 3, 4, 5, 7, 8, 9, 10] (fun ιi => cond (Nat.beq ιi 10) [Hp.rec_ b2 [.slice ay1 ny1 cy1, .int .i64 t.n, .int .i64 t.who, .int .i64 t.val, .slice ay2 ny2 cy2, .slice ay3 ny3 cy3]] (cond (Nat.beq ιi 8) [Hp.rec_ b1 [.slice ax1 nx1 cx1, .int .i64 s.n, .int .i64 s.who, .int .i64 s.val, .slice ax2 nx2 cx2, .slice ax3 nx3 cx3]] (cond (Nat.beq ιi 5) [Hp.rec_ b2 [.slice ay1 ny1 cy1, .int .i64 t.n, .int .i64 t.who, .int .i64 t.val, .slice ay2 ny2 cy2, .slice ay3 ny3 cy3]] (cond (Nat.beq ιi 3) [Hp.rec_ b1 [.slice ax1 nx1 cx1, .int .i64 s.n, .int .i64 s.who, .int .i64 s.val, .slice ax2 nx2 cx2, .slice ax3 nx3 cx3]] (cond (Nat.beq ιi 1) [Hp.rec_ b1 [.slice ax1 nx1 cx1, .int .i64 s.n, .int .i64 s.who, .int .i64 s.val, .slice ax2 nx2 cx2, .slice ax3 nx3 cx3]] ([])))))) (fun d => [Hp.rec_ b3 [.slice none 0 0, .int .i64 0, .int .i64 0, .int .i64 0, .slice none 0 0, .slice none 0 0], Hp.rec_ b2 [.slice ay1 ny1 cy1, .int .i64 t.n, .int .i64 t.who, .int .i64 t.val, .slice ay2 ny2 cy2, .slice ay3 ny3 cy3], Hp.rec_ b1 [.slice ax1 nx1 cx1, .int .i64 s.n, .int .i64 s.who, .int .i64 s.val, .slice ax2 nx2 cx2, .slice ax3 nx3 cx3], pp6x3 d, pp6x4 d, pp6x5 d, pp6x6 d, pp6x7 d, pp6x8 d, pp6x9 d]) Try.mixed (by kernel_rfl) (by kernel_rfl) (by rw [pp6x3e]; rw [pp6x4e]; rw [pp6x5e]; rw [pp6x6e]; rw [pp6x7e]; rw [pp6x8e]; rw [pp6x9e]; rfl) ?_ ?_
  · intro ιi d w hc hs H
    by_cases hn1 : ιi = 1
    · subst hn1
      exact H.only (k := 2) rfl rfl
    · by_cases hn3 : ιi = 3
      · subst hn3
        exact H.only (k := 2) rfl rfl
      · by_cases hn5 : ιi = 5
        · subst hn5
          exact H.only (k := 1) rfl rfl
        · by_cases hn8 : ιi = 8
          · subst hn8
            exact H.only (k := 2) rfl rfl
          · by_cases hn10 : ιi = 10
            · subst hn10
              exact H.only (k := 1) rfl rfl
            · refine Sat.listed (l := []) H.noneL ?_
              simp only [beq_no hn1, beq_no hn3, beq_no hn5, beq_no hn8, beq_no hn10, cond_false]
  refine Gp.val rfl rfl rfl rfl (Val.cast (val_fieldAddr rfl Try.underlying27 rfl Try.ty24 rfl rfl) (v' := ptr b1 1) rfl) ?_
  refine Gp.val rfl rfl rfl rfl (Val.cast (val_loadA rfl Try.ty24 rfl rfl (us := [.int .i64 s.n, .int .i64 s.who, .int .i64 s.val]) rfl (cells_rec_at (k := 0) (i := 1) (n := 3) rfl rfl)) (v' := .agg #[.int .i64 s.n, .int .i64 s.who, .int .i64 s.val]) rfl) ?_
  refine Gp.val rfl rfl rfl rfl (Val.cast (val_fieldAddr rfl Try.underlying27 rfl Try.ty25 rfl rfl) (v' := ptr b1 4) rfl) ?_
  refine Gp.val rfl rfl rfl rfl (val_load rfl Try.ty25 rfl rfl (cell_rec (k := 0) rfl rfl)) ?_
  refine Gp.val rfl rfl rfl rfl (Val.cast (val_fieldAddr rfl Try.underlying27 rfl Try.ty25 rfl rfl) (v' := ptr b2 4) rfl) ?_
  refine Gp.val rfl rfl rfl rfl (val_load rfl Try.ty25 rfl rfl (cell_rec (k := 0) rfl rfl)) ?_
  refine Gp.val rfl rfl rfl rfl (Val.cast (val_fieldAddr rfl Try.underlying27 rfl Try.ty25 rfl rfl) (v' := ptr b1 5) rfl) ?_
  refine Gp.val rfl rfl rfl rfl (val_load rfl Try.ty25 rfl rfl (cell_rec (k := 0) rfl rfl)) ?_
  refine Gp.val rfl rfl rfl rfl (Val.cast (val_fieldAddr rfl Try.underlying27 rfl Try.ty25 rfl rfl) (v' := ptr b2 5) rfl) ?_
  refine Gp.val rfl rfl rfl rfl (val_load rfl Try.ty25 rfl rfl (cell_rec (k := 0) rfl rfl)) ?_
  refine Gp.done (uniq_of (by kernel_rfl)) (by rfl) (by kernel_rfl) ⟨⟨_, rfl, ?_⟩, ⟨_, rfl, ?_⟩, ⟨_, rfl, ?_⟩, ⟨_, rfl, ?_⟩, ⟨_, rfl, ?_⟩, trivial⟩ ?_
  · intro d hc hdi hpre a w hf H
    change Sat _ _ (sep [Hp.rec_ b3 [.slice none 0 0, .int .i64 0, .int .i64 0, .int .i64 0, .slice none 0 0, .slice none 0 0], Hp.rec_ b2 [.slice ay1 ny1 cy1, .int .i64 t.n, .int .i64 t.who, .int .i64 t.val, .slice ay2 ny2 cy2, .slice ay3 ny3 cy3], Hp.rec_ b1 [.slice ax1 nx1 cx1, .int .i64 s.n, .int .i64 s.who, .int .i64 s.val, .slice ax2 nx2 cx2, .slice ax3 nx3 cx3], pp6x3 d, pp6x4 d, pp6x5 d, pp6x6 d, pp6x7 d, pp6x8 d, pp6x9 d]) at H
    have q6 := hdi
    have q11 : dn d 11 = false := hc.not 11 6 rfl (by kernel_rfl) q6
    have q12 : dn d 12 = false := hc.not 12 6 rfl (by kernel_rfl) q6
    have q14 : dn d 14 = false := hc.not 14 6 rfl (by kernel_rfl) q6
    have n3 : pp6x3 d = 1 := by rw [pp6x3e]; simp only [q6, cond_true, cond_false]
    have n4 : pp6x4 d = 1 := by rw [pp6x4e]; simp only [q11, cond_true, cond_false]
    have n6 : pp6x6 d = 1 := by rw [pp6x6e]; simp only [q6, cond_true, cond_false]
    have n7 : pp6x7 d = 1 := by rw [pp6x7e]; simp only [q11, cond_true, cond_false]
    have n8 : pp6x8 d = 1 := by rw [pp6x8e]; simp only [q12, cond_true, cond_false]
    rw [n3, n4, n6, n7, n8] at H
    refine EffAt.mono (Eff.at_ hf.slots H (eff_callV1 (S := IsS) (p := fun v => Hp.own FD 3 v (uni xa ya)) (vs := [.slice ax2 nx2 cx2, .slice ay2 ny2 cy2]) rfl Try.fn33 rfl (fun w H => union_ok (hxa.below H.below) (hya.below H.below) ra rb (by omega)))) ?_
    rintro uv7 w2 ⟨_, ⟨hiuv7, rfl⟩, H2⟩
    have H2 := Sat.fillAt H2 (k := 3) rfl
    have H2 := (Sat.pureI hiuv7 H2).fillAt (k := 6) rfl
    obtain ⟨d2, hd2⟩ : ∃ d2, d2 = upd d 6 (uv7) := ⟨_, rfl⟩
    have m6 : dn d2 6 = true := by rw [hd2]; rfl
    have m11 : dn d2 11 = false := by rw [hd2]; exact q11
    have m12 : dn d2 12 = false := by rw [hd2]; exact q12
    have m14 : dn d2 14 = false := by rw [hd2]; exact q14
    rw [← hd2]
    change Sat _ _ (sep [Hp.rec_ b3 [.slice none 0 0, .int .i64 0, .int .i64 0, .int .i64 0, .slice none 0 0, .slice none 0 0], Hp.rec_ b2 [.slice ay1 ny1 cy1, .int .i64 t.n, .int .i64 t.who, .int .i64 t.val, .slice ay2 ny2 cy2, .slice ay3 ny3 cy3], Hp.rec_ b1 [.slice ax1 nx1 cx1, .int .i64 s.n, .int .i64 s.who, .int .i64 s.val, .slice ax2 nx2 cx2, .slice ax3 nx3 cx3], pp6x3 d2, pp6x4 d2, pp6x5 d2, pp6x6 d2, pp6x7 d2, pp6x8 d2, pp6x9 d2])
    have u3 := congrFun pp6x3e d2
    simp only [m6, cond_true, cond_false] at u3
    have u4 := congrFun pp6x4e d2
    simp only [m11, cond_true, cond_false] at u4
    have u5 : pp6x5 d2 = pp6x5 d := by rw [pp6x5e]; simp only [m14, q14, cond_true, cond_false] <;> rw [hd2] <;> rfl
    have u6 := congrFun pp6x6e d2
    simp only [m6, cond_true, cond_false] at u6
    have u7 := congrFun pp6x7e d2
    simp only [m11, cond_true, cond_false] at u7
    have u8 := congrFun pp6x8e d2
    simp only [m12, cond_true, cond_false] at u8
    have u9 : pp6x9 d2 = pp6x9 d := by rw [hd2, pp6x9e]; rfl
    rw [u3, u4, u5, u6, u7, u8, u9]
    subst hd2
    exact H2
  · intro d hc hdi hpre a w hf H
    change Sat _ _ (sep [Hp.rec_ b3 [.slice none 0 0, .int .i64 0, .int .i64 0, .int .i64 0, .slice none 0 0, .slice none 0 0], Hp.rec_ b2 [.slice ay1 ny1 cy1, .int .i64 t.n, .int .i64 t.who, .int .i64 t.val, .slice ay2 ny2 cy2, .slice ay3 ny3 cy3], Hp.rec_ b1 [.slice ax1 nx1 cx1, .int .i64 s.n, .int .i64 s.who, .int .i64 s.val, .slice ax2 nx2 cx2, .slice ax3 nx3 cx3], pp6x3 d, pp6x4 d, pp6x5 d, pp6x6 d, pp6x7 d, pp6x8 d, pp6x9 d]) at H
    have q6 : dn d 6 = true := hpre 6 (by kernel_rfl)
    have q11 := hdi
    have q12 : dn d 12 = false := hc.not 12 11 rfl (by kernel_rfl) q11
    have q14 : dn d 14 = false := hc.not 14 11 rfl (by kernel_rfl) q11
    have e6 : IsS (dv d 6) := H.factAt (k := 6) rfl (by rw [pp6x6e]; simp only [q6, cond_true])
    have n3 : pp6x3 d = Hp.own FD 3 (dv d 6) (uni xa ya) := by rw [pp6x3e]; simp only [q6, cond_true, cond_false]
    have n4 : pp6x4 d = 1 := by rw [pp6x4e]; simp only [q11, cond_true, cond_false]
    have n7 : pp6x7 d = 1 := by rw [pp6x7e]; simp only [q11, cond_true, cond_false]
    have n8 : pp6x8 d = 1 := by rw [pp6x8e]; simp only [q12, cond_true, cond_false]
    rw [n3, n4, n7, n8] at H
    refine EffAt.mono (Eff.at_ hf.slots H (eff_callV1 (S := IsS) (p := fun v => Hp.own FD 3 v (uni xg yg)) (vs := [.slice ax3 nx3 cx3, .slice ay3 ny3 cy3]) rfl Try.fn33 rfl (fun w H => union_ok (hxg.below H.below) (hyg.below H.below) rg rh (by omega)))) ?_
    rintro uv8 w2 ⟨_, ⟨hiuv8, rfl⟩, H2⟩
    have H2 := Sat.fillAt H2 (k := 4) rfl
    have H2 := (Sat.pureI hiuv8 H2).fillAt (k := 7) rfl
    obtain ⟨d2, hd2⟩ : ∃ d2, d2 = upd d 11 (uv8) := ⟨_, rfl⟩
    have m11 : dn d2 11 = true := by rw [hd2]; rfl
    have m6 : dn d2 6 = true := by rw [hd2]; exact q6
    have m12 : dn d2 12 = false := by rw [hd2]; exact q12
    have m14 : dn d2 14 = false := by rw [hd2]; exact q14
    rw [← hd2]
    change Sat _ _ (sep [Hp.rec_ b3 [.slice none 0 0, .int .i64 0, .int .i64 0, .int .i64 0, .slice none 0 0, .slice none 0 0], Hp.rec_ b2 [.slice ay1 ny1 cy1, .int .i64 t.n, .int .i64 t.who, .int .i64 t.val, .slice ay2 ny2 cy2, .slice ay3 ny3 cy3], Hp.rec_ b1 [.slice ax1 nx1 cx1, .int .i64 s.n, .int .i64 s.who, .int .i64 s.val, .slice ax2 nx2 cx2, .slice ax3 nx3 cx3], pp6x3 d2, pp6x4 d2, pp6x5 d2, pp6x6 d2, pp6x7 d2, pp6x8 d2, pp6x9 d2])
    have u3 := congrFun pp6x3e d2
    simp only [m6, cond_true, cond_false] at u3
    have u4 := congrFun pp6x4e d2
    simp only [m11, cond_true, cond_false] at u4
    have u5 : pp6x5 d2 = pp6x5 d := by rw [pp6x5e]; simp only [m14, q14, cond_true, cond_false] <;> rw [hd2] <;> rfl
    have u6 : pp6x6 d2 = pp6x6 d := by rw [hd2, pp6x6e]; rfl
    have u7 := congrFun pp6x7e d2
    simp only [m11, cond_true, cond_false] at u7
    have u8 := congrFun pp6x8e d2
    simp only [m12, cond_true, cond_false] at u8
    have u9 : pp6x9 d2 = pp6x9 d := by rw [hd2, pp6x9e]; rfl
    rw [u3, u4, u5, u6, u7, u8, u9]
    subst hd2
    exact H2
  · intro d hc hdi hpre a w hf H
    change Sat _ _ (sep [Hp.rec_ b3 [.slice none 0 0, .int .i64 0, .int .i64 0, .int .i64 0, .slice none 0 0, .slice none 0 0], Hp.rec_ b2 [.slice ay1 ny1 cy1, .int .i64 t.n, .int .i64 t.who, .int .i64 t.val, .slice ay2 ny2 cy2, .slice ay3 ny3 cy3], Hp.rec_ b1 [.slice ax1 nx1 cx1, .int .i64 s.n, .int .i64 s.who, .int .i64 s.val, .slice ax2 nx2 cx2, .slice ax3 nx3 cx3], pp6x3 d, pp6x4 d, pp6x5 d, pp6x6 d, pp6x7 d, pp6x8 d, pp6x9 d]) at H
    have q6 : dn d 6 = true := hpre 6 (by kernel_rfl)
    have q11 : dn d 11 = true := hpre 11 (by kernel_rfl)
    have q12 := hdi
    have q14 : dn d 14 = false := hc.not 14 12 rfl (by kernel_rfl) q12
    have e6 : IsS (dv d 6) := H.factAt (k := 6) rfl (by rw [pp6x6e]; simp only [q6, cond_true])
    have e11 : IsS (dv d 11) := H.factAt (k := 7) rfl (by rw [pp6x7e]; simp only [q11, cond_true])
    have n3 : pp6x3 d = Hp.own FD 3 (dv d 6) (uni xa ya) := by rw [pp6x3e]; simp only [q6, cond_true, cond_false]
    have n4 : pp6x4 d = Hp.own FD 3 (dv d 11) (uni xg yg) := by rw [pp6x4e]; simp only [q11, cond_true, cond_false]
    have n8 : pp6x8 d = 1 := by rw [pp6x8e]; simp only [q12, cond_true, cond_false]
    rw [n3, n4, n8] at H
    have s6 := hf.add hf.slots 6 rfl (by kernel_rfl) rfl q6 (v := (dv d 6)) rfl
    have s11 := hf.add s6 11 rfl (by kernel_rfl) rfl q11 (v := (dv d 11)) rfl
    refine EffAt.mono (Val.eff (v := .agg #[.slice none 0 0, .int .i64 s.n, .int .i64 s.who, .int .i64 s.val, (dv d 6), (dv d 11)]) (val_build rfl (qs := [(1, .agg #[.int .i64 s.n, .int .i64 s.who, .int .i64 s.val]), (2, (dv d 6)), (3, (dv d 11))]) rfl rfl (fun w => (show ∀ z90 z91 : Value, IsS z90 → IsS z91 → (Instr.build 27 #[(1, .agg #[.int .i64 s.n, .int .i64 s.who, .int .i64 s.val]), (2, z90), (3, z91)]).run Try.prog w = .ok (.agg #[.slice none 0 0, .int .i64 s.n, .int .i64 s.who, .int .i64 s.val, z90, z91]) w from by clear e6 e11; rintro _ _ ⟨_, _, _, rfl⟩ ⟨_, _, _, rfl⟩; go_simp) _ _ e6 e11) (v := .agg #[.slice none 0 0, .int .i64 s.n, .int .i64 s.who, .int .i64 s.val, (dv d 6), (dv d 11)])) s11 H) ?_
    rintro _ w2 ⟨rfl, H2⟩
    have H2 := (Sat.pureI (p := (.agg #[.slice none 0 0, .int .i64 s.n, .int .i64 s.who, .int .i64 s.val, (dv d 6), (dv d 11)] : Value) = .agg #[.slice none 0 0, .int .i64 s.n, .int .i64 s.who, .int .i64 s.val, (dv d 6), (dv d 11)]) rfl H2).fillAt (k := 8) rfl
    obtain ⟨d2, hd2⟩ : ∃ d2, d2 = upd d 12 (.agg #[.slice none 0 0, .int .i64 s.n, .int .i64 s.who, .int .i64 s.val, (dv d 6), (dv d 11)]) := ⟨_, rfl⟩
    have m12 : dn d2 12 = true := by rw [hd2]; rfl
    have m6 : dn d2 6 = true := by rw [hd2]; exact q6
    have m11 : dn d2 11 = true := by rw [hd2]; exact q11
    have m14 : dn d2 14 = false := by rw [hd2]; exact q14
    rw [← hd2]
    change Sat _ _ (sep [Hp.rec_ b3 [.slice none 0 0, .int .i64 0, .int .i64 0, .int .i64 0, .slice none 0 0, .slice none 0 0], Hp.rec_ b2 [.slice ay1 ny1 cy1, .int .i64 t.n, .int .i64 t.who, .int .i64 t.val, .slice ay2 ny2 cy2, .slice ay3 ny3 cy3], Hp.rec_ b1 [.slice ax1 nx1 cx1, .int .i64 s.n, .int .i64 s.who, .int .i64 s.val, .slice ax2 nx2 cx2, .slice ax3 nx3 cx3], pp6x3 d2, pp6x4 d2, pp6x5 d2, pp6x6 d2, pp6x7 d2, pp6x8 d2, pp6x9 d2])
    have u3 := congrFun pp6x3e d2
    simp only [m6, cond_true, cond_false] at u3
    have u4 := congrFun pp6x4e d2
    simp only [m11, cond_true, cond_false] at u4
    have u5 : pp6x5 d2 = pp6x5 d := by rw [pp6x5e]; simp only [m14, q14, cond_true, cond_false] <;> rw [hd2] <;> rfl
    have u6 : pp6x6 d2 = pp6x6 d := by rw [hd2, pp6x6e]; rfl
    have u7 : pp6x7 d2 = pp6x7 d := by rw [hd2, pp6x7e]; rfl
    have u8 := congrFun pp6x8e d2
    simp only [m12, cond_true, cond_false] at u8
    have u9 : pp6x9 d2 = pp6x9 d := by rw [hd2, pp6x9e]; rfl
    rw [u3, u4, u5, u6, u7, u8, u9]
    subst hd2
    exact H2
  · intro d hc hdi hpre a w hf H
    change Sat _ _ (sep [Hp.rec_ b3 [.slice none 0 0, .int .i64 0, .int .i64 0, .int .i64 0, .slice none 0 0, .slice none 0 0], Hp.rec_ b2 [.slice ay1 ny1 cy1, .int .i64 t.n, .int .i64 t.who, .int .i64 t.val, .slice ay2 ny2 cy2, .slice ay3 ny3 cy3], Hp.rec_ b1 [.slice ax1 nx1 cx1, .int .i64 s.n, .int .i64 s.who, .int .i64 s.val, .slice ax2 nx2 cx2, .slice ax3 nx3 cx3], pp6x3 d, pp6x4 d, pp6x5 d, pp6x6 d, pp6x7 d, pp6x8 d, pp6x9 d]) at H
    have q13 := hdi
    have q14 : dn d 14 = false := hc.not 14 13 rfl (by kernel_rfl) q13
    have n5 : pp6x5 d = 1 := by rw [pp6x5e]; simp only [q13, q14, cond_true, cond_false]
    have n9 : pp6x9 d = 1 := by rw [pp6x9e]; simp only [q13, cond_true, cond_false]
    rw [n5, n9] at H
    refine EffAt.mono (Eff.at_ hf.slots H (eff_alloc rfl Try.ty27 (vs := [.slice none 0 0, .int .i64 0, .int .i64 0, .int .i64 0, .slice none 0 0, .slice none 0 0]) rfl)) ?_
    rintro _ w2 ⟨_, ⟨b9, rfl, rfl⟩, H2⟩
    have H2 := Sat.fillAt H2 (k := 5) rfl
    have H2 := (Sat.pureI (p := (ptr b9 0 : Value) = ptr b9 0) rfl H2).fillAt (k := 9) rfl
    obtain ⟨d2, hd2⟩ : ∃ d2, d2 = upd d 13 (ptr b9 0) := ⟨_, rfl⟩
    have m13 : dn d2 13 = true := by rw [hd2]; rfl
    have m14 : dn d2 14 = false := by rw [hd2]; exact q14
    rw [← hd2]
    change Sat _ _ (sep [Hp.rec_ b3 [.slice none 0 0, .int .i64 0, .int .i64 0, .int .i64 0, .slice none 0 0, .slice none 0 0], Hp.rec_ b2 [.slice ay1 ny1 cy1, .int .i64 t.n, .int .i64 t.who, .int .i64 t.val, .slice ay2 ny2 cy2, .slice ay3 ny3 cy3], Hp.rec_ b1 [.slice ax1 nx1 cx1, .int .i64 s.n, .int .i64 s.who, .int .i64 s.val, .slice ax2 nx2 cx2, .slice ax3 nx3 cx3], pp6x3 d2, pp6x4 d2, pp6x5 d2, pp6x6 d2, pp6x7 d2, pp6x8 d2, pp6x9 d2])
    have u3 : pp6x3 d2 = pp6x3 d := by rw [hd2, pp6x3e]; rfl
    have u4 : pp6x4 d2 = pp6x4 d := by rw [hd2, pp6x4e]; rfl
    have u5 := congrFun pp6x5e d2
    simp only [m13, m14, cond_true, cond_false] at u5
    have u6 : pp6x6 d2 = pp6x6 d := by rw [hd2, pp6x6e]; rfl
    have u7 : pp6x7 d2 = pp6x7 d := by rw [hd2, pp6x7e]; rfl
    have u8 : pp6x8 d2 = pp6x8 d := by rw [hd2, pp6x8e]; rfl
    have u9 := congrFun pp6x9e d2
    simp only [m13, cond_true, cond_false] at u9
    rw [u3, u4, u5, u6, u7, u8, u9]
    subst hd2
    exact H2
  · intro d hc hdi hpre a w hf H
    change Sat _ _ (sep [Hp.rec_ b3 [.slice none 0 0, .int .i64 0, .int .i64 0, .int .i64 0, .slice none 0 0, .slice none 0 0], Hp.rec_ b2 [.slice ay1 ny1 cy1, .int .i64 t.n, .int .i64 t.who, .int .i64 t.val, .slice ay2 ny2 cy2, .slice ay3 ny3 cy3], Hp.rec_ b1 [.slice ax1 nx1 cx1, .int .i64 s.n, .int .i64 s.who, .int .i64 s.val, .slice ax2 nx2 cx2, .slice ax3 nx3 cx3], pp6x3 d, pp6x4 d, pp6x5 d, pp6x6 d, pp6x7 d, pp6x8 d, pp6x9 d]) at H
    have q13 : dn d 13 = true := hpre 13 (by kernel_rfl)
    have q12 : dn d 12 = true := hpre 12 (by kernel_rfl)
    have q11 : dn d 11 = true := hpre 11 (by kernel_rfl)
    have q6 : dn d 6 = true := hpre 6 (by kernel_rfl)
    have q11 : dn d 11 = true := hpre 11 (by kernel_rfl)
    have q12 : dn d 12 = true := hpre 12 (by kernel_rfl)
    have q13 : dn d 13 = true := hpre 13 (by kernel_rfl)
    have q14 := hdi
    have e13 : dv d 13 = ptr (pB (dv d 13)) 0 := H.factAt (k := 9) rfl (by rw [pp6x9e]; simp only [q13, cond_true])
    have e12 : dv d 12 = .agg #[.slice none 0 0, .int .i64 s.n, .int .i64 s.who, .int .i64 s.val, (dv d 6), (dv d 11)] := H.factAt (k := 8) rfl (by rw [pp6x8e]; simp only [q12, cond_true])
    have e11 : IsS (dv d 11) := H.factAt (k := 7) rfl (by rw [pp6x7e]; simp only [q11, cond_true])
    have e6 : IsS (dv d 6) := H.factAt (k := 6) rfl (by rw [pp6x6e]; simp only [q6, cond_true])
    have n3 : pp6x3 d = Hp.own FD 3 (dv d 6) (uni xa ya) := by rw [pp6x3e]; simp only [q6, cond_true, cond_false]
    have n4 : pp6x4 d = Hp.own FD 3 (dv d 11) (uni xg yg) := by rw [pp6x4e]; simp only [q11, cond_true, cond_false]
    have n5 : pp6x5 d = Hp.rec_ (pB (dv d 13)) [.slice none 0 0, .int .i64 0, .int .i64 0, .int .i64 0, .slice none 0 0, .slice none 0 0] := by rw [pp6x5e]; simp only [q13, q14, cond_true, cond_false]
    rw [n3, n4, n5] at H
    have s13 := hf.add hf.slots 13 rfl (by kernel_rfl) rfl q13 (v := ptr (pB (dv d 13)) 0) e13
    have s12 := hf.add s13 12 rfl (by kernel_rfl) rfl q12 (v := .agg #[.slice none 0 0, .int .i64 s.n, .int .i64 s.who, .int .i64 s.val, (dv d 6), (dv d 11)]) e12
    refine EffAt.mono (Eff.at_ s12 H (eff_store rfl Try.ty27 rfl rfl (us := [.slice none 0 0, .int .i64 s.n, .int .i64 s.who, .int .i64 s.val, (dv d 6), (dv d 11)]) rfl rfl (by simp only [List.all_cons, List.all_nil, Bool.true_and, Bool.and_true, IsS.one e6, IsS.one e11] <;> rfl) (k := 5) rfl (rfl) (vs' := [.slice none 0 0, .int .i64 s.n, .int .i64 s.who, .int .i64 s.val, (dv d 6), (dv d 11)]) (rfl) (l' := [Hp.rec_ b3 [.slice none 0 0, .int .i64 0, .int .i64 0, .int .i64 0, .slice none 0 0, .slice none 0 0], Hp.rec_ b2 [.slice ay1 ny1 cy1, .int .i64 t.n, .int .i64 t.who, .int .i64 t.val, .slice ay2 ny2 cy2, .slice ay3 ny3 cy3], Hp.rec_ b1 [.slice ax1 nx1 cx1, .int .i64 s.n, .int .i64 s.who, .int .i64 s.val, .slice ax2 nx2 cx2, .slice ax3 nx3 cx3], Hp.own FD 3 (dv d 6) (uni xa ya), Hp.own FD 3 (dv d 11) (uni xg yg), Hp.rec_ (pB (dv d 13)) [.slice none 0 0, .int .i64 s.n, .int .i64 s.who, .int .i64 s.val, (dv d 6), (dv d 11)], pp6x6 d, pp6x7 d, pp6x8 d, pp6x9 d]) rfl)) ?_
    rintro v w2 ⟨_, rfl, H2⟩
    obtain ⟨d2, hd2⟩ : ∃ d2, d2 = upd d 14 v := ⟨_, rfl⟩
    have m14 : dn d2 14 = true := by rw [hd2]; rfl
    have m13 : dn d2 13 = true := by rw [hd2]; exact q13
    have m12 : dn d2 12 = true := by rw [hd2]; exact q12
    have m11 : dn d2 11 = true := by rw [hd2]; exact q11
    have m6 : dn d2 6 = true := by rw [hd2]; exact q6
    rw [← hd2]
    change Sat _ _ (sep [Hp.rec_ b3 [.slice none 0 0, .int .i64 0, .int .i64 0, .int .i64 0, .slice none 0 0, .slice none 0 0], Hp.rec_ b2 [.slice ay1 ny1 cy1, .int .i64 t.n, .int .i64 t.who, .int .i64 t.val, .slice ay2 ny2 cy2, .slice ay3 ny3 cy3], Hp.rec_ b1 [.slice ax1 nx1 cx1, .int .i64 s.n, .int .i64 s.who, .int .i64 s.val, .slice ax2 nx2 cx2, .slice ax3 nx3 cx3], pp6x3 d2, pp6x4 d2, pp6x5 d2, pp6x6 d2, pp6x7 d2, pp6x8 d2, pp6x9 d2])
    have u3 := congrFun pp6x3e d2
    simp only [m6, cond_true, cond_false] at u3
    have u4 := congrFun pp6x4e d2
    simp only [m11, cond_true, cond_false] at u4
    have u5 := congrFun pp6x5e d2
    simp only [m13, m14, cond_true, cond_false] at u5
    have u6 : pp6x6 d2 = pp6x6 d := by rw [hd2, pp6x6e]; rfl
    have u7 : pp6x7 d2 = pp6x7 d := by rw [hd2, pp6x7e]; rfl
    have u8 : pp6x8 d2 = pp6x8 d := by rw [hd2, pp6x8e]; rfl
    have u9 : pp6x9 d2 = pp6x9 d := by rw [hd2, pp6x9e]; rfl
    rw [u3, u4, u5, u6, u7, u8, u9]
    subst hd2
    exact H2
  · intro d hc hall a hf w H
    change Sat _ _ (sep [Hp.rec_ b3 [.slice none 0 0, .int .i64 0, .int .i64 0, .int .i64 0, .slice none 0 0, .slice none 0 0], Hp.rec_ b2 [.slice ay1 ny1 cy1, .int .i64 t.n, .int .i64 t.who, .int .i64 t.val, .slice ay2 ny2 cy2, .slice ay3 ny3 cy3], Hp.rec_ b1 [.slice ax1 nx1 cx1, .int .i64 s.n, .int .i64 s.who, .int .i64 s.val, .slice ax2 nx2 cx2, .slice ax3 nx3 cx3], pp6x3 d, pp6x4 d, pp6x5 d, pp6x6 d, pp6x7 d, pp6x8 d, pp6x9 d]) at H
    have q6 : dn d 6 = true := hall 6 rfl
    have q11 : dn d 11 = true := hall 11 rfl
    have q12 : dn d 12 = true := hall 12 rfl
    have q13 : dn d 13 = true := hall 13 rfl
    have q14 : dn d 14 = true := hall 14 rfl
    have e6 : IsS (dv d 6) := H.factAt (k := 6) rfl (by rw [pp6x6e]; simp only [q6, cond_true])
    have e11 : IsS (dv d 11) := H.factAt (k := 7) rfl (by rw [pp6x7e]; simp only [q11, cond_true])
    have e12 : dv d 12 = .agg #[.slice none 0 0, .int .i64 s.n, .int .i64 s.who, .int .i64 s.val, (dv d 6), (dv d 11)] := H.factAt (k := 8) rfl (by rw [pp6x8e]; simp only [q12, cond_true])
    have e13 : dv d 13 = ptr (pB (dv d 13)) 0 := H.factAt (k := 9) rfl (by rw [pp6x9e]; simp only [q13, cond_true])
    have n3 : pp6x3 d = Hp.own FD 3 (dv d 6) (uni xa ya) := by rw [pp6x3e]; simp only [q6, cond_true, cond_false]
    have n4 : pp6x4 d = Hp.own FD 3 (dv d 11) (uni xg yg) := by rw [pp6x4e]; simp only [q11, cond_true, cond_false]
    have n5 : pp6x5 d = Hp.rec_ (pB (dv d 13)) [.slice none 0 0, .int .i64 s.n, .int .i64 s.who, .int .i64 s.val, (dv d 6), (dv d 11)] := by rw [pp6x5e]; simp only [q13, q14, cond_true, cond_false]
    have n6 : pp6x6 d = Hp.pure (IsS (dv d 6)) := by rw [pp6x6e]; simp only [q6, cond_true]
    have n7 : pp6x7 d = Hp.pure (IsS (dv d 11)) := by rw [pp6x7e]; simp only [q11, cond_true]
    have n8 : pp6x8 d = Hp.pure (dv d 12 = .agg #[.slice none 0 0, .int .i64 s.n, .int .i64 s.who, .int .i64 s.val, (dv d 6), (dv d 11)]) := by rw [pp6x8e]; simp only [q12, cond_true]
    have n9 : pp6x9 d = Hp.pure (dv d 13 = ptr (pB (dv d 13)) 0) := by rw [pp6x9e]; simp only [q13, cond_true]
    rw [n3, n4, n5, n6, n7, n8, n9] at H
    clear n3 n4 n5 n6 n7 n8 n9
    obtain ⟨z10, hz10⟩ : ∃ b, b = dv d 6 := ⟨_, rfl⟩
    rw [← hz10] at e6 e12 H
    have s6 := hf.add hf.slots 6 rfl rfl rfl q6 (v := z10) hz10.symm
    obtain ⟨z11, hz11⟩ : ∃ b, b = dv d 11 := ⟨_, rfl⟩
    rw [← hz11] at e11 e12 H
    have s11 := hf.add s6 11 rfl rfl rfl q11 (v := z11) hz11.symm
    have s12 := hf.add s11 12 rfl rfl rfl q12 (v := .agg #[.slice none 0 0, .int .i64 s.n, .int .i64 s.who, .int .i64 s.val, z10, z11]) e12
    obtain ⟨z13, hz13⟩ : ∃ b, b = pB (dv d 13) := ⟨_, rfl⟩
    rw [← hz13] at e13  H
    have s13 := hf.add s12 13 rfl rfl rfl q13 (v := ptr z13 0) e13
    refine Gx.use s13 H ?_
    refine Gx.drop 9 rfl ?_
    refine Gx.drop 8 rfl ?_
    refine Gx.drop 7 rfl ?_
    refine Gx.drop 6 rfl ?_
    refine Gx.norm (l' := [Hp.rec_ b3 [.slice none 0 0, .int .i64 0, .int .i64 0, .int .i64 0, .slice none 0 0, .slice none 0 0], Hp.rec_ b2 [.slice ay1 ny1 cy1, .int .i64 t.n, .int .i64 t.who, .int .i64 t.val, .slice ay2 ny2 cy2, .slice ay3 ny3 cy3], Hp.rec_ b1 [.slice ax1 nx1 cx1, .int .i64 s.n, .int .i64 s.who, .int .i64 s.val, .slice ax2 nx2 cx2, .slice ax3 nx3 cx3], Hp.own FD 3 z10 (uni xa ya), Hp.own FD 3 z11 (uni xg yg), Hp.rec_ z13 [.slice none 0 0, .int .i64 s.n, .int .i64 s.who, .int .i64 s.val, z10, z11]]) rfl ?_
    refine Gx.thenN ?_
    refine Gx.meet (ι := Sp) (fun ξ => ((if 0 < spC t s then t else s) = ξ)) (fun ξ => [(2, ptr b1 0), (3, ptr b2 0), (4, ptr b3 0), (6, ptr z13 0)]) (fun ξ => [Hp.rec_ b3 [.slice none 0 0, .int .i64 0, .int .i64 0, .int .i64 0, .slice none 0 0, .slice none 0 0], Hp.rec_ b2 [.slice ay1 ny1 cy1, .int .i64 t.n, .int .i64 t.who, .int .i64 t.val, .slice ay2 ny2 cy2, .slice ay3 ny3 cy3], Hp.rec_ b1 [.slice ax1 nx1 cx1, .int .i64 s.n, .int .i64 s.who, .int .i64 s.val, .slice ax2 nx2 cx2, .slice ax3 nx3 cx3], Hp.own FD 3 z10 (uni xa ya), Hp.own FD 3 z11 (uni xg yg), Hp.rec_ z13 [.slice none 0 0, .int .i64 ξ.n, .int .i64 ξ.who, .int .i64 ξ.val, z10, z11]]) ?_ ?_
    · refine Gx.seq ?_
      refine Gx.region ?_
      refine Gx.val rfl rfl rfl (Val.cast (val_fieldAddr rfl Try.underlying27 rfl Try.ty24 rfl rfl) (v' := ptr b2 1) rfl) ?_
      refine Gx.val rfl rfl rfl (Val.cast (val_loadA rfl Try.ty24 rfl rfl (us := [.int .i64 t.n, .int .i64 t.who, .int .i64 t.val]) rfl (cells_rec_at (k := 1) (i := 1) (n := 3) rfl rfl)) (v' := .agg #[.int .i64 t.n, .int .i64 t.who, .int .i64 t.val]) rfl) ?_
      refine Gx.val rfl rfl rfl (Val.cast (val_fieldAddr rfl Try.underlying27 rfl Try.ty24 rfl rfl) (v' := ptr b1 1) rfl) ?_
      refine Gx.val rfl rfl rfl (Val.cast (val_loadA rfl Try.ty24 rfl rfl (us := [.int .i64 s.n, .int .i64 s.who, .int .i64 s.val]) rfl (cells_rec_at (k := 2) (i := 1) (n := 3) rfl rfl)) (v' := .agg #[.int .i64 s.n, .int .i64 s.who, .int .i64 s.val]) rfl) ?_
      refine Gx.val rfl rfl rfl (val_call (vs := [.agg #[.int .i64 t.n, .int .i64 t.who, .int .i64 t.val], .agg #[.int .i64 s.n, .int .i64 s.who, .int .i64 s.val]]) rfl Try.fn32 rfl (fun w H => stamps_any t s)) ?_
      refine Gx.val rfl rfl rfl (val_gtr rfl rfl rfl) ?_
      refine Gx.done ?_
      refine Gx.thenN ?_
      refine Gx.dec rfl (fun h14 => ?_) (fun h14 => ?_)
      · refine Gx.region ?_
        refine Gx.val rfl rfl rfl (Val.cast (val_fieldAddr rfl Try.underlying27 rfl Try.ty24 rfl rfl) (v' := ptr b2 1) rfl) ?_
        refine Gx.val rfl rfl rfl (Val.cast (val_loadA rfl Try.ty24 rfl rfl (us := [.int .i64 t.n, .int .i64 t.who, .int .i64 t.val]) rfl (cells_rec_at (k := 1) (i := 1) (n := 3) rfl rfl)) (v' := .agg #[.int .i64 t.n, .int .i64 t.who, .int .i64 t.val]) rfl) ?_
        refine Gx.val rfl rfl rfl (Val.cast (val_fieldAddr rfl Try.underlying27 rfl Try.ty24 rfl rfl) (v' := ptr z13 1) rfl) ?_
        refine Gx.eff0 rfl rfl (eff_store rfl Try.ty24 rfl rfl (us := [.int .i64 t.n, .int .i64 t.who, .int .i64 t.val]) rfl rfl rfl (k := 5) rfl (rfl) (vs' := [.slice none 0 0, .int .i64 t.n, .int .i64 t.who, .int .i64 t.val, z10, z11]) (rfl) (l' := [Hp.rec_ b3 [.slice none 0 0, .int .i64 0, .int .i64 0, .int .i64 0, .slice none 0 0, .slice none 0 0], Hp.rec_ b2 [.slice ay1 ny1 cy1, .int .i64 t.n, .int .i64 t.who, .int .i64 t.val, .slice ay2 ny2 cy2, .slice ay3 ny3 cy3], Hp.rec_ b1 [.slice ax1 nx1 cx1, .int .i64 s.n, .int .i64 s.who, .int .i64 s.val, .slice ax2 nx2 cx2, .slice ax3 nx3 cx3], Hp.own FD 3 z10 (uni xa ya), Hp.own FD 3 z11 (uni xg yg), Hp.rec_ z13 [.slice none 0 0, .int .i64 t.n, .int .i64 t.who, .int .i64 t.val, z10, z11]]) rfl) ?_
        rintro _ _ rfl
        refine Gx.done ?_
        refine Gx.thenN ?_
        exact Gx.fam t (if_pos h14) ((.cons rfl (.cons rfl (.cons rfl (.cons rfl .nil))))) rfl
      refine Gx.skip ?_
      refine Gx.thenN ?_
      exact Gx.fam s (if_neg h14) ((.cons rfl (.cons rfl (.cons rfl (.cons rfl .nil))))) rfl
    rintro la hla
    refine Gx.know (m' := [(2, ptr b1 0), (3, ptr b2 0), (4, ptr b3 0), (6, ptr z13 0)]) (.cons rfl (.cons rfl (.cons rfl (.cons rfl .nil)))) (Gx.norm (l' := [Hp.rec_ b3 [.slice none 0 0, .int .i64 0, .int .i64 0, .int .i64 0, .slice none 0 0, .slice none 0 0], Hp.rec_ b2 [.slice ay1 ny1 cy1, .int .i64 t.n, .int .i64 t.who, .int .i64 t.val, .slice ay2 ny2 cy2, .slice ay3 ny3 cy3], Hp.rec_ b1 [.slice ax1 nx1 cx1, .int .i64 s.n, .int .i64 s.who, .int .i64 s.val, .slice ax2 nx2 cx2, .slice ax3 nx3 cx3], Hp.own FD 3 z10 (uni xa ya), Hp.own FD 3 z11 (uni xg yg), Hp.rec_ z13 [.slice none 0 0, .int .i64 la.n, .int .i64 la.who, .int .i64 la.val, z10, z11]]) rfl ?_)
    refine Gx.seq ?_
    refine Gx.seq ?_
    refine Gx.ownNil FI 1 ?_
    refine Gx.region ?_
    refine Gx.val rfl rfl rfl (Val.cast (val_fieldAddr rfl Try.underlying27 rfl Try.ty22 rfl rfl) (v' := ptr b1 0) rfl) ?_
    refine Gx.val rfl rfl rfl (val_load rfl Try.ty22 rfl rfl (cell_rec (k := 3) rfl rfl)) ?_
    refine Gx.val rfl rfl rfl (val_len rfl Try.underlying22 rfl (len_base hxc)) ?_
    refine Gx.val rfl rfl rfl (val_move rfl rfl) ?_
    refine Gx.done ?_
    refine Gx.thenN ?_
    refine Gx.block ?_
    refine Gx.front 2 rfl ?_
    refine Gx.front 3 rfl ?_
    refine Gx.front 3 rfl ?_
    refine Gx.front 5 rfl ?_
    refine Gx.front 5 rfl ?_
    refine Gx.front 6 rfl ?_
    refine Gx.front 6 rfl ?_
    refine Gx.loop (ι := Nat × Value) (fun ξ => (ξ.1 ≤ xc.length) ∧ (IsS ξ.2)) (fun ξ => [(2, ptr b1 0), (3, ptr b2 0), (4, ptr b3 0), (6, ptr z13 0), (46, .slice ax1 nx1 cx1), (47, .int .i64 ((xc.length : Nat) : Int)), (48, .int .i64 ((ξ.1 : Nat) : Int))]) (fun ξ => [Hp.own FI 1 ξ.2 ((mx xc yc).take ξ.1), Hp.rec_ z13 [ξ.2, .int .i64 la.n, .int .i64 la.who, .int .i64 la.val, z10, z11], Hp.own FD 3 z10 (uni xa ya), Hp.own FD 3 z11 (uni xg yg), Hp.rec_ b3 [.slice none 0 0, .int .i64 0, .int .i64 0, .int .i64 0, .slice none 0 0, .slice none 0 0], Hp.rec_ b1 [.slice ax1 nx1 cx1, .int .i64 s.n, .int .i64 s.who, .int .i64 s.val, .slice ax2 nx2 cx2, .slice ax3 nx3 cx3], Hp.rec_ b2 [.slice ay1 ny1 cy1, .int .i64 t.n, .int .i64 t.who, .int .i64 t.val, .slice ay2 ny2 cy2, .slice ay3 ny3 cy3]]) (fun ξ => xc.length - ξ.1) (0, (.slice none 0 0)) ⟨Nat.zero_le _, ⟨none, 0, 0, rfl⟩⟩ ((.cons rfl (.cons rfl (.cons rfl (.cons rfl (.cons rfl (.cons rfl (.cons rfl .nil)))))))) rfl ?_
    rintro ⟨i, pv⟩ ⟨hi, hip⟩
    dsimp only at hi hip
    refine Gx.know (m' := [(2, ptr b1 0), (3, ptr b2 0), (4, ptr b3 0), (6, ptr z13 0), (46, .slice ax1 nx1 cx1), (47, .int .i64 ((xc.length : Nat) : Int)), (48, .int .i64 ((i : Nat) : Int))]) (.cons rfl (.cons rfl (.cons rfl (.cons rfl (.cons rfl (.cons rfl (.cons rfl .nil))))))) (Gx.norm (l' := [Hp.own FI 1 pv ((mx xc yc).take i), Hp.rec_ z13 [pv, .int .i64 la.n, .int .i64 la.who, .int .i64 la.val, z10, z11], Hp.own FD 3 z10 (uni xa ya), Hp.own FD 3 z11 (uni xg yg), Hp.rec_ b3 [.slice none 0 0, .int .i64 0, .int .i64 0, .int .i64 0, .slice none 0 0, .slice none 0 0], Hp.rec_ b1 [.slice ax1 nx1 cx1, .int .i64 s.n, .int .i64 s.who, .int .i64 s.val, .slice ax2 nx2 cx2, .slice ax3 nx3 cx3], Hp.rec_ b2 [.slice ay1 ny1 cy1, .int .i64 t.n, .int .i64 t.who, .int .i64 t.val, .slice ay2 ny2 cy2, .slice ay3 ny3 cy3]]) rfl ?_)
    have hml : ((mx xc yc).take i).length = i := by rw [List.length_take, mx_len hlen]; omega
    refine Gx.seq ?_
    refine Gx.region ?_
    refine Gx.val rfl rfl rfl (val_lss rfl rfl rfl) ?_
    refine Gx.done ?_
    refine Gx.thenN ?_
    refine Gx.seq ?_
    refine Gx.dec rfl (fun h15 => ?_) (fun h15 => ?_)
    · refine Gx.skip ?_
      refine Gx.thenN ?_
      refine Gx.seq ?_
      refine Gx.block ?_
      refine Gx.seq ?_
      obtain ⟨x, hx⟩ := get_of_lt (xs := xc) (k := i) (by omega)
      obtain ⟨y, hy⟩ := get_of_lt (xs := yc) (k := i) (by omega)
      refine Gx.region ?_
      refine Gx.val rfl rfl rfl (val_move rfl rfl) ?_
      refine Gx.val rfl rfl rfl (val_ixa rfl Try.underlying22 Try.ty2 rfl rfl (j := i) (rfl) (reach_base hxc hx)) ?_
      refine Gx.val rfl rfl rfl (val_load rfl Try.ty2 rfl rfl (cell_base (i := 0) hxc hx rfl)) ?_
      refine Gx.val rfl rfl rfl (val_assign rfl rfl) ?_
      refine Gx.val rfl rfl rfl (val_assign rfl rfl) ?_
      refine Gx.done ?_
      refine Gx.thenN ?_
      refine Gx.regionO (fun j => j == 9) 10 [0, 1, 2, 3, 4, 5, 6, 7, 8, 9] (fun us => match us with | [] => [Hp.own FI 1 pv ((mx xc yc).take i), Hp.rec_ z13 [pv, .int .i64 la.n, .int .i64 la.who, .int .i64 la.val, z10, z11], Hp.own FD 3 z10 (uni xa ya), Hp.own FD 3 z11 (uni xg yg), Hp.rec_ b3 [.slice none 0 0, .int .i64 0, .int .i64 0, .int .i64 0, .slice none 0 0, .slice none 0 0], Hp.rec_ b1 [.slice ax1 nx1 cx1, .int .i64 s.n, .int .i64 s.who, .int .i64 s.val, .slice ax2 nx2 cx2, .slice ax3 nx3 cx3], Hp.rec_ b2 [.slice ay1 ny1 cy1, .int .i64 t.n, .int .i64 t.who, .int .i64 t.val, .slice ay2 ny2 cy2, .slice ay3 ny3 cy3]] | u1 :: _ => [Hp.rec_ (sB u1) [.int .i64 (mx2 x y)], Hp.own FI 1 pv ((mx xc yc).take i), Hp.rec_ z13 [pv, .int .i64 la.n, .int .i64 la.who, .int .i64 la.val, z10, z11], Hp.own FD 3 z10 (uni xa ya), Hp.own FD 3 z11 (uni xg yg), Hp.rec_ b3 [.slice none 0 0, .int .i64 0, .int .i64 0, .int .i64 0, .slice none 0 0, .slice none 0 0], Hp.rec_ b1 [.slice ax1 nx1 cx1, .int .i64 s.n, .int .i64 s.who, .int .i64 s.val, .slice ax2 nx2 cx2, .slice ax3 nx3 cx3], Hp.rec_ b2 [.slice ay1 ny1 cy1, .int .i64 t.n, .int .i64 t.who, .int .i64 t.val, .slice ay2 ny2 cy2, .slice ay3 ny3 cy3]]) Try.mixed (by kernel_rfl) rfl ?_
      refine Gw.val rfl rfl rfl rfl rfl (fun us => Val.cast (val_fieldAddr rfl Try.underlying27 rfl Try.ty22 rfl rfl) (v' := ptr z13 0) rfl) ?_
      refine Gw.val rfl rfl rfl rfl rfl (fun us => match us with | [] => val_load rfl Try.ty22 rfl rfl (cell_rec (k := 1) rfl rfl) | u1 :: _ => val_load rfl Try.ty22 rfl rfl (cell_rec (k := 2) rfl rfl)) ?_
      refine Gw.val rfl rfl rfl rfl rfl (fun us => val_move rfl rfl) ?_
      refine Gw.val rfl rfl rfl rfl rfl (fun us => Val.cast (val_fieldAddr rfl Try.underlying27 rfl Try.ty22 rfl rfl) (v' := ptr b2 0) rfl) ?_
      refine Gw.val rfl rfl rfl rfl rfl (fun us => match us with | [] => val_load rfl Try.ty22 rfl rfl (cell_rec (k := 6) rfl rfl) | u1 :: _ => val_load rfl Try.ty22 rfl rfl (cell_rec (k := 7) rfl rfl)) ?_
      refine Gw.val rfl rfl rfl rfl rfl (fun us => val_move rfl rfl) ?_
      refine Gw.val rfl rfl rfl rfl rfl (fun us => val_ixa rfl Try.underlying22 Try.ty2 rfl rfl (j := i) (rfl) (reach_base hyc hy)) ?_
      refine Gw.val rfl rfl rfl rfl rfl (fun us => val_load rfl Try.ty2 rfl rfl (cell_base (i := 0) hyc hy rfl)) ?_
      refine Gw.val rfl rfl rfl rfl rfl (fun us => val_max rfl rfl rfl (r := (mx2 x y)) (rfl)) ?_
      refine Gw.chg rfl rfl rfl rfl rfl (fun v => ∃ b16, v = .slice (some ⟨b16, 0, none⟩) 1 1) (Eff.mono (eff_buildSlice rfl (qs := [(0, .int .i64 (mx2 x y))]) rfl rfl (cs := #[.int .i64 (mx2 x y)]) (vs := [.int .i64 (mx2 x y)]) (E := 2) rfl (fun w => by first | (go_simp; done) | (go_simp; rfl))) (by rintro _ _ ⟨b16, rfl, rfl⟩; exact ⟨⟨b16, rfl⟩, rfl⟩)) ?_
      rintro _ ⟨b16, rfl⟩
      refine Gw.done ?_
      refine Gx.norm (l' := [Hp.rec_ b16 [.int .i64 (mx2 x y)], Hp.own FI 1 pv ((mx xc yc).take i), Hp.rec_ z13 [pv, .int .i64 la.n, .int .i64 la.who, .int .i64 la.val, z10, z11], Hp.own FD 3 z10 (uni xa ya), Hp.own FD 3 z11 (uni xg yg), Hp.rec_ b3 [.slice none 0 0, .int .i64 0, .int .i64 0, .int .i64 0, .slice none 0 0, .slice none 0 0], Hp.rec_ b1 [.slice ax1 nx1 cx1, .int .i64 s.n, .int .i64 s.who, .int .i64 s.val, .slice ax2 nx2 cx2, .slice ax3 nx3 cx3], Hp.rec_ b2 [.slice ay1 ny1 cy1, .int .i64 t.n, .int .i64 t.who, .int .i64 t.val, .slice ay2 ny2 cy2, .slice ay3 ny3 cy3]]) rfl ?_
      refine Gx.eff rfl rfl rfl (eff_push (r := (mx2 x y)) rfl Try.eL FI_len FI_one rfl rfl (k := 0) rfl rfl (k' := 0) rfl (by rw [hml]; omega) (by rw [hml]; omega)) ?_
      rintro v17 _ ⟨hiv17, rfl⟩
      refine Gx.norm (l' := [Hp.own FI 1 v17 (((mx xc yc).take i) ++ [(mx2 x y)]), Hp.rec_ z13 [pv, .int .i64 la.n, .int .i64 la.who, .int .i64 la.val, z10, z11], Hp.own FD 3 z10 (uni xa ya), Hp.own FD 3 z11 (uni xg yg), Hp.rec_ b3 [.slice none 0 0, .int .i64 0, .int .i64 0, .int .i64 0, .slice none 0 0, .slice none 0 0], Hp.rec_ b1 [.slice ax1 nx1 cx1, .int .i64 s.n, .int .i64 s.who, .int .i64 s.val, .slice ax2 nx2 cx2, .slice ax3 nx3 cx3], Hp.rec_ b2 [.slice ay1 ny1 cy1, .int .i64 t.n, .int .i64 t.who, .int .i64 t.val, .slice ay2 ny2 cy2, .slice ay3 ny3 cy3]]) rfl ?_
      refine Gx.val rfl rfl rfl (Val.cast (val_fieldAddr rfl Try.underlying27 rfl Try.ty22 rfl rfl) (v' := ptr z13 0) rfl) ?_
      refine Gx.eff0 rfl rfl (eff_store rfl Try.ty22 rfl rfl (us := [v17]) hiv17.cellsL rfl hiv17.all (k := 1) rfl (rfl) (vs' := [v17, .int .i64 la.n, .int .i64 la.who, .int .i64 la.val, z10, z11]) (rfl) (l' := [Hp.own FI 1 v17 (((mx xc yc).take i) ++ [(mx2 x y)]), Hp.rec_ z13 [v17, .int .i64 la.n, .int .i64 la.who, .int .i64 la.val, z10, z11], Hp.own FD 3 z10 (uni xa ya), Hp.own FD 3 z11 (uni xg yg), Hp.rec_ b3 [.slice none 0 0, .int .i64 0, .int .i64 0, .int .i64 0, .slice none 0 0, .slice none 0 0], Hp.rec_ b1 [.slice ax1 nx1 cx1, .int .i64 s.n, .int .i64 s.who, .int .i64 s.val, .slice ax2 nx2 cx2, .slice ax3 nx3 cx3], Hp.rec_ b2 [.slice ay1 ny1 cy1, .int .i64 t.n, .int .i64 t.who, .int .i64 t.val, .slice ay2 ny2 cy2, .slice ay3 ny3 cy3]]) rfl) ?_
      rintro _ _ rfl
      refine Gx.done ?_
      refine Gx.blkN ?_
      refine Gx.thenN ?_
      refine Gx.region ?_
      refine Gx.val rfl rfl rfl (val_add rfl rfl rfl (r := ((i + 1 : Nat) : Int)) (w64 (by omega) (by omega))) ?_
      refine Gx.val rfl rfl rfl (val_move rfl rfl) ?_
      refine Gx.done ?_
      refine Gx.thenN ?_
      refine Gx.norm (l' := [Hp.own FI 1 v17 ((mx xc yc).take (i + 1)), Hp.rec_ z13 [v17, .int .i64 la.n, .int .i64 la.who, .int .i64 la.val, z10, z11], Hp.own FD 3 z10 (uni xa ya), Hp.own FD 3 z11 (uni xg yg), Hp.rec_ b3 [.slice none 0 0, .int .i64 0, .int .i64 0, .int .i64 0, .slice none 0 0, .slice none 0 0], Hp.rec_ b1 [.slice ax1 nx1 cx1, .int .i64 s.n, .int .i64 s.who, .int .i64 s.val, .slice ax2 nx2 cx2, .slice ax3 nx3 cx3], Hp.rec_ b2 [.slice ay1 ny1 cy1, .int .i64 t.n, .int .i64 t.who, .int .i64 t.val, .slice ay2 ny2 cy2, .slice ay3 ny3 cy3]]) (by rw [take_snoc9 (mx_at hx hy)] <;> rfl) ?_
      exact Gx.round (i + 1, v17) ⟨by first | omega | (dsimp only; omega), hiv17⟩ (by first | omega | (dsimp only; omega)) ((.cons rfl (.cons rfl (.cons rfl (.cons rfl (.cons rfl (.cons rfl (.cons rfl .nil)))))))) rfl
    refine Gx.exit ?_
    refine Gx.thenE ?_
    refine Gx.thenE ?_
    refine Gx.blkE ?_
    refine Gx.thenN ?_
    refine Gx.seq ?_
    refine Gx.seq ?_
    have hmt : (mx xc yc).take i = mx xc yc := List.take_of_length_le (by rw [mx_len hlen]; omega)
    refine Gx.norm (l' := [Hp.own FI 1 pv (mx xc yc), Hp.rec_ z13 [pv, .int .i64 la.n, .int .i64 la.who, .int .i64 la.val, z10, z11], Hp.own FD 3 z10 (uni xa ya), Hp.own FD 3 z11 (uni xg yg), Hp.rec_ b3 [.slice none 0 0, .int .i64 0, .int .i64 0, .int .i64 0, .slice none 0 0, .slice none 0 0], Hp.rec_ b1 [.slice ax1 nx1 cx1, .int .i64 s.n, .int .i64 s.who, .int .i64 s.val, .slice ax2 nx2 cx2, .slice ax3 nx3 cx3], Hp.rec_ b2 [.slice ay1 ny1 cy1, .int .i64 t.n, .int .i64 t.who, .int .i64 t.val, .slice ay2 ny2 cy2, .slice ay3 ny3 cy3]]) (by rw [hmt] <;> rfl) ?_
    refine Gx.region ?_
    refine Gx.val rfl rfl rfl (Val.cast (val_loadA rfl Try.ty27 rfl rfl rfl (cells_rec (k := 1) rfl)) (v' := .agg #[pv, .int .i64 la.n, .int .i64 la.who, .int .i64 la.val, z10, z11]) rfl) ?_
    refine Gx.val rfl rfl rfl (val_call (vs := [.int .i64 1, .agg #[pv, .int .i64 la.n, .int .i64 la.who, .int .i64 la.val, z10, z11]]) rfl Try.fn28 rfl (fun w H => size_any (n := 1) (s := la) hip ((H.at_ (k := 2) rfl).sls (by omega)) ((H.at_ (k := 3) rfl).sls (by omega)))) ?_
    refine Gx.done ?_
    refine Gx.thenN ?_
    refine Gx.bool rfl (fun h18 => ?_) (fun h18 => ?_)
    · refine Gx.seq ?_
      refine Gx.region ?_
      refine Gx.val rfl rfl rfl (val_build rfl (qs := []) rfl rfl (fun w => by go_simp) (v := .agg #[.slice none 0 0, .int .i64 0, .int .i64 0, .int .i64 0, .slice none 0 0, .slice none 0 0])) ?_
      refine Gx.eff0 rfl rfl (eff_store rfl Try.ty27 rfl rfl (us := [.slice none 0 0, .int .i64 0, .int .i64 0, .int .i64 0, .slice none 0 0, .slice none 0 0]) rfl rfl rfl (k := 4) rfl (rfl) (vs' := [.slice none 0 0, .int .i64 0, .int .i64 0, .int .i64 0, .slice none 0 0, .slice none 0 0]) (rfl) (l' := [Hp.own FI 1 pv (mx xc yc), Hp.rec_ z13 [pv, .int .i64 la.n, .int .i64 la.who, .int .i64 la.val, z10, z11], Hp.own FD 3 z10 (uni xa ya), Hp.own FD 3 z11 (uni xg yg), Hp.rec_ b3 [.slice none 0 0, .int .i64 0, .int .i64 0, .int .i64 0, .slice none 0 0, .slice none 0 0], Hp.rec_ b1 [.slice ax1 nx1 cx1, .int .i64 s.n, .int .i64 s.who, .int .i64 s.val, .slice ax2 nx2 cx2, .slice ax3 nx3 cx3], Hp.rec_ b2 [.slice ay1 ny1 cy1, .int .i64 t.n, .int .i64 t.who, .int .i64 t.val, .slice ay2 ny2 cy2, .slice ay3 ny3 cy3]]) rfl) ?_
      rintro _ _ rfl
      refine Gx.val rfl rfl rfl (val_assign rfl rfl) ?_
      refine Gx.done ?_
      refine Gx.thenN ?_
      refine Gx.ret ?_
      refine Gx.thenR ?_
      refine Gx.drop 0 rfl ?_
      refine Gx.drop 0 rfl ?_
      refine Gx.drop 0 rfl ?_
      refine Gx.drop 0 rfl ?_
      refine Gx.drop 1 rfl ?_
      refine Gx.drop 1 rfl ?_
      refine Gx.ownNil FD 3 ?_
      refine Gx.ownNil FD 3 ?_
      refine Gx.ownNil FI 1 ?_
      refine Gx.norm (l' := [Hp.own FI 1 (.slice none 0 0) ([]), Hp.own FD 3 (.slice none 0 0) ([]), Hp.own FD 3 (.slice none 0 0) ([]), Hp.rec_ b3 [.slice none 0 0, .int .i64 0, .int .i64 0, .int .i64 0, .slice none 0 0, .slice none 0 0]]) rfl ?_
      refine Gx.retC2d Try.results19 Try.ty27 rfl rfl (us := [.slice none 0 0, .int .i64 0, .int .i64 0, .int .i64 0, .slice none 0 0, .slice none 0 0]) rfl (k := 3) rfl rfl ?_
      exact ⟨_, _, _, _, _, mergeC_big hform h18, ⟨none, 0, 0, rfl⟩, ⟨none, 0, 0, rfl⟩, ⟨none, 0, 0, rfl⟩, rfl, rfl⟩
    refine Gx.skip ?_
    refine Gx.thenN ?_
    refine Gx.seq ?_
    refine Gx.region ?_
    refine Gx.val rfl rfl rfl (Val.cast (val_loadA rfl Try.ty27 rfl rfl rfl (cells_rec (k := 1) rfl)) (v' := .agg #[pv, .int .i64 la.n, .int .i64 la.who, .int .i64 la.val, z10, z11]) rfl) ?_
    refine Gx.eff0 rfl rfl (eff_store rfl Try.ty27 rfl rfl (us := [pv, .int .i64 la.n, .int .i64 la.who, .int .i64 la.val, z10, z11]) rfl rfl (by simp only [List.all_cons, List.all_nil, Bool.true_and, Bool.and_true, IsS.one hip, IsS.one e6, IsS.one e11] <;> rfl) (k := 4) rfl (rfl) (vs' := [pv, .int .i64 la.n, .int .i64 la.who, .int .i64 la.val, z10, z11]) (rfl) (l' := [Hp.own FI 1 pv (mx xc yc), Hp.rec_ z13 [pv, .int .i64 la.n, .int .i64 la.who, .int .i64 la.val, z10, z11], Hp.own FD 3 z10 (uni xa ya), Hp.own FD 3 z11 (uni xg yg), Hp.rec_ b3 [pv, .int .i64 la.n, .int .i64 la.who, .int .i64 la.val, z10, z11], Hp.rec_ b1 [.slice ax1 nx1 cx1, .int .i64 s.n, .int .i64 s.who, .int .i64 s.val, .slice ax2 nx2 cx2, .slice ax3 nx3 cx3], Hp.rec_ b2 [.slice ay1 ny1 cy1, .int .i64 t.n, .int .i64 t.who, .int .i64 t.val, .slice ay2 ny2 cy2, .slice ay3 ny3 cy3]]) rfl) ?_
    rintro _ _ rfl
    refine Gx.val rfl rfl rfl (val_assign rfl rfl) ?_
    refine Gx.done ?_
    refine Gx.thenN ?_
    refine Gx.ret ?_
    refine Gx.drop 6 rfl ?_
    refine Gx.drop 5 rfl ?_
    refine Gx.drop 1 rfl ?_
    refine Gx.front 3 rfl ?_
    refine Gx.front 3 rfl ?_
    refine Gx.front 3 rfl ?_
    refine Gx.front 3 rfl ?_
    refine Gx.norm (l' := [Hp.own FI 1 pv (mx xc yc), Hp.own FD 3 z10 (uni xa ya), Hp.own FD 3 z11 (uni xg yg), Hp.rec_ b3 [pv, .int .i64 la.n, .int .i64 la.who, .int .i64 la.val, z10, z11]]) rfl ?_
    refine Gx.retC2d Try.results19 Try.ty27 rfl rfl (us := [pv, .int .i64 la.n, .int .i64 la.who, .int .i64 la.val, z10, z11]) rfl (k := 3) rfl rfl ?_
    exact ⟨_, _, _, _, _, mergeC_ok hform h18 hla, hip, e6, e11, rfl, rfl⟩

theorem merge_any {W : World} {cv av gv cw aw gw : Value} {s t : Sp} {xc yc : List Int} {xa xg ya yg : List Dt} (hxc : SlS FI 1 W (cv) xc) (hxa : SlS FD 3 W (av) xa) (hxg : SlS FD 3 W (gv) xg) (hyc : SlS FI 1 W (cw) yc) (hya : SlS FD 3 W (aw) ya) (hyg : SlS FD 3 W (gw) yg) (ra : ∀ x ∈ xa, Rng x) (rg : ∀ x ∈ xg, Rng x) (rb : ∀ x ∈ ya, Rng x) (rh : ∀ x ∈ yg, Rng x) (l1 : xa.length ≤ 1000) (l2 : xg.length ≤ 1000) (l3 : ya.length ≤ 1000) (l4 : yg.length ≤ 1000) (hlen : xc.length ≤ yc.length) (hln : xc.length ≤ 1000) :
    Calls Try.prog 19 #[.agg #[cv, .int .i64 s.n, .int .i64 s.who, .int .i64 s.val, av, gv], .agg #[cw, .int .i64 t.n, .int .i64 t.who, .int .i64 t.val, aw, gw]] W (Ret W fun u l9 => ∃ (p q r : Value) (code : Int) (o : Cp), mergeC ⟨xc, s, xa, xg⟩ ⟨yc, t, ya, yg⟩ = (code, o) ∧ IsS p ∧ IsS q ∧ IsS r ∧ u = .tuple #[.agg #[p, .int .i64 o.la.n, .int .i64 o.la.who, .int .i64 o.la.val, q, r], .int .i64 code] ∧ l9 = [Hp.own FI 1 p o.cn, Hp.own FD 3 q o.ad, Hp.own FD 3 r o.go]) := by
  obtain ⟨_, _, _, rfl⟩ := hxc.isS
  obtain ⟨_, _, _, rfl⟩ := hxa.isS
  obtain ⟨_, _, _, rfl⟩ := hxg.isS
  obtain ⟨_, _, _, rfl⟩ := hyc.isS
  obtain ⟨_, _, _, rfl⟩ := hya.isS
  obtain ⟨_, _, _, rfl⟩ := hyg.isS
  exact merge_lit hxc hxa hxg hyc hya hyg ra rg rb rh l1 l2 l3 l4 hlen hln
end Go.Proofs.Ytfpkfbffpkjgbaa
