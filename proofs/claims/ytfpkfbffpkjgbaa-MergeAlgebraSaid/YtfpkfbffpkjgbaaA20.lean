/- Both copies together, if they may be. The walk. No condition. -/
import Derived.Test.YtfpkfbffpkjgbaaA19
namespace Go.Proofs.Ytfpkfbffpkjgbaa
open Go.RowKit
set_option linter.unusedVariables false
set_option linter.unusedSimpArgs false
set_option maxRecDepth 100000

structure GoodF (n : Int) (c : Cp) : Prop where
  n1 : 1 ≤ n ∧ n ≤ 6
  al : c.ad.length ≤ 60
  gl : c.go.length ≤ 60
  ln : (c.cn.length : Int) = n
  cv : ∀ v ∈ c.cn, badV v = false
  ba : baseB n c.cn.length c.la = false
  ad : ∀ d ∈ c.ad, badD n d = false
  go : ∀ d ∈ c.go, badD n d = false
  au : Up c.ad
  gu : Up c.go
theorem GoodC.facts {n : Int} {c : Cp} (h : GoodC n c) : GoodF n c := by
  obtain ⟨h1, h2, h3, h4⟩ := h
  unfold big at h1
  have h1 := of_decide_eq_false h1
  unfold badC at h2
  rw [Bool.or_eq_false_iff, Bool.or_eq_false_iff, Bool.or_eq_false_iff] at h2
  obtain ⟨⟨⟨q1, q2⟩, q3⟩, q4⟩ := h2
  have q1' := q1
  unfold baseB at q1'
  have q1' := of_decide_eq_false q1'
  refine ⟨by omega, by omega, by omega, by omega, fun v hv => ?_, q1, fun d hd => ?_, fun d hd => ?_, rises_up h3, rises_up h4⟩
  · rw [List.any_eq_false] at q2; simpa using q2 v hv
  · rw [List.any_eq_false] at q3; simpa using q3 d hd
  · rw [List.any_eq_false] at q4; simpa using q4 d hd
theorem GoodF.good {n : Int} {c : Cp} (h : GoodF n c) : GoodC n c := by
  refine ⟨?_, ?_, up_rises h.au, up_rises h.gu⟩
  · unfold big; exact decide_eq_false (by have := h.n1; have := h.al; have := h.gl; omega)
  · unfold badC
    rw [h.ba, show c.cn.any badV = false from by rw [List.any_eq_false]; intro v hv; rw [h.cv v hv]; decide,
      show c.ad.any (badD n) = false from by rw [List.any_eq_false]; intro v hv; rw [h.ad v hv]; decide,
      show c.go.any (badD n) = false from by rw [List.any_eq_false]; intro v hv; rw [h.go v hv]; decide]
    rfl
theorem good_mrg {n : Int} {a b : Cp} (ha : GoodC n a) (hb : GoodC n b) (h : (mergeC a b).1 = 0) : GoodC n (mrg a b) := by
  have fa := ha.facts; have fb := hb.facts
  have hl1 := fa.ln; have hl2 := fb.ln
  have hln : (mx a.cn b.cn).length = a.cn.length := mx_len (by omega)
  have hbig : (uni a.ad b.ad).length ≤ 60 ∧ (uni a.go b.go).length ≤ 60 := by
    unfold mergeC at h
    split at h
    · cases h
    · split at h
      · cases h
      · rename_i h2; exact big_no (by simpa [mrg] using h2)
  refine GoodF.good ⟨fa.n1, hbig.1, hbig.2, by show ((mx a.cn b.cn).length : Int) = n; rw [hln]; exact hl1, fun v hv => ?_, ?_, uni_all fa.ad fb.ad, uni_all fa.go fb.go, uni_up, uni_up⟩
  · rcases mx_mem hv with q | q
    · exact fa.cv v q
    · exact fb.cv v q
  · show baseB n (mx a.cn b.cn).length (if 0 < spC b.la a.la then b.la else a.la) = false
    rw [hln]
    split
    · have := fb.ba; rw [show a.cn.length = b.cn.length by omega]; exact this
    · exact fa.ba
/-- few dots, all in range -/
structure FineC (c : Cp) : Prop where
  cl : c.cn.length ≤ 1000
  al : c.ad.length ≤ 60
  gl : c.go.length ≤ 60
  ar : ∀ d ∈ c.ad, Rng d
  gr : ∀ d ∈ c.go, Rng d
theorem fine_cp0 : FineC cp0 := ⟨by decide, by decide, by decide, fun d hd => (by cases hd), fun d hd => (by cases hd)⟩
theorem fine_merge {a b : Cp} (h1 : a.cn.length ≤ 1000) (hl : a.cn.length ≤ b.cn.length) (ra : ∀ x ∈ a.ad, Rng x) (rg : ∀ x ∈ a.go, Rng x) (rb : ∀ x ∈ b.ad, Rng x) (rh : ∀ x ∈ b.go, Rng x) : FineC (mergeC a b).2 := by
  unfold mergeC
  split
  · exact fine_cp0
  · split
    · exact fine_cp0
    · rename_i h2
      have hb := big_no (by simpa using h2)
      exact ⟨by show (mx a.cn b.cn).length ≤ 1000; rw [mx_len hl]; exact h1, hb.1, hb.2, uni_all ra rb, uni_all rg rh⟩
def GO (n : Int) (a b : Cp) : Nat → Prop
  | 0 => True
  | 1 => GoodC n a
  | _ => GoodC n a ∧ GoodC n b
set_option maxHeartbeats 1000000 in
theorem mg_lit {W : World} {n : Int} {ax1 ax2 ax3 ay1 ay2 ay3 : Option Addr} {nx1 nx2 nx3 ny1 ny2 ny3 cx1 cx2 cx3 cy1 cy2 cy3 : Nat} {s t : Sp} {xc yc : List Int} {xa xg ya yg : List Dt} (hxc : SlS FI 1 W (.slice ax1 nx1 cx1) xc) (hxa : SlS FD 3 W (.slice ax2 nx2 cx2) xa) (hxg : SlS FD 3 W (.slice ax3 nx3 cx3) xg) (hyc : SlS FI 1 W (.slice ay1 ny1 cy1) yc) (hya : SlS FD 3 W (.slice ay2 ny2 cy2) ya) (hyg : SlS FD 3 W (.slice ay3 ny3 cy3) yg) (ra : ∀ x ∈ xa, Rng x) (rg : ∀ x ∈ xg, Rng x) (rb : ∀ x ∈ ya, Rng x) (rh : ∀ x ∈ yg, Rng x) :
    Calls Try.prog 9 #[.int .i64 n, .agg #[.slice ax1 nx1 cx1, .int .i64 s.n, .int .i64 s.who, .int .i64 s.val, .slice ax2 nx2 cx2, .slice ax3 nx3 cx3], .agg #[.slice ay1 ny1 cy1, .int .i64 t.n, .int .i64 t.who, .int .i64 t.val, .slice ay2 ny2 cy2, .slice ay3 ny3 cy3]] W (Ret W fun u l9 => ∃ (p q r : Value) (code : Int) (o : Cp), IsS p ∧ IsS q ∧ IsS r ∧ u = .tuple #[.agg #[p, .int .i64 o.la.n, .int .i64 o.la.who, .int .i64 o.la.val, q, r], .int .i64 code] ∧ l9 = [Hp.own FI 1 p o.cn, Hp.own FD 3 q o.ad, Hp.own FD 3 r o.go] ∧ (code = 0 → GoodC n (⟨xc, s, xa, xg⟩ : Cp) ∧ GoodC n (⟨yc, t, ya, yg⟩ : Cp)) ∧ (GoodC n (⟨xc, s, xa, xg⟩ : Cp) → GoodC n (⟨yc, t, ya, yg⟩ : Cp) → mergeC (⟨xc, s, xa, xg⟩ : Cp) (⟨yc, t, ya, yg⟩ : Cp) = (code, o)) ∧ FineC o) := by
  refine Gx.enter (l := []) Try.func9 rfl Try.ntmps9 rfl (Sat.start W) ?_
  refine Gx.know (m' := [(0, .int .i64 n), (1, .agg #[.slice ax1 nx1 cx1, .int .i64 s.n, .int .i64 s.who, .int .i64 s.val, .slice ax2 nx2 cx2, .slice ax3 nx3 cx3]), (2, .agg #[.slice ay1 ny1 cy1, .int .i64 t.n, .int .i64 t.who, .int .i64 t.val, .slice ay2 ny2 cy2, .slice ay3 ny3 cy3])]) (.cons rfl (.cons rfl (.cons rfl .nil))) ?_
  refine Gx.seq ?_
  refine Gx.region ?_
  refine Gx.eff rfl rfl rfl (eff_box rfl rfl (vs := [.slice ax1 nx1 cx1, .int .i64 s.n, .int .i64 s.who, .int .i64 s.val, .slice ax2 nx2 cx2, .slice ax3 nx3 cx3]) rfl) ?_
  rintro _ _ ⟨b1, rfl, rfl⟩
  refine Gx.eff rfl rfl rfl (eff_box rfl rfl (vs := [.slice ay1 ny1 cy1, .int .i64 t.n, .int .i64 t.who, .int .i64 t.val, .slice ay2 ny2 cy2, .slice ay3 ny3 cy3]) rfl) ?_
  rintro _ _ ⟨b2, rfl, rfl⟩
  refine Gx.eff rfl rfl rfl (eff_alloc rfl Try.ty27 (vs := [.slice none 0 0, .int .i64 0, .int .i64 0, .int .i64 0, .slice none 0 0, .slice none 0 0]) rfl) ?_
  rintro _ _ ⟨b3, rfl, rfl⟩
  refine Gx.val rfl rfl rfl (val_assign rfl rfl) ?_
  refine Gx.done ?_
  refine Gx.thenN ?_
  refine Gx.seq ?_
  refine Gx.seq ?_
  refine Gx.region ?_
  refine Gx.val rfl rfl rfl (Val.cast (val_loadA rfl Try.ty27 rfl rfl rfl (cells_rec (k := 2) rfl)) (v' := .agg #[.slice ax1 nx1 cx1, .int .i64 s.n, .int .i64 s.who, .int .i64 s.val, .slice ax2 nx2 cx2, .slice ax3 nx3 cx3]) rfl) ?_
  refine Gx.val rfl rfl rfl (Val.cast (val_loadA rfl Try.ty27 rfl rfl rfl (cells_rec (k := 1) rfl)) (v' := .agg #[.slice ay1 ny1 cy1, .int .i64 t.n, .int .i64 t.who, .int .i64 t.val, .slice ay2 ny2 cy2, .slice ay3 ny3 cy3]) rfl) ?_
  refine Gx.val rfl rfl rfl (val_build rfl (qs := [(0, .agg #[.slice ax1 nx1 cx1, .int .i64 s.n, .int .i64 s.who, .int .i64 s.val, .slice ax2 nx2 cx2, .slice ax3 nx3 cx3]), (1, .agg #[.slice ay1 ny1 cy1, .int .i64 t.n, .int .i64 t.who, .int .i64 t.val, .slice ay2 ny2 cy2, .slice ay3 ny3 cy3])]) rfl rfl (fun w => by go_simp) (v := .agg #[.slice ax1 nx1 cx1, .int .i64 s.n, .int .i64 s.who, .int .i64 s.val, .slice ax2 nx2 cx2, .slice ax3 nx3 cx3, .slice ay1 ny1 cy1, .int .i64 t.n, .int .i64 t.who, .int .i64 t.val, .slice ay2 ny2 cy2, .slice ay3 ny3 cy3])) ?_
  refine Gx.val rfl rfl rfl (val_move rfl rfl) ?_
  refine Gx.done ?_
  refine Gx.thenN ?_
  refine Gx.block ?_
  refine Gx.loop (ι := Nat) (fun ξ => (ξ ≤ 2) ∧ (GO n (⟨xc, s, xa, xg⟩ : Cp) (⟨yc, t, ya, yg⟩ : Cp) ξ)) (fun ξ => [(0, .int .i64 n), (4, ptr b1 0), (5, ptr b2 0), (6, ptr b3 0), (13, .agg #[.slice ax1 nx1 cx1, .int .i64 s.n, .int .i64 s.who, .int .i64 s.val, .slice ax2 nx2 cx2, .slice ax3 nx3 cx3, .slice ay1 ny1 cy1, .int .i64 t.n, .int .i64 t.who, .int .i64 t.val, .slice ay2 ny2 cy2, .slice ay3 ny3 cy3]), (14, .int .i64 ((ξ : Nat) : Int))]) (fun ξ => [Hp.rec_ b3 [.slice none 0 0, .int .i64 0, .int .i64 0, .int .i64 0, .slice none 0 0, .slice none 0 0], Hp.rec_ b2 [.slice ay1 ny1 cy1, .int .i64 t.n, .int .i64 t.who, .int .i64 t.val, .slice ay2 ny2 cy2, .slice ay3 ny3 cy3], Hp.rec_ b1 [.slice ax1 nx1 cx1, .int .i64 s.n, .int .i64 s.who, .int .i64 s.val, .slice ax2 nx2 cx2, .slice ax3 nx3 cx3]]) (fun ξ => 2 - ξ) 0 ⟨by first | omega | (dsimp only; omega), trivial⟩ ((.cons rfl (.cons rfl (.cons rfl (.cons rfl (.cons rfl (.cons rfl .nil))))))) rfl ?_
  rintro q ⟨hq, hgo⟩
  refine Gx.know (m' := [(0, .int .i64 n), (4, ptr b1 0), (5, ptr b2 0), (6, ptr b3 0), (13, .agg #[.slice ax1 nx1 cx1, .int .i64 s.n, .int .i64 s.who, .int .i64 s.val, .slice ax2 nx2 cx2, .slice ax3 nx3 cx3, .slice ay1 ny1 cy1, .int .i64 t.n, .int .i64 t.who, .int .i64 t.val, .slice ay2 ny2 cy2, .slice ay3 ny3 cy3]), (14, .int .i64 ((q : Nat) : Int))]) (.cons rfl (.cons rfl (.cons rfl (.cons rfl (.cons rfl (.cons rfl .nil)))))) (Gx.norm (l' := [Hp.rec_ b3 [.slice none 0 0, .int .i64 0, .int .i64 0, .int .i64 0, .slice none 0 0, .slice none 0 0], Hp.rec_ b2 [.slice ay1 ny1 cy1, .int .i64 t.n, .int .i64 t.who, .int .i64 t.val, .slice ay2 ny2 cy2, .slice ay3 ny3 cy3], Hp.rec_ b1 [.slice ax1 nx1 cx1, .int .i64 s.n, .int .i64 s.who, .int .i64 s.val, .slice ax2 nx2 cx2, .slice ax3 nx3 cx3]]) rfl ?_)
  rcases (show q = 0 ∨ q = 1 ∨ q = 2 from by omega) with rfl | rfl | rfl
  · refine Gx.know (m' := [(0, .int .i64 n), (4, ptr b1 0), (5, ptr b2 0), (6, ptr b3 0), (13, .agg #[.slice ax1 nx1 cx1, .int .i64 s.n, .int .i64 s.who, .int .i64 s.val, .slice ax2 nx2 cx2, .slice ax3 nx3 cx3, .slice ay1 ny1 cy1, .int .i64 t.n, .int .i64 t.who, .int .i64 t.val, .slice ay2 ny2 cy2, .slice ay3 ny3 cy3]), (14, .int .i64 0)]) (.cons rfl (.cons rfl (.cons rfl (.cons rfl (.cons rfl (.cons rfl .nil)))))) (Gx.norm (l' := [Hp.rec_ b3 [.slice none 0 0, .int .i64 0, .int .i64 0, .int .i64 0, .slice none 0 0, .slice none 0 0], Hp.rec_ b2 [.slice ay1 ny1 cy1, .int .i64 t.n, .int .i64 t.who, .int .i64 t.val, .slice ay2 ny2 cy2, .slice ay3 ny3 cy3], Hp.rec_ b1 [.slice ax1 nx1 cx1, .int .i64 s.n, .int .i64 s.who, .int .i64 s.val, .slice ax2 nx2 cx2, .slice ax3 nx3 cx3]]) rfl ?_)
    refine Gx.seq ?_
    refine Gx.region ?_
    refine Gx.val rfl rfl rfl (Val.cast (val_lss rfl rfl rfl) (v' := .bool true) rfl) ?_
    refine Gx.done ?_
    refine Gx.thenN ?_
    refine Gx.seq ?_
    refine Gx.t rfl ?_
    refine Gx.skip ?_
    refine Gx.thenN ?_
    refine Gx.seq ?_
    refine Gx.block ?_
    refine Gx.seq ?_
    refine Gx.region ?_
    refine Gx.val rfl rfl rfl (val_indexA (i := 0) (cs' := #[.slice ax1 nx1 cx1, .int .i64 s.n, .int .i64 s.who, .int .i64 s.val, .slice ax2 nx2 cx2, .slice ax3 nx3 cx3]) rfl Try.underlying51 Try.ty27 rfl rfl rfl (by decide) rfl) ?_
    refine Gx.eff rfl rfl rfl (eff_alloc rfl Try.ty27 (vs := [.slice none 0 0, .int .i64 0, .int .i64 0, .int .i64 0, .slice none 0 0, .slice none 0 0]) rfl) ?_
    rintro _ _ ⟨b4, rfl, rfl⟩
    refine Gx.eff0 rfl rfl (eff_store rfl Try.ty27 rfl rfl (us := [.slice ax1 nx1 cx1, .int .i64 s.n, .int .i64 s.who, .int .i64 s.val, .slice ax2 nx2 cx2, .slice ax3 nx3 cx3]) rfl rfl rfl (k := 0) rfl (rfl) (vs' := [.slice ax1 nx1 cx1, .int .i64 s.n, .int .i64 s.who, .int .i64 s.val, .slice ax2 nx2 cx2, .slice ax3 nx3 cx3]) (rfl) (l' := [Hp.rec_ b4 [.slice ax1 nx1 cx1, .int .i64 s.n, .int .i64 s.who, .int .i64 s.val, .slice ax2 nx2 cx2, .slice ax3 nx3 cx3], Hp.rec_ b3 [.slice none 0 0, .int .i64 0, .int .i64 0, .int .i64 0, .slice none 0 0, .slice none 0 0], Hp.rec_ b2 [.slice ay1 ny1 cy1, .int .i64 t.n, .int .i64 t.who, .int .i64 t.val, .slice ay2 ny2 cy2, .slice ay3 ny3 cy3], Hp.rec_ b1 [.slice ax1 nx1 cx1, .int .i64 s.n, .int .i64 s.who, .int .i64 s.val, .slice ax2 nx2 cx2, .slice ax3 nx3 cx3]]) rfl) ?_
    rintro _ _ rfl
    refine Gx.done ?_
    refine Gx.thenN ?_
    refine Gx.seq ?_
    refine Gx.region ?_
    refine Gx.val rfl rfl rfl (val_move rfl rfl) ?_
    refine Gx.val rfl rfl rfl (Val.cast (val_loadA rfl Try.ty27 rfl rfl rfl (cells_rec (k := 0) rfl)) (v' := .agg #[.slice ax1 nx1 cx1, .int .i64 s.n, .int .i64 s.who, .int .i64 s.val, .slice ax2 nx2 cx2, .slice ax3 nx3 cx3]) rfl) ?_
    refine Gx.eff rfl rfl rfl (eff_callE (vs := [.int .i64 n, .agg #[.slice ax1 nx1 cx1, .int .i64 s.n, .int .i64 s.who, .int .i64 s.val, .slice ax2 nx2 cx2, .slice ax3 nx3 cx3]]) rfl Try.fn18 rfl (R := (fun v => ∃ code : Int, v = .int .i64 code ∧ (code = 0 ↔ GoodC n (⟨xc, s, xa, xg⟩ : Cp)))) (fun w H => check_any (s := s) (hxc.below H.below) (hxa.below H.below) (hxg.below H.below))) ?_
    rintro _ _ ⟨⟨cd5, rfl, hcd5⟩, rfl⟩
    refine Gx.val rfl rfl rfl (val_assign rfl rfl) ?_
    refine Gx.done ?_
    refine Gx.thenN ?_
    refine Gx.seq ?_
    refine Gx.region ?_
    refine Gx.val rfl rfl rfl (val_move rfl rfl) ?_
    refine Gx.val rfl rfl rfl (val_neq rfl rfl rfl) ?_
    refine Gx.done ?_
    refine Gx.thenN ?_
    refine Gx.dec rfl (fun h6 => ?_) (fun h6 => ?_)
    · refine Gx.seq ?_
      refine Gx.region ?_
      refine Gx.val rfl rfl rfl (val_build rfl (qs := []) rfl rfl (fun w => by go_simp) (v := .agg #[.slice none 0 0, .int .i64 0, .int .i64 0, .int .i64 0, .slice none 0 0, .slice none 0 0])) ?_
      refine Gx.val rfl rfl rfl (val_move rfl rfl) ?_
      refine Gx.eff0 rfl rfl (eff_store rfl Try.ty27 rfl rfl (us := [.slice none 0 0, .int .i64 0, .int .i64 0, .int .i64 0, .slice none 0 0, .slice none 0 0]) rfl rfl rfl (k := 1) rfl (rfl) (vs' := [.slice none 0 0, .int .i64 0, .int .i64 0, .int .i64 0, .slice none 0 0, .slice none 0 0]) (rfl) (l' := [Hp.rec_ b4 [.slice ax1 nx1 cx1, .int .i64 s.n, .int .i64 s.who, .int .i64 s.val, .slice ax2 nx2 cx2, .slice ax3 nx3 cx3], Hp.rec_ b3 [.slice none 0 0, .int .i64 0, .int .i64 0, .int .i64 0, .slice none 0 0, .slice none 0 0], Hp.rec_ b2 [.slice ay1 ny1 cy1, .int .i64 t.n, .int .i64 t.who, .int .i64 t.val, .slice ay2 ny2 cy2, .slice ay3 ny3 cy3], Hp.rec_ b1 [.slice ax1 nx1 cx1, .int .i64 s.n, .int .i64 s.who, .int .i64 s.val, .slice ax2 nx2 cx2, .slice ax3 nx3 cx3]]) rfl) ?_
      rintro _ _ rfl
      refine Gx.val rfl rfl rfl (val_assign rfl rfl) ?_
      refine Gx.done ?_
      refine Gx.thenN ?_
      refine Gx.ret ?_
      refine Gx.blkR ?_
      refine Gx.thenR ?_
      refine Gx.thenR ?_
      refine Gx.blkR ?_
      refine Gx.thenR ?_
      refine Gx.drop 0 rfl ?_
      refine Gx.drop 1 rfl ?_
      refine Gx.drop 1 rfl ?_
      refine Gx.ownNil FD 3 ?_
      refine Gx.ownNil FD 3 ?_
      refine Gx.ownNil FI 1 ?_
      refine Gx.norm (l' := [Hp.own FI 1 (.slice none 0 0) ([]), Hp.own FD 3 (.slice none 0 0) ([]), Hp.own FD 3 (.slice none 0 0) ([]), Hp.rec_ b3 [.slice none 0 0, .int .i64 0, .int .i64 0, .int .i64 0, .slice none 0 0, .slice none 0 0]]) rfl ?_
      refine Gx.retC2d Try.results9 Try.ty27 rfl rfl (us := [.slice none 0 0, .int .i64 0, .int .i64 0, .int .i64 0, .slice none 0 0, .slice none 0 0]) rfl (k := 3) rfl rfl ?_
      exact ⟨_, _, _, cd5, cp0, ⟨none, 0, 0, rfl⟩, ⟨none, 0, 0, rfl⟩, ⟨none, 0, 0, rfl⟩, rfl, rfl, fun q => absurd q h6, fun qa qb => absurd (hcd5.2 qa) h6, fine_cp0⟩
    refine Gx.skip ?_
    refine Gx.blkN ?_
    refine Gx.thenN ?_
    refine Gx.region ?_
    refine Gx.val rfl rfl rfl (val_add rfl rfl rfl (r := 1) (w64 (by omega) (by omega))) ?_
    refine Gx.val rfl rfl rfl (val_move rfl rfl) ?_
    refine Gx.done ?_
    refine Gx.thenN ?_
    refine Gx.drop 0 rfl ?_
    exact Gx.round 1 ⟨by first | omega | (dsimp only; omega), hcd5.1 (Classical.not_not.1 h6)⟩ (by first | omega | (dsimp only; omega)) ((.cons rfl (.cons rfl (.cons rfl (.cons rfl (.cons rfl (.cons rfl .nil))))))) rfl
  · refine Gx.know (m' := [(0, .int .i64 n), (4, ptr b1 0), (5, ptr b2 0), (6, ptr b3 0), (13, .agg #[.slice ax1 nx1 cx1, .int .i64 s.n, .int .i64 s.who, .int .i64 s.val, .slice ax2 nx2 cx2, .slice ax3 nx3 cx3, .slice ay1 ny1 cy1, .int .i64 t.n, .int .i64 t.who, .int .i64 t.val, .slice ay2 ny2 cy2, .slice ay3 ny3 cy3]), (14, .int .i64 1)]) (.cons rfl (.cons rfl (.cons rfl (.cons rfl (.cons rfl (.cons rfl .nil)))))) (Gx.norm (l' := [Hp.rec_ b3 [.slice none 0 0, .int .i64 0, .int .i64 0, .int .i64 0, .slice none 0 0, .slice none 0 0], Hp.rec_ b2 [.slice ay1 ny1 cy1, .int .i64 t.n, .int .i64 t.who, .int .i64 t.val, .slice ay2 ny2 cy2, .slice ay3 ny3 cy3], Hp.rec_ b1 [.slice ax1 nx1 cx1, .int .i64 s.n, .int .i64 s.who, .int .i64 s.val, .slice ax2 nx2 cx2, .slice ax3 nx3 cx3]]) rfl ?_)
    refine Gx.seq ?_
    refine Gx.region ?_
    refine Gx.val rfl rfl rfl (Val.cast (val_lss rfl rfl rfl) (v' := .bool true) rfl) ?_
    refine Gx.done ?_
    refine Gx.thenN ?_
    refine Gx.seq ?_
    refine Gx.t rfl ?_
    refine Gx.skip ?_
    refine Gx.thenN ?_
    refine Gx.seq ?_
    refine Gx.block ?_
    refine Gx.seq ?_
    refine Gx.region ?_
    refine Gx.val rfl rfl rfl (val_indexA (i := 1) (cs' := #[.slice ay1 ny1 cy1, .int .i64 t.n, .int .i64 t.who, .int .i64 t.val, .slice ay2 ny2 cy2, .slice ay3 ny3 cy3]) rfl Try.underlying51 Try.ty27 rfl rfl rfl (by decide) rfl) ?_
    refine Gx.eff rfl rfl rfl (eff_alloc rfl Try.ty27 (vs := [.slice none 0 0, .int .i64 0, .int .i64 0, .int .i64 0, .slice none 0 0, .slice none 0 0]) rfl) ?_
    rintro _ _ ⟨b7, rfl, rfl⟩
    refine Gx.eff0 rfl rfl (eff_store rfl Try.ty27 rfl rfl (us := [.slice ay1 ny1 cy1, .int .i64 t.n, .int .i64 t.who, .int .i64 t.val, .slice ay2 ny2 cy2, .slice ay3 ny3 cy3]) rfl rfl rfl (k := 0) rfl (rfl) (vs' := [.slice ay1 ny1 cy1, .int .i64 t.n, .int .i64 t.who, .int .i64 t.val, .slice ay2 ny2 cy2, .slice ay3 ny3 cy3]) (rfl) (l' := [Hp.rec_ b7 [.slice ay1 ny1 cy1, .int .i64 t.n, .int .i64 t.who, .int .i64 t.val, .slice ay2 ny2 cy2, .slice ay3 ny3 cy3], Hp.rec_ b3 [.slice none 0 0, .int .i64 0, .int .i64 0, .int .i64 0, .slice none 0 0, .slice none 0 0], Hp.rec_ b2 [.slice ay1 ny1 cy1, .int .i64 t.n, .int .i64 t.who, .int .i64 t.val, .slice ay2 ny2 cy2, .slice ay3 ny3 cy3], Hp.rec_ b1 [.slice ax1 nx1 cx1, .int .i64 s.n, .int .i64 s.who, .int .i64 s.val, .slice ax2 nx2 cx2, .slice ax3 nx3 cx3]]) rfl) ?_
    rintro _ _ rfl
    refine Gx.done ?_
    refine Gx.thenN ?_
    refine Gx.seq ?_
    refine Gx.region ?_
    refine Gx.val rfl rfl rfl (val_move rfl rfl) ?_
    refine Gx.val rfl rfl rfl (Val.cast (val_loadA rfl Try.ty27 rfl rfl rfl (cells_rec (k := 0) rfl)) (v' := .agg #[.slice ay1 ny1 cy1, .int .i64 t.n, .int .i64 t.who, .int .i64 t.val, .slice ay2 ny2 cy2, .slice ay3 ny3 cy3]) rfl) ?_
    refine Gx.eff rfl rfl rfl (eff_callE (vs := [.int .i64 n, .agg #[.slice ay1 ny1 cy1, .int .i64 t.n, .int .i64 t.who, .int .i64 t.val, .slice ay2 ny2 cy2, .slice ay3 ny3 cy3]]) rfl Try.fn18 rfl (R := (fun v => ∃ code : Int, v = .int .i64 code ∧ (code = 0 ↔ GoodC n (⟨yc, t, ya, yg⟩ : Cp)))) (fun w H => check_any (s := t) (hyc.below H.below) (hya.below H.below) (hyg.below H.below))) ?_
    rintro _ _ ⟨⟨cd8, rfl, hcd8⟩, rfl⟩
    refine Gx.val rfl rfl rfl (val_assign rfl rfl) ?_
    refine Gx.done ?_
    refine Gx.thenN ?_
    refine Gx.seq ?_
    refine Gx.region ?_
    refine Gx.val rfl rfl rfl (val_move rfl rfl) ?_
    refine Gx.val rfl rfl rfl (val_neq rfl rfl rfl) ?_
    refine Gx.done ?_
    refine Gx.thenN ?_
    refine Gx.dec rfl (fun h9 => ?_) (fun h9 => ?_)
    · refine Gx.seq ?_
      refine Gx.region ?_
      refine Gx.val rfl rfl rfl (val_build rfl (qs := []) rfl rfl (fun w => by go_simp) (v := .agg #[.slice none 0 0, .int .i64 0, .int .i64 0, .int .i64 0, .slice none 0 0, .slice none 0 0])) ?_
      refine Gx.val rfl rfl rfl (val_move rfl rfl) ?_
      refine Gx.eff0 rfl rfl (eff_store rfl Try.ty27 rfl rfl (us := [.slice none 0 0, .int .i64 0, .int .i64 0, .int .i64 0, .slice none 0 0, .slice none 0 0]) rfl rfl rfl (k := 1) rfl (rfl) (vs' := [.slice none 0 0, .int .i64 0, .int .i64 0, .int .i64 0, .slice none 0 0, .slice none 0 0]) (rfl) (l' := [Hp.rec_ b7 [.slice ay1 ny1 cy1, .int .i64 t.n, .int .i64 t.who, .int .i64 t.val, .slice ay2 ny2 cy2, .slice ay3 ny3 cy3], Hp.rec_ b3 [.slice none 0 0, .int .i64 0, .int .i64 0, .int .i64 0, .slice none 0 0, .slice none 0 0], Hp.rec_ b2 [.slice ay1 ny1 cy1, .int .i64 t.n, .int .i64 t.who, .int .i64 t.val, .slice ay2 ny2 cy2, .slice ay3 ny3 cy3], Hp.rec_ b1 [.slice ax1 nx1 cx1, .int .i64 s.n, .int .i64 s.who, .int .i64 s.val, .slice ax2 nx2 cx2, .slice ax3 nx3 cx3]]) rfl) ?_
      rintro _ _ rfl
      refine Gx.val rfl rfl rfl (val_assign rfl rfl) ?_
      refine Gx.done ?_
      refine Gx.thenN ?_
      refine Gx.ret ?_
      refine Gx.blkR ?_
      refine Gx.thenR ?_
      refine Gx.thenR ?_
      refine Gx.blkR ?_
      refine Gx.thenR ?_
      refine Gx.drop 0 rfl ?_
      refine Gx.drop 1 rfl ?_
      refine Gx.drop 1 rfl ?_
      refine Gx.ownNil FD 3 ?_
      refine Gx.ownNil FD 3 ?_
      refine Gx.ownNil FI 1 ?_
      refine Gx.norm (l' := [Hp.own FI 1 (.slice none 0 0) ([]), Hp.own FD 3 (.slice none 0 0) ([]), Hp.own FD 3 (.slice none 0 0) ([]), Hp.rec_ b3 [.slice none 0 0, .int .i64 0, .int .i64 0, .int .i64 0, .slice none 0 0, .slice none 0 0]]) rfl ?_
      refine Gx.retC2d Try.results9 Try.ty27 rfl rfl (us := [.slice none 0 0, .int .i64 0, .int .i64 0, .int .i64 0, .slice none 0 0, .slice none 0 0]) rfl (k := 3) rfl rfl ?_
      exact ⟨_, _, _, cd8, cp0, ⟨none, 0, 0, rfl⟩, ⟨none, 0, 0, rfl⟩, ⟨none, 0, 0, rfl⟩, rfl, rfl, fun q => absurd q h9, fun qa qb => absurd (hcd8.2 qb) h9, fine_cp0⟩
    refine Gx.skip ?_
    refine Gx.blkN ?_
    refine Gx.thenN ?_
    refine Gx.region ?_
    refine Gx.val rfl rfl rfl (val_add rfl rfl rfl (r := 2) (w64 (by omega) (by omega))) ?_
    refine Gx.val rfl rfl rfl (val_move rfl rfl) ?_
    refine Gx.done ?_
    refine Gx.thenN ?_
    refine Gx.drop 0 rfl ?_
    exact Gx.round 2 ⟨by first | omega | (dsimp only; omega), ⟨hgo, hcd8.1 (Classical.not_not.1 h9)⟩⟩ (by first | omega | (dsimp only; omega)) ((.cons rfl (.cons rfl (.cons rfl (.cons rfl (.cons rfl (.cons rfl .nil))))))) rfl
  · refine Gx.know (m' := [(0, .int .i64 n), (4, ptr b1 0), (5, ptr b2 0), (6, ptr b3 0), (13, .agg #[.slice ax1 nx1 cx1, .int .i64 s.n, .int .i64 s.who, .int .i64 s.val, .slice ax2 nx2 cx2, .slice ax3 nx3 cx3, .slice ay1 ny1 cy1, .int .i64 t.n, .int .i64 t.who, .int .i64 t.val, .slice ay2 ny2 cy2, .slice ay3 ny3 cy3]), (14, .int .i64 2)]) (.cons rfl (.cons rfl (.cons rfl (.cons rfl (.cons rfl (.cons rfl .nil)))))) (Gx.norm (l' := [Hp.rec_ b3 [.slice none 0 0, .int .i64 0, .int .i64 0, .int .i64 0, .slice none 0 0, .slice none 0 0], Hp.rec_ b2 [.slice ay1 ny1 cy1, .int .i64 t.n, .int .i64 t.who, .int .i64 t.val, .slice ay2 ny2 cy2, .slice ay3 ny3 cy3], Hp.rec_ b1 [.slice ax1 nx1 cx1, .int .i64 s.n, .int .i64 s.who, .int .i64 s.val, .slice ax2 nx2 cx2, .slice ax3 nx3 cx3]]) rfl ?_)
    refine Gx.seq ?_
    refine Gx.region ?_
    refine Gx.val rfl rfl rfl (Val.cast (val_lss rfl rfl rfl) (v' := .bool false) rfl) ?_
    refine Gx.done ?_
    refine Gx.thenN ?_
    refine Gx.seq ?_
    refine Gx.f rfl ?_
    refine Gx.exit ?_
    refine Gx.thenE ?_
    refine Gx.thenE ?_
    refine Gx.blkE ?_
    refine Gx.thenN ?_
    refine Gx.seq ?_
    refine Gx.region ?_
    refine Gx.val rfl rfl rfl (Val.cast (val_loadA rfl Try.ty27 rfl rfl rfl (cells_rec (k := 2) rfl)) (v' := .agg #[.slice ax1 nx1 cx1, .int .i64 s.n, .int .i64 s.who, .int .i64 s.val, .slice ax2 nx2 cx2, .slice ax3 nx3 cx3]) rfl) ?_
    refine Gx.val rfl rfl rfl (Val.cast (val_loadA rfl Try.ty27 rfl rfl rfl (cells_rec (k := 1) rfl)) (v' := .agg #[.slice ay1 ny1 cy1, .int .i64 t.n, .int .i64 t.who, .int .i64 t.val, .slice ay2 ny2 cy2, .slice ay3 ny3 cy3]) rfl) ?_
    have fa := hgo.1.facts
    have fb := hgo.2.facts
    have fl1 := fa.ln
    have fl2 := fb.ln
    have fn1 := fa.n1
    have fa1 := fa.al
    have fa2 := fa.gl
    have fb1 := fb.al
    have fb2 := fb.gl
    dsimp only at fl1 fl2 fa1 fa2 fb1 fb2
    refine Gx.eff rfl rfl rfl (eff_callN (vs := [.agg #[.slice ax1 nx1 cx1, .int .i64 s.n, .int .i64 s.who, .int .i64 s.val, .slice ax2 nx2 cx2, .slice ax3 nx3 cx3], .agg #[.slice ay1 ny1 cy1, .int .i64 t.n, .int .i64 t.who, .int .i64 t.val, .slice ay2 ny2 cy2, .slice ay3 ny3 cy3]]) rfl Try.fn19 rfl (fun w H => merge_any (s := s) (t := t) (hxc.below H.below) (hxa.below H.below) (hxg.below H.below) (hyc.below H.below) (hya.below H.below) (hyg.below H.below) ra rg rb rh (by omega) (by omega) (by omega) (by omega) (by omega) (by omega))) ?_
    rintro _ _ ⟨_, ⟨mp, mq, mr, code, o, hmc, himp, himq, himr, rfl, rfl⟩, rfl⟩
    refine Gx.norm (l' := [Hp.own FI 1 mp o.cn, Hp.own FD 3 mq o.ad, Hp.own FD 3 mr o.go, Hp.rec_ b3 [.slice none 0 0, .int .i64 0, .int .i64 0, .int .i64 0, .slice none 0 0, .slice none 0 0], Hp.rec_ b2 [.slice ay1 ny1 cy1, .int .i64 t.n, .int .i64 t.who, .int .i64 t.val, .slice ay2 ny2 cy2, .slice ay3 ny3 cy3], Hp.rec_ b1 [.slice ax1 nx1 cx1, .int .i64 s.n, .int .i64 s.who, .int .i64 s.val, .slice ax2 nx2 cx2, .slice ax3 nx3 cx3]]) rfl ?_
    refine Gx.val rfl rfl rfl (val_extract rfl rfl rfl) ?_
    refine Gx.val rfl rfl rfl (val_extract rfl rfl rfl) ?_
    refine Gx.eff0 rfl rfl (eff_store rfl Try.ty27 rfl rfl (us := [mp, .int .i64 o.la.n, .int .i64 o.la.who, .int .i64 o.la.val, mq, mr]) rfl rfl (by simp only [List.all_cons, List.all_nil, Bool.true_and, Bool.and_true, IsS.one himp, IsS.one himq, IsS.one himr] <;> rfl) (k := 3) rfl (rfl) (vs' := [mp, .int .i64 o.la.n, .int .i64 o.la.who, .int .i64 o.la.val, mq, mr]) (rfl) (l' := [Hp.own FI 1 mp o.cn, Hp.own FD 3 mq o.ad, Hp.own FD 3 mr o.go, Hp.rec_ b3 [mp, .int .i64 o.la.n, .int .i64 o.la.who, .int .i64 o.la.val, mq, mr], Hp.rec_ b2 [.slice ay1 ny1 cy1, .int .i64 t.n, .int .i64 t.who, .int .i64 t.val, .slice ay2 ny2 cy2, .slice ay3 ny3 cy3], Hp.rec_ b1 [.slice ax1 nx1 cx1, .int .i64 s.n, .int .i64 s.who, .int .i64 s.val, .slice ax2 nx2 cx2, .slice ax3 nx3 cx3]]) rfl) ?_
    rintro _ _ rfl
    refine Gx.val rfl rfl rfl (val_assign rfl rfl) ?_
    refine Gx.done ?_
    refine Gx.thenN ?_
    refine Gx.ret ?_
    refine Gx.front 3 rfl ?_
    refine Gx.front 3 rfl ?_
    refine Gx.front 3 rfl ?_
    refine Gx.front 3 rfl ?_
    refine Gx.drop 5 rfl ?_
    refine Gx.drop 4 rfl ?_
    refine Gx.front 3 rfl ?_
    refine Gx.front 3 rfl ?_
    refine Gx.front 3 rfl ?_
    refine Gx.front 3 rfl ?_
    refine Gx.norm (l' := [Hp.own FI 1 mp o.cn, Hp.own FD 3 mq o.ad, Hp.own FD 3 mr o.go, Hp.rec_ b3 [mp, .int .i64 o.la.n, .int .i64 o.la.who, .int .i64 o.la.val, mq, mr]]) rfl ?_
    refine Gx.retC2d Try.results9 Try.ty27 rfl rfl (us := [mp, .int .i64 o.la.n, .int .i64 o.la.who, .int .i64 o.la.val, mq, mr]) rfl (k := 3) rfl rfl ?_
    exact ⟨mp, mq, mr, code, o, himp, himq, himr, rfl, rfl, fun _ => hgo, fun _ _ => hmc, by rw [show o = (mergeC (⟨xc, s, xa, xg⟩ : Cp) (⟨yc, t, ya, yg⟩ : Cp)).2 from by rw [hmc]]; exact fine_merge (by dsimp only; omega) (by dsimp only; omega) ra rg rb rh⟩

/-- a copy in memory, to be read -/
structure InM (w : World) (p q r : Value) (c : Cp) : Prop where
  cn : SlS FI 1 w p c.cn
  ad : SlS FD 3 w q c.ad
  go : SlS FD 3 w r c.go
theorem InM.below {w w' : World} {p q r : Value} {c : Cp} (h : InM w p q r c) (hb : Below w.heap.size w w') : InM w' p q r c := ⟨h.cn.below hb, h.ad.below hb, h.go.below hb⟩
theorem mg_new {W : World} {n : Int} {p1 q1 r1 p2 q2 r2 : Value} {a b : Cp} (ha : InM W p1 q1 r1 a) (hb : InM W p2 q2 r2 b) (ra : ∀ x ∈ a.ad, Rng x) (rg : ∀ x ∈ a.go, Rng x) (rb : ∀ x ∈ b.ad, Rng x) (rh : ∀ x ∈ b.go, Rng x) :
    Calls Try.prog 9 #[.int .i64 n, .agg #[p1, .int .i64 a.la.n, .int .i64 a.la.who, .int .i64 a.la.val, q1, r1], .agg #[p2, .int .i64 b.la.n, .int .i64 b.la.who, .int .i64 b.la.val, q2, r2]] W fun e w' => ∃ u, e = .returned u ∧ (∃ (p q r : Value) (code : Int) (o : Cp), u = .tuple #[.agg #[p, .int .i64 o.la.n, .int .i64 o.la.who, .int .i64 o.la.val, q, r], .int .i64 code] ∧ InM w' p q r o ∧ (code = 0 → GoodC n a ∧ GoodC n b) ∧ (GoodC n a → GoodC n b → mergeC a b = (code, o)) ∧ FineC o) ∧ Below W.heap.size W w' := by
  obtain ⟨h1, h2, h3⟩ := ha
  obtain ⟨h4, h5, h6⟩ := hb
  obtain ⟨_, _, _, rfl⟩ := h1.isS
  obtain ⟨_, _, _, rfl⟩ := h2.isS
  obtain ⟨_, _, _, rfl⟩ := h3.isS
  obtain ⟨_, _, _, rfl⟩ := h4.isS
  obtain ⟨_, _, _, rfl⟩ := h5.isS
  obtain ⟨_, _, _, rfl⟩ := h6.isS
  refine (mg_lit (n := n) (s := a.la) (t := b.la) h1 h2 h3 h4 h5 h6 ra rg rb rh).mono ?_
  rintro e w' ⟨_, _, rfl, ⟨p, q, r, code, o, i1, i2, i3, rfl, rfl, k1, k2, k3⟩, H⟩
  have f1 := k3.cl; have f2 := k3.al; have f3 := k3.gl
  exact ⟨_, rfl, ⟨p, q, r, code, o, rfl, ⟨(H.at_ (k := 0) rfl).sls (by omega), (H.at_ (k := 1) rfl).sls (by omega), (H.at_ (k := 2) rfl).sls (by omega)⟩, k1, k2, k3⟩, H.below⟩
end Go.Proofs.Ytfpkfbffpkjgbaa
