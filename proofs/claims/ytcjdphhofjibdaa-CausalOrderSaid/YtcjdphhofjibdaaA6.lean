/- A script played. The walk. No condition. -/
import Derived.Test.YtcjdphhofjibdaaA5
import Derived.Test.YtcjdphhofjibdaaX7
namespace Go.Proofs.Ytcjdphhofjibdaa
open Go.RowKit
set_option linter.unusedVariables false
set_option linter.unusedSimpArgs false
set_option maxRecDepth 100000

abbrev FM (c : Mv) : List Value := [.int .i64 c.kind, .int .i64 c.who, .int .i64 c.msg]
theorem FM_len (c : Mv) : (FM c).length = 3 := rfl
theorem FM_one (p : Mv) (u : Value) (h : u ∈ FM p) : u.oneCell' = true := by simp [FM] at h; rcases h with rfl | rfl | rfl <;> rfl
theorem Try.eM : Elem Try.prog 22 35 (.agg #[.int .i64 0, .int .i64 0, .int .i64 0]) 3 24 := ⟨Try.underlying22, by kernel_rfl, rfl, by decide⟩
abbrev FZ (x : Int) : List Value := [.int .i64 x]
theorem FZ_len (x : Int) : (FZ x).length = 1 := rfl
theorem FZ_one (p : Int) (u : Value) (h : u ∈ FZ p) : u.oneCell' = true := by simp [FZ] at h; subst h; rfl
theorem Try.eZ : Elem Try.prog 23 27 (.int .i64 0) 1 8 := ⟨Try.underlying23, by kernel_rfl, rfl, by decide⟩
structure Sv where
  a : Option Addr
  n : Nat
  c : Nat
abbrev FV (x : Sv) : List Value := [.slice x.a x.n x.c]
theorem FV_len (x : Sv) : (FV x).length = 1 := rfl
theorem FV_one (p : Sv) (u : Value) (h : u ∈ FV p) : u.oneCell' = true := by simp [FV] at h; subst h; rfl
theorem Try.eV : Elem Try.prog 24 30 (.slice none 0 0) 1 24 := ⟨Try.underlying24, by kernel_rfl, rfl, by decide⟩
def lstC (s : CS) (k : Nat) : List Nat := ((s.ps[k]?).map Pt.lst).getD []
def VOk (pms : List Pm) (vals : List Sv) : Prop := ∀ (k : Nat) (v : Sv), vals[k]? = some v → ∃ m, pms[k]? = some m ∧ m.lv = .slice v.a v.n v.c
theorem VOk.snoc {pms : List Pm} {vals : List Sv} {m : Pm} {v : Sv} (h : VOk pms vals) (hm : pms[vals.length]? = some m) (hv : m.lv = .slice v.a v.n v.c) : VOk pms (vals ++ [v]) := fun k x hx => by
  rcases Nat.lt_trichotomy k vals.length with c | c | c
  · rw [List.getElem?_append_left c] at hx; exact h k x hx
  · subst c; simp at hx; subst hx; exact ⟨m, hm, hv⟩
  · rw [List.getElem?_eq_none (by simp; omega)] at hx; cases hx
theorem play_no {W : World} {k : Int} {sv : Value} {cs : List Mv} (hs : SlS FM 3 W sv cs) (hbad : k < 1 ∨ 6 < k ∨ 120 < (cs.length : Int)) :
    Calls Try.prog 7 #[.int .i64 k, sv] W fun e w' => e = .returned (.tuple #[.agg #[.slice none 0 0, .slice none 0 0], .int .i64 1]) ∧ Below W.heap.size W w' := by
  refine calls_pure (Gx.enter (l := []) Try.func7 rfl Try.ntmps7 rfl (Sat.start W) ?_)
  refine Gx.know (m' := [(0, .int .i64 k), (1, sv)]) (.cons rfl (.cons rfl .nil)) ?_
  refine Gx.seq ?_
  refine Gx.region ?_
  refine Gx.eff rfl rfl rfl (eff_alloc rfl Try.ty26 (vs := [.slice none 0 0, .slice none 0 0]) rfl) ?_
  rintro _ _ ⟨b1, rfl, rfl⟩
  refine Gx.val rfl rfl rfl (val_assign rfl rfl) ?_
  refine Gx.done ?_
  refine Gx.thenN ?_
  refine Gx.seq ?_
  refine Gx.seq ?_
  refine Gx.region ?_
  refine Gx.val rfl rfl rfl (val_move rfl rfl) ?_
  refine Gx.val rfl rfl rfl (val_lss rfl rfl rfl) ?_
  refine Gx.val rfl rfl rfl (val_move rfl rfl) ?_
  refine Gx.cases (t := 14) rfl (fun h2 => ?_) (fun h2 => ?_)
  · refine Gx.skipg rfl rfl rfl rfl rfl rfl ?_
    refine Gx.skipg rfl rfl rfl rfl rfl rfl ?_
    refine Gx.val rfl rfl rfl (val_pickT rfl rfl rfl) ?_
    refine Gx.val rfl rfl rfl (val_move rfl rfl) ?_
    refine Gx.skipg rfl rfl rfl rfl rfl rfl ?_
    refine Gx.skipg rfl rfl rfl rfl rfl rfl ?_
    refine Gx.skipg rfl rfl rfl rfl rfl rfl ?_
    refine Gx.val rfl rfl rfl (val_pickT rfl rfl rfl) ?_
    refine Gx.done ?_
    refine Gx.thenN ?_
    refine Gx.t rfl ?_
    refine Gx.seq ?_
    refine Gx.region ?_
    refine Gx.val rfl rfl rfl (val_build rfl (qs := []) rfl rfl (fun w => by go_simp) (v := .agg #[.slice none 0 0, .slice none 0 0])) ?_
    refine Gx.eff0 rfl rfl (eff_store rfl Try.ty26 rfl rfl (us := [.slice none 0 0, .slice none 0 0]) rfl rfl rfl (k := 0) rfl (rfl) (vs' := [.slice none 0 0, .slice none 0 0]) (rfl) (l' := [Hp.rec_ b1 [.slice none 0 0, .slice none 0 0]]) rfl) ?_
    rintro _ _ rfl
    refine Gx.val rfl rfl rfl (val_assign rfl rfl) ?_
    refine Gx.done ?_
    refine Gx.thenN ?_
    refine Gx.ret ?_
    refine Gx.thenR ?_
    refine Gx.retC2 Try.results7 Try.ty26 rfl rfl (us := [.slice none 0 0, .slice none 0 0]) rfl (k := 0) rfl rfl ?_
    rfl
  · refine Gx.valg rfl rfl rfl rfl rfl (val_move rfl rfl) ?_
    refine Gx.valg rfl rfl rfl rfl rfl (val_gtr rfl rfl rfl) ?_
    refine Gx.val rfl rfl rfl (val_pickF rfl rfl rfl) ?_
    refine Gx.val rfl rfl rfl (val_move rfl rfl) ?_
    refine Gx.cases (t := 18) rfl (fun h3 => ?_) (fun h3 => ?_)
    · refine Gx.skipg rfl rfl rfl rfl rfl rfl ?_
      refine Gx.skipg rfl rfl rfl rfl rfl rfl ?_
      refine Gx.skipg rfl rfl rfl rfl rfl rfl ?_
      refine Gx.val rfl rfl rfl (val_pickT rfl rfl rfl) ?_
      refine Gx.done ?_
      refine Gx.thenN ?_
      refine Gx.t rfl ?_
      refine Gx.seq ?_
      refine Gx.region ?_
      refine Gx.val rfl rfl rfl (val_build rfl (qs := []) rfl rfl (fun w => by go_simp) (v := .agg #[.slice none 0 0, .slice none 0 0])) ?_
      refine Gx.eff0 rfl rfl (eff_store rfl Try.ty26 rfl rfl (us := [.slice none 0 0, .slice none 0 0]) rfl rfl rfl (k := 0) rfl (rfl) (vs' := [.slice none 0 0, .slice none 0 0]) (rfl) (l' := [Hp.rec_ b1 [.slice none 0 0, .slice none 0 0]]) rfl) ?_
      rintro _ _ rfl
      refine Gx.val rfl rfl rfl (val_assign rfl rfl) ?_
      refine Gx.done ?_
      refine Gx.thenN ?_
      refine Gx.ret ?_
      refine Gx.thenR ?_
      refine Gx.retC2 Try.results7 Try.ty26 rfl rfl (us := [.slice none 0 0, .slice none 0 0]) rfl (k := 0) rfl rfl ?_
      rfl
    · refine Gx.valg rfl rfl rfl rfl rfl (val_move rfl rfl) ?_
      refine Gx.valg rfl rfl rfl rfl rfl (val_len rfl Try.underlying22 rfl (len_base hs)) ?_
      refine Gx.valg rfl rfl rfl rfl rfl (val_gtr rfl rfl rfl) ?_
      refine Gx.val rfl rfl rfl (val_pickF rfl rfl rfl) ?_
      refine Gx.done ?_
      refine Gx.thenN ?_
      refine Gx.dec rfl (fun h4 => ?_) (fun h4 => ?_)
      · refine Gx.seq ?_
        refine Gx.region ?_
        refine Gx.val rfl rfl rfl (val_build rfl (qs := []) rfl rfl (fun w => by go_simp) (v := .agg #[.slice none 0 0, .slice none 0 0])) ?_
        refine Gx.eff0 rfl rfl (eff_store rfl Try.ty26 rfl rfl (us := [.slice none 0 0, .slice none 0 0]) rfl rfl rfl (k := 0) rfl (rfl) (vs' := [.slice none 0 0, .slice none 0 0]) (rfl) (l' := [Hp.rec_ b1 [.slice none 0 0, .slice none 0 0]]) rfl) ?_
        rintro _ _ rfl
        refine Gx.val rfl rfl rfl (val_assign rfl rfl) ?_
        refine Gx.done ?_
        refine Gx.thenN ?_
        refine Gx.ret ?_
        refine Gx.thenR ?_
        refine Gx.retC2 Try.results7 Try.ty26 rfl rfl (us := [.slice none 0 0, .slice none 0 0]) rfl (k := 0) rfl rfl ?_
        rfl
      · exfalso; omega

theorem play_raw {W : World} {n : Nat} {sv : Value} {cs : List Mv} (h1n : 1 ≤ n) (h6n : n ≤ 6) (hs : SlS FM 3 W sv cs) (hcl : cs.length ≤ 120) :
    Calls Try.prog 7 #[.int .i64 ((n : Nat) : Int), sv] W (Ret W fun v l => ∃ (cv dv : Value) (vals : List Sv) (mms : List Mm) (pms : List Pm) (P : Hp), v = .tuple #[.agg #[cv, dv], .int .i64 0] ∧ l = [Hp.own FZ 1 cv (codesC (cs0 n) cs), Hp.own FV 1 dv vals, Hp.big procH pms, P] ∧ WOk mms pms (stC (cs0 n) cs) ∧ vals.length = n ∧ VOk pms vals) := by
  refine Gx.enter (l := []) Try.func7 rfl Try.ntmps7 rfl (Sat.start W) ?_
  refine Gx.know (m' := [(0, .int .i64 ((n : Nat) : Int)), (1, sv)]) (.cons rfl (.cons rfl .nil)) ?_
  refine Gx.seq ?_
  refine Gx.region ?_
  refine Gx.eff rfl rfl rfl (eff_alloc rfl Try.ty26 (vs := [.slice none 0 0, .slice none 0 0]) rfl) ?_
  rintro _ _ ⟨b1, rfl, rfl⟩
  refine Gx.val rfl rfl rfl (val_assign rfl rfl) ?_
  refine Gx.done ?_
  refine Gx.thenN ?_
  refine Gx.seq ?_
  refine Gx.seq ?_
  refine Gx.region ?_
  refine Gx.val rfl rfl rfl (val_move rfl rfl) ?_
  refine Gx.val rfl rfl rfl (val_lss rfl rfl rfl) ?_
  refine Gx.val rfl rfl rfl (val_move rfl rfl) ?_
  refine Gx.slot (t := 14) (v := .bool false) (look_decF rfl (by omega)) ?_
  refine Gx.valg rfl rfl rfl rfl rfl (val_move rfl rfl) ?_
  refine Gx.valg rfl rfl rfl rfl rfl (val_gtr rfl rfl rfl) ?_
  refine Gx.val rfl rfl rfl (val_pickF rfl rfl rfl) ?_
  refine Gx.val rfl rfl rfl (val_move rfl rfl) ?_
  refine Gx.slot (t := 18) (v := .bool false) (look_decF rfl (by omega)) ?_
  refine Gx.valg rfl rfl rfl rfl rfl (val_move rfl rfl) ?_
  refine Gx.valg rfl rfl rfl rfl rfl (val_len rfl Try.underlying22 rfl (len_base hs)) ?_
  refine Gx.valg rfl rfl rfl rfl rfl (val_gtr rfl rfl rfl) ?_
  refine Gx.val rfl rfl rfl (val_pickF rfl rfl rfl) ?_
  refine Gx.done ?_
  refine Gx.thenN ?_
  refine Gx.decF rfl (by omega) ?_
  refine Gx.skip ?_
  refine Gx.thenN ?_
  refine Gx.seq ?_
  refine Gx.region ?_
  refine Gx.val rfl rfl rfl (val_build rfl (qs := []) rfl rfl (fun w => by go_simp) (v := .agg #[.slice none 0 0, .slice none 0 0])) ?_
  refine Gx.eff rfl rfl rfl (eff_box rfl rfl (vs := [.slice none 0 0, .slice none 0 0]) rfl) ?_
  rintro _ _ ⟨b2, rfl, rfl⟩
  refine Gx.val rfl rfl rfl (val_assign rfl rfl) ?_
  refine Gx.done ?_
  refine Gx.thenN ?_
  refine Gx.seq ?_
  refine Gx.seq ?_
  refine Gx.ownNil FP 1 ?_
  refine Gx.emp ?_
  refine Gx.norm (l' := [Hp.big procH ([] : List Pm), Hp.own FP 1 (.slice none 0 0) ([]), Hp.rec_ b2 [.slice none 0 0, .slice none 0 0], Hp.rec_ b1 [.slice none 0 0, .slice none 0 0]]) rfl ?_
  refine Gx.region ?_
  refine Gx.val rfl rfl rfl (val_move rfl rfl) ?_
  refine Gx.val rfl rfl rfl (val_move rfl rfl) ?_
  refine Gx.done ?_
  refine Gx.thenN ?_
  refine Gx.block ?_
  refine Gx.loop (ι := Nat × Value × (List Pm)) (fun ξ => (ξ.1 ≤ n) ∧ (ξ.2.2.map Pm.p = List.replicate ξ.1 (⟨[], List.replicate n 0, [], []⟩ : Pt)) ∧ (IsS ξ.2.1) ∧ (ξ.2.2.length = ξ.1) ∧ (∀ m ∈ ξ.2.2, POk m)) (fun ξ => [(4, ptr b1 0), (6, ptr b2 0), (0, .int .i64 ((n : Nat) : Int)), (1, sv), (26, .int .i64 ((n : Nat) : Int)), (27, .int .i64 ((ξ.1 : Nat) : Int))]) (fun ξ => [Hp.big procH ξ.2.2, Hp.own FP 1 ξ.2.1 (ξ.2.2.map Pm.b), Hp.rec_ b2 [.slice none 0 0, ξ.2.1], Hp.rec_ b1 [.slice none 0 0, .slice none 0 0]]) (fun ξ => n - ξ.1) (0, (.slice none 0 0), ([] : List Pm)) ⟨by first | omega | (dsimp only; omega), rfl, ⟨none, 0, 0, rfl⟩, rfl, fun m hm => by cases hm⟩ ((.cons rfl (.cons rfl (.cons rfl (.cons rfl (.cons rfl (.cons rfl .nil))))))) rfl ?_
  rintro ⟨k, pv, pms⟩ ⟨hk, hpm, hipv, hpl, hpok⟩
  dsimp only at hk hpm hipv hpl hpok
  refine Gx.know (m' := [(4, ptr b1 0), (6, ptr b2 0), (0, .int .i64 ((n : Nat) : Int)), (1, sv), (26, .int .i64 ((n : Nat) : Int)), (27, .int .i64 ((k : Nat) : Int))]) (.cons rfl (.cons rfl (.cons rfl (.cons rfl (.cons rfl (.cons rfl .nil)))))) (Gx.norm (l' := [Hp.big procH pms, Hp.own FP 1 pv (pms.map Pm.b), Hp.rec_ b2 [.slice none 0 0, pv], Hp.rec_ b1 [.slice none 0 0, .slice none 0 0]]) rfl ?_)
  refine Gx.seq ?_
  refine Gx.region ?_
  refine Gx.val rfl rfl rfl (val_lss rfl rfl rfl) ?_
  refine Gx.done ?_
  refine Gx.thenN ?_
  refine Gx.seq ?_
  refine Gx.dec rfl (fun h3 => ?_) (fun h3 => ?_)
  · refine Gx.skip ?_
    refine Gx.thenN ?_
    refine Gx.seq ?_
    refine Gx.block ?_
    -- region 6, in whatever order
    refine Gx.ones 10 (Gx.norm (l' := [Hp.big procH pms, Hp.own FP 1 pv (pms.map Pm.b), Hp.rec_ b2 [.slice none 0 0, pv], Hp.rec_ b1 [.slice none 0 0, .slice none 0 0], 1, 1, 1, 1, 1, 1, 1, 1, 1, 1]) rfl ?_)
    obtain ⟨pp4x1, pp4x1e⟩ : ∃ p : Done → Hp, p = fun d => cond (dn d 11) (Hp.own FP 1 (dv d 11) ((pms.map Pm.b) ++ [(pB (dv d 9))])) (Hp.own FP 1 pv (pms.map Pm.b)) := ⟨_, rfl⟩
    obtain ⟨pp4x2, pp4x2e⟩ : ∃ p : Done → Hp, p = fun d => cond (dn d 14) (Hp.rec_ b2 [.slice none 0 0, (dv d 11)]) (Hp.rec_ b2 [.slice none 0 0, pv]) := ⟨_, rfl⟩
    obtain ⟨pp4x4, pp4x4e⟩ : ∃ p : Done → Hp, p = fun d => cond (dn d 6) (Hp.own FN 1 (dv d 6) (List.replicate n 0)) (1) := ⟨_, rfl⟩
    obtain ⟨pp4x5, pp4x5e⟩ : ∃ p : Done → Hp, p = fun d => cond (dn d 7) (Hp.map Try.prog 3 natL natV (mB (dv d 7)) ([])) (1) := ⟨_, rfl⟩
    obtain ⟨pp4x6, pp4x6e⟩ : ∃ p : Done → Hp, p = fun d => cond (dn d 9) (Hp.rec_ (pB (dv d 9)) [.slice none 0 0, (dv d 6), .map (some (mB (dv d 7))), .slice none 0 0]) (1) := ⟨_, rfl⟩
    obtain ⟨pp4x7, pp4x7e⟩ : ∃ p : Done → Hp, p = fun d => cond (dn d 11) (1) (cond (dn d 10) (Hp.rec_ (sB (dv d 10)) [ptr (pB (dv d 9)) 0]) (1)) := ⟨_, rfl⟩
    obtain ⟨pp4x8, pp4x8e⟩ : ∃ p : Done → Hp, p = fun d => cond (dn d 6) (Hp.pure (IsS (dv d 6))) 1 := ⟨_, rfl⟩
    obtain ⟨pp4x9, pp4x9e⟩ : ∃ p : Done → Hp, p = fun d => cond (dn d 7) (Hp.pure (dv d 7 = .map (some (mB (dv d 7))))) 1 := ⟨_, rfl⟩
    obtain ⟨pp4x10, pp4x10e⟩ : ∃ p : Done → Hp, p = fun d => cond (dn d 8) (Hp.pure (dv d 8 = .agg #[.slice none 0 0, (dv d 6), .map (some (mB (dv d 7))), .slice none 0 0])) 1 := ⟨_, rfl⟩
    obtain ⟨pp4x11, pp4x11e⟩ : ∃ p : Done → Hp, p = fun d => cond (dn d 9) (Hp.pure (dv d 9 = ptr (pB (dv d 9)) 0)) 1 := ⟨_, rfl⟩
    obtain ⟨pp4x12, pp4x12e⟩ : ∃ p : Done → Hp, p = fun d => cond (dn d 10) (Hp.pure (dv d 10 = .slice (some ⟨sB (dv d 10), 0, none⟩) 1 1)) 1 := ⟨_, rfl⟩
    obtain ⟨pp4x13, pp4x13e⟩ : ∃ p : Done → Hp, p = fun d => cond (dn d 11) (Hp.pure (IsS (dv d 11))) 1 := ⟨_, rfl⟩
    refine Gx.regionF [6, 7, 8, 9, 10, 11, 14] [0, 1, 2, 3, 4, 5, 12, 13] (fun ιi => cond (Nat.beq ιi 4) [Hp.rec_ b2 [.slice none 0 0, pv]] ([])) (fun d => [Hp.big procH pms, pp4x1 d, pp4x2 d, Hp.rec_ b1 [.slice none 0 0, .slice none 0 0], pp4x4 d, pp4x5 d, pp4x6 d, pp4x7 d, pp4x8 d, pp4x9 d, pp4x10 d, pp4x11 d, pp4x12 d, pp4x13 d]) Try.mixed (by kernel_rfl) (by kernel_rfl) (by rw [pp4x1e]; rw [pp4x2e]; rw [pp4x4e]; rw [pp4x5e]; rw [pp4x6e]; rw [pp4x7e]; rw [pp4x8e]; rw [pp4x9e]; rw [pp4x10e]; rw [pp4x11e]; rw [pp4x12e]; rw [pp4x13e]; rfl) ?_ ?_
    · intro ιi d w hc hs H
      by_cases hn4 : ιi = 4
      · subst hn4
        have q11 : dn d 11 = false := hs 11 rfl (by kernel_rfl)
        have q14 : dn d 14 = false := hs 14 rfl (by kernel_rfl)
        exact H.only (k := 2) rfl (by rw [pp4x2e]; simp only [q14, cond_false])
      · refine Sat.listed (l := []) H.noneL ?_
        simp only [beq_no hn4, cond_false]
    refine Gp.val rfl rfl rfl rfl (val_move rfl rfl) ?_
    refine Gp.val rfl rfl rfl rfl (val_move rfl rfl) ?_
    refine Gp.val rfl rfl rfl rfl (val_nilCheck rfl rfl) ?_
    refine Gp.val rfl rfl rfl rfl (Val.cast (val_fieldAddr rfl Try.underlying45 rfl Try.ty43 rfl rfl) (v' := ptr b2 1) rfl) ?_
    refine Gp.val rfl rfl rfl rfl (val_load rfl Try.ty43 rfl rfl (cell_rec (k := 0) rfl rfl)) ?_
    refine Gp.val rfl rfl rfl rfl (val_move rfl rfl) ?_
    refine Gp.val rfl rfl rfl rfl (val_nilCheck rfl rfl) ?_
    refine Gp.val rfl rfl rfl rfl (Val.cast (val_fieldAddr rfl Try.underlying45 rfl Try.ty43 rfl rfl) (v' := ptr b2 1) rfl) ?_
    refine Gp.done (uniq_of (by kernel_rfl)) (by rfl) (by kernel_rfl) ⟨⟨_, rfl, ?_⟩, ⟨_, rfl, ?_⟩, ⟨_, rfl, ?_⟩, ⟨_, rfl, ?_⟩, ⟨_, rfl, ?_⟩, ⟨_, rfl, ?_⟩, ⟨_, rfl, ?_⟩, trivial⟩ ?_
    · intro d hc hdi hpre a w hf H
      change Sat _ _ (sep [Hp.big procH pms, pp4x1 d, pp4x2 d, Hp.rec_ b1 [.slice none 0 0, .slice none 0 0], pp4x4 d, pp4x5 d, pp4x6 d, pp4x7 d, pp4x8 d, pp4x9 d, pp4x10 d, pp4x11 d, pp4x12 d, pp4x13 d]) at H
      have q6 := hdi
      have q8 : dn d 8 = false := hc.not 8 6 rfl (by kernel_rfl) q6
      have q14 : dn d 14 = false := hc.not 14 6 rfl (by kernel_rfl) q6
      have q9 : dn d 9 = false := hc.not 9 8 rfl (by kernel_rfl) q8
      have q10 : dn d 10 = false := hc.not 10 9 rfl (by kernel_rfl) q9
      have q11 : dn d 11 = false := hc.not 11 10 rfl (by kernel_rfl) q10
      have n1 : pp4x1 d = Hp.own FP 1 pv (pms.map Pm.b) := by rw [pp4x1e]; simp only [q11, cond_true, cond_false]
      have n2 : pp4x2 d = Hp.rec_ b2 [.slice none 0 0, pv] := by rw [pp4x2e]; simp only [q14, cond_true, cond_false]
      have n4 : pp4x4 d = 1 := by rw [pp4x4e]; simp only [q6, cond_true, cond_false]
      have n6 : pp4x6 d = 1 := by rw [pp4x6e]; simp only [q9, cond_true, cond_false]
      have n7 : pp4x7 d = 1 := by rw [pp4x7e]; simp only [q10, q11, cond_true, cond_false]
      have n8 : pp4x8 d = 1 := by rw [pp4x8e]; simp only [q6, cond_true, cond_false]
      have n10 : pp4x10 d = 1 := by rw [pp4x10e]; simp only [q8, cond_true, cond_false]
      have n11 : pp4x11 d = 1 := by rw [pp4x11e]; simp only [q9, cond_true, cond_false]
      have n12 : pp4x12 d = 1 := by rw [pp4x12e]; simp only [q10, cond_true, cond_false]
      have n13 : pp4x13 d = 1 := by rw [pp4x13e]; simp only [q11, cond_true, cond_false]
      rw [n1, n2, n4, n6, n7, n8, n10, n11, n12, n13] at H
      refine EffAt.mono (Eff.at_ hf.slots H (eff_makeSlice (n := n) (f := FN) rfl Try.underlying30 Try.ty3 rfl rfl (rfl) (rfl) FN_len 0 rfl (by omega) (by omega))) ?_
      rintro v5 w2 ⟨_, ⟨hiv5, rfl⟩, H2⟩
      have H2 := Sat.fillAt H2 (k := 4) rfl
      have H2 := (Sat.pureI hiv5 H2).fillAt (k := 8) rfl
      obtain ⟨d2, hd2⟩ : ∃ d2, d2 = upd d 6 (v5) := ⟨_, rfl⟩
      have m6 : dn d2 6 = true := by rw [hd2]; rfl
      have m8 : dn d2 8 = false := by rw [hd2]; exact q8
      have m14 : dn d2 14 = false := by rw [hd2]; exact q14
      have m9 : dn d2 9 = false := by rw [hd2]; exact q9
      have m10 : dn d2 10 = false := by rw [hd2]; exact q10
      have m11 : dn d2 11 = false := by rw [hd2]; exact q11
      rw [← hd2]
      change Sat _ _ (sep [Hp.big procH pms, pp4x1 d2, pp4x2 d2, Hp.rec_ b1 [.slice none 0 0, .slice none 0 0], pp4x4 d2, pp4x5 d2, pp4x6 d2, pp4x7 d2, pp4x8 d2, pp4x9 d2, pp4x10 d2, pp4x11 d2, pp4x12 d2, pp4x13 d2])
      have u1 := congrFun pp4x1e d2
      simp only [m11, cond_true, cond_false] at u1
      have u2 := congrFun pp4x2e d2
      simp only [m14, cond_true, cond_false] at u2
      have u4 := congrFun pp4x4e d2
      simp only [m6, cond_true, cond_false] at u4
      have u5 : pp4x5 d2 = pp4x5 d := by rw [hd2, pp4x5e]; rfl
      have u6 := congrFun pp4x6e d2
      simp only [m9, cond_true, cond_false] at u6
      have u7 := congrFun pp4x7e d2
      simp only [m10, m11, cond_true, cond_false] at u7
      have u8 := congrFun pp4x8e d2
      simp only [m6, cond_true, cond_false] at u8
      have u9 : pp4x9 d2 = pp4x9 d := by rw [hd2, pp4x9e]; rfl
      have u10 := congrFun pp4x10e d2
      simp only [m8, cond_true, cond_false] at u10
      have u11 := congrFun pp4x11e d2
      simp only [m9, cond_true, cond_false] at u11
      have u12 := congrFun pp4x12e d2
      simp only [m10, cond_true, cond_false] at u12
      have u13 := congrFun pp4x13e d2
      simp only [m11, cond_true, cond_false] at u13
      rw [u1, u2, u4, u5, u6, u7, u8, u9, u10, u11, u12, u13]
      subst hd2
      exact H2
    · intro d hc hdi hpre a w hf H
      change Sat _ _ (sep [Hp.big procH pms, pp4x1 d, pp4x2 d, Hp.rec_ b1 [.slice none 0 0, .slice none 0 0], pp4x4 d, pp4x5 d, pp4x6 d, pp4x7 d, pp4x8 d, pp4x9 d, pp4x10 d, pp4x11 d, pp4x12 d, pp4x13 d]) at H
      have q7 := hdi
      have q8 : dn d 8 = false := hc.not 8 7 rfl (by kernel_rfl) q7
      have q14 : dn d 14 = false := hc.not 14 7 rfl (by kernel_rfl) q7
      have q9 : dn d 9 = false := hc.not 9 8 rfl (by kernel_rfl) q8
      have q10 : dn d 10 = false := hc.not 10 9 rfl (by kernel_rfl) q9
      have q11 : dn d 11 = false := hc.not 11 10 rfl (by kernel_rfl) q10
      have n1 : pp4x1 d = Hp.own FP 1 pv (pms.map Pm.b) := by rw [pp4x1e]; simp only [q11, cond_true, cond_false]
      have n2 : pp4x2 d = Hp.rec_ b2 [.slice none 0 0, pv] := by rw [pp4x2e]; simp only [q14, cond_true, cond_false]
      have n5 : pp4x5 d = 1 := by rw [pp4x5e]; simp only [q7, cond_true, cond_false]
      have n6 : pp4x6 d = 1 := by rw [pp4x6e]; simp only [q9, cond_true, cond_false]
      have n7 : pp4x7 d = 1 := by rw [pp4x7e]; simp only [q10, q11, cond_true, cond_false]
      have n9 : pp4x9 d = 1 := by rw [pp4x9e]; simp only [q7, cond_true, cond_false]
      have n10 : pp4x10 d = 1 := by rw [pp4x10e]; simp only [q8, cond_true, cond_false]
      have n11 : pp4x11 d = 1 := by rw [pp4x11e]; simp only [q9, cond_true, cond_false]
      have n12 : pp4x12 d = 1 := by rw [pp4x12e]; simp only [q10, cond_true, cond_false]
      have n13 : pp4x13 d = 1 := by rw [pp4x13e]; simp only [q11, cond_true, cond_false]
      rw [n1, n2, n5, n6, n7, n9, n10, n11, n12, n13] at H
      refine EffAt.mono (Eff.at_ hf.slots H (eff_makeMap 3 natL natV rfl)) ?_
      rintro _ w2 ⟨_, ⟨b6, rfl, rfl⟩, H2⟩
      have H2 := Sat.fillAt H2 (k := 5) rfl
      have H2 := (Sat.pureI (p := (.map (some b6) : Value) = .map (some b6)) rfl H2).fillAt (k := 9) rfl
      obtain ⟨d2, hd2⟩ : ∃ d2, d2 = upd d 7 (.map (some b6)) := ⟨_, rfl⟩
      have m7 : dn d2 7 = true := by rw [hd2]; rfl
      have m8 : dn d2 8 = false := by rw [hd2]; exact q8
      have m14 : dn d2 14 = false := by rw [hd2]; exact q14
      have m9 : dn d2 9 = false := by rw [hd2]; exact q9
      have m10 : dn d2 10 = false := by rw [hd2]; exact q10
      have m11 : dn d2 11 = false := by rw [hd2]; exact q11
      rw [← hd2]
      change Sat _ _ (sep [Hp.big procH pms, pp4x1 d2, pp4x2 d2, Hp.rec_ b1 [.slice none 0 0, .slice none 0 0], pp4x4 d2, pp4x5 d2, pp4x6 d2, pp4x7 d2, pp4x8 d2, pp4x9 d2, pp4x10 d2, pp4x11 d2, pp4x12 d2, pp4x13 d2])
      have u1 := congrFun pp4x1e d2
      simp only [m11, cond_true, cond_false] at u1
      have u2 := congrFun pp4x2e d2
      simp only [m14, cond_true, cond_false] at u2
      have u4 : pp4x4 d2 = pp4x4 d := by rw [hd2, pp4x4e]; rfl
      have u5 := congrFun pp4x5e d2
      simp only [m7, cond_true, cond_false] at u5
      have u6 := congrFun pp4x6e d2
      simp only [m9, cond_true, cond_false] at u6
      have u7 := congrFun pp4x7e d2
      simp only [m10, m11, cond_true, cond_false] at u7
      have u8 : pp4x8 d2 = pp4x8 d := by rw [hd2, pp4x8e]; rfl
      have u9 := congrFun pp4x9e d2
      simp only [m7, cond_true, cond_false] at u9
      have u10 := congrFun pp4x10e d2
      simp only [m8, cond_true, cond_false] at u10
      have u11 := congrFun pp4x11e d2
      simp only [m9, cond_true, cond_false] at u11
      have u12 := congrFun pp4x12e d2
      simp only [m10, cond_true, cond_false] at u12
      have u13 := congrFun pp4x13e d2
      simp only [m11, cond_true, cond_false] at u13
      rw [u1, u2, u4, u5, u6, u7, u8, u9, u10, u11, u12, u13]
      subst hd2
      exact H2
    · intro d hc hdi hpre a w hf H
      change Sat _ _ (sep [Hp.big procH pms, pp4x1 d, pp4x2 d, Hp.rec_ b1 [.slice none 0 0, .slice none 0 0], pp4x4 d, pp4x5 d, pp4x6 d, pp4x7 d, pp4x8 d, pp4x9 d, pp4x10 d, pp4x11 d, pp4x12 d, pp4x13 d]) at H
      have q6 : dn d 6 = true := hpre 6 (by kernel_rfl)
      have q7 : dn d 7 = true := hpre 7 (by kernel_rfl)
      have q8 := hdi
      have q9 : dn d 9 = false := hc.not 9 8 rfl (by kernel_rfl) q8
      have q14 : dn d 14 = false := hc.not 14 8 rfl (by kernel_rfl) q8
      have q10 : dn d 10 = false := hc.not 10 9 rfl (by kernel_rfl) q9
      have q11 : dn d 11 = false := hc.not 11 10 rfl (by kernel_rfl) q10
      have e6 : IsS (dv d 6) := H.factAt (k := 8) rfl (by rw [pp4x8e]; simp only [q6, cond_true])
      have e7 : dv d 7 = .map (some (mB (dv d 7))) := H.factAt (k := 9) rfl (by rw [pp4x9e]; simp only [q7, cond_true])
      have n1 : pp4x1 d = Hp.own FP 1 pv (pms.map Pm.b) := by rw [pp4x1e]; simp only [q11, cond_true, cond_false]
      have n2 : pp4x2 d = Hp.rec_ b2 [.slice none 0 0, pv] := by rw [pp4x2e]; simp only [q14, cond_true, cond_false]
      have n4 : pp4x4 d = Hp.own FN 1 (dv d 6) (List.replicate n 0) := by rw [pp4x4e]; simp only [q6, cond_true, cond_false]
      have n5 : pp4x5 d = Hp.map Try.prog 3 natL natV (mB (dv d 7)) ([]) := by rw [pp4x5e]; simp only [q7, cond_true, cond_false]
      have n6 : pp4x6 d = 1 := by rw [pp4x6e]; simp only [q9, cond_true, cond_false]
      have n7 : pp4x7 d = 1 := by rw [pp4x7e]; simp only [q10, q11, cond_true, cond_false]
      have n10 : pp4x10 d = 1 := by rw [pp4x10e]; simp only [q8, cond_true, cond_false]
      have n11 : pp4x11 d = 1 := by rw [pp4x11e]; simp only [q9, cond_true, cond_false]
      have n12 : pp4x12 d = 1 := by rw [pp4x12e]; simp only [q10, cond_true, cond_false]
      have n13 : pp4x13 d = 1 := by rw [pp4x13e]; simp only [q11, cond_true, cond_false]
      rw [n1, n2, n4, n5, n6, n7, n10, n11, n12, n13] at H
      have s6 := hf.add hf.slots 6 rfl (by kernel_rfl) rfl q6 (v := (dv d 6)) rfl
      have s7 := hf.add s6 7 rfl (by kernel_rfl) rfl q7 (v := .map (some (mB (dv d 7)))) e7
      refine EffAt.mono (Val.eff (v := .agg #[.slice none 0 0, (dv d 6), .map (some (mB (dv d 7))), .slice none 0 0]) (val_build rfl (qs := [(1, (dv d 6)), (2, .map (some (mB (dv d 7))))]) rfl rfl (fun w => (show ∀ z9 : Value, IsS z9 → (Instr.build 49 #[(1, z9), (2, .map (some (mB (dv d 7))))]).run Try.prog w = .ok (.agg #[.slice none 0 0, z9, .map (some (mB (dv d 7))), .slice none 0 0]) w from by clear e6 e7; rintro _ ⟨_, _, _, rfl⟩; go_simp) _ e6) (v := .agg #[.slice none 0 0, (dv d 6), .map (some (mB (dv d 7))), .slice none 0 0])) s7 H) ?_
      rintro _ w2 ⟨rfl, H2⟩
      have H2 := (Sat.pureI (p := (.agg #[.slice none 0 0, (dv d 6), .map (some (mB (dv d 7))), .slice none 0 0] : Value) = .agg #[.slice none 0 0, (dv d 6), .map (some (mB (dv d 7))), .slice none 0 0]) rfl H2).fillAt (k := 10) rfl
      obtain ⟨d2, hd2⟩ : ∃ d2, d2 = upd d 8 (.agg #[.slice none 0 0, (dv d 6), .map (some (mB (dv d 7))), .slice none 0 0]) := ⟨_, rfl⟩
      have m8 : dn d2 8 = true := by rw [hd2]; rfl
      have m6 : dn d2 6 = true := by rw [hd2]; exact q6
      have m7 : dn d2 7 = true := by rw [hd2]; exact q7
      have m9 : dn d2 9 = false := by rw [hd2]; exact q9
      have m14 : dn d2 14 = false := by rw [hd2]; exact q14
      have m10 : dn d2 10 = false := by rw [hd2]; exact q10
      have m11 : dn d2 11 = false := by rw [hd2]; exact q11
      rw [← hd2]
      change Sat _ _ (sep [Hp.big procH pms, pp4x1 d2, pp4x2 d2, Hp.rec_ b1 [.slice none 0 0, .slice none 0 0], pp4x4 d2, pp4x5 d2, pp4x6 d2, pp4x7 d2, pp4x8 d2, pp4x9 d2, pp4x10 d2, pp4x11 d2, pp4x12 d2, pp4x13 d2])
      have u1 := congrFun pp4x1e d2
      simp only [m11, cond_true, cond_false] at u1
      have u2 := congrFun pp4x2e d2
      simp only [m14, cond_true, cond_false] at u2
      have u4 := congrFun pp4x4e d2
      simp only [m6, cond_true, cond_false] at u4
      have u5 := congrFun pp4x5e d2
      simp only [m7, cond_true, cond_false] at u5
      have u6 := congrFun pp4x6e d2
      simp only [m9, cond_true, cond_false] at u6
      have u7 := congrFun pp4x7e d2
      simp only [m10, m11, cond_true, cond_false] at u7
      have u8 : pp4x8 d2 = pp4x8 d := by rw [hd2, pp4x8e]; rfl
      have u9 : pp4x9 d2 = pp4x9 d := by rw [hd2, pp4x9e]; rfl
      have u10 := congrFun pp4x10e d2
      simp only [m8, cond_true, cond_false] at u10
      have u11 := congrFun pp4x11e d2
      simp only [m9, cond_true, cond_false] at u11
      have u12 := congrFun pp4x12e d2
      simp only [m10, cond_true, cond_false] at u12
      have u13 := congrFun pp4x13e d2
      simp only [m11, cond_true, cond_false] at u13
      rw [u1, u2, u4, u5, u6, u7, u8, u9, u10, u11, u12, u13]
      subst hd2
      exact H2
    · intro d hc hdi hpre a w hf H
      change Sat _ _ (sep [Hp.big procH pms, pp4x1 d, pp4x2 d, Hp.rec_ b1 [.slice none 0 0, .slice none 0 0], pp4x4 d, pp4x5 d, pp4x6 d, pp4x7 d, pp4x8 d, pp4x9 d, pp4x10 d, pp4x11 d, pp4x12 d, pp4x13 d]) at H
      have q8 : dn d 8 = true := hpre 8 (by kernel_rfl)
      have q6 : dn d 6 = true := hc.pre 8 6 rfl (by kernel_rfl) q8
      have q7 : dn d 7 = true := hc.pre 8 7 rfl (by kernel_rfl) q8
      have q9 := hdi
      have q10 : dn d 10 = false := hc.not 10 9 rfl (by kernel_rfl) q9
      have q14 : dn d 14 = false := hc.not 14 9 rfl (by kernel_rfl) q9
      have q11 : dn d 11 = false := hc.not 11 10 rfl (by kernel_rfl) q10
      have e8 : dv d 8 = .agg #[.slice none 0 0, (dv d 6), .map (some (mB (dv d 7))), .slice none 0 0] := H.factAt (k := 10) rfl (by rw [pp4x10e]; simp only [q8, cond_true])
      have e6 : IsS (dv d 6) := H.factAt (k := 8) rfl (by rw [pp4x8e]; simp only [q6, cond_true])
      have e7 : dv d 7 = .map (some (mB (dv d 7))) := H.factAt (k := 9) rfl (by rw [pp4x9e]; simp only [q7, cond_true])
      have n1 : pp4x1 d = Hp.own FP 1 pv (pms.map Pm.b) := by rw [pp4x1e]; simp only [q11, cond_true, cond_false]
      have n2 : pp4x2 d = Hp.rec_ b2 [.slice none 0 0, pv] := by rw [pp4x2e]; simp only [q14, cond_true, cond_false]
      have n4 : pp4x4 d = Hp.own FN 1 (dv d 6) (List.replicate n 0) := by rw [pp4x4e]; simp only [q6, cond_true, cond_false]
      have n5 : pp4x5 d = Hp.map Try.prog 3 natL natV (mB (dv d 7)) ([]) := by rw [pp4x5e]; simp only [q7, cond_true, cond_false]
      have n6 : pp4x6 d = 1 := by rw [pp4x6e]; simp only [q9, cond_true, cond_false]
      have n7 : pp4x7 d = 1 := by rw [pp4x7e]; simp only [q10, q11, cond_true, cond_false]
      have n11 : pp4x11 d = 1 := by rw [pp4x11e]; simp only [q9, cond_true, cond_false]
      have n12 : pp4x12 d = 1 := by rw [pp4x12e]; simp only [q10, cond_true, cond_false]
      have n13 : pp4x13 d = 1 := by rw [pp4x13e]; simp only [q11, cond_true, cond_false]
      rw [n1, n2, n4, n5, n6, n7, n11, n12, n13] at H
      have s8 := hf.add hf.slots 8 rfl (by kernel_rfl) rfl q8 (v := .agg #[.slice none 0 0, (dv d 6), .map (some (mB (dv d 7))), .slice none 0 0]) e8
      refine EffAt.mono (Eff.at_ s8 H (eff_box rfl rfl (vs := [.slice none 0 0, (dv d 6), .map (some (mB (dv d 7))), .slice none 0 0]) rfl)) ?_
      rintro _ w2 ⟨_, ⟨b7, rfl, rfl⟩, H2⟩
      have H2 := Sat.fillAt H2 (k := 6) rfl
      have H2 := (Sat.pureI (p := (ptr b7 0 : Value) = ptr b7 0) rfl H2).fillAt (k := 11) rfl
      obtain ⟨d2, hd2⟩ : ∃ d2, d2 = upd d 9 (ptr b7 0) := ⟨_, rfl⟩
      have m9 : dn d2 9 = true := by rw [hd2]; rfl
      have m8 : dn d2 8 = true := by rw [hd2]; exact q8
      have m6 : dn d2 6 = true := by rw [hd2]; exact q6
      have m7 : dn d2 7 = true := by rw [hd2]; exact q7
      have m10 : dn d2 10 = false := by rw [hd2]; exact q10
      have m14 : dn d2 14 = false := by rw [hd2]; exact q14
      have m11 : dn d2 11 = false := by rw [hd2]; exact q11
      rw [← hd2]
      change Sat _ _ (sep [Hp.big procH pms, pp4x1 d2, pp4x2 d2, Hp.rec_ b1 [.slice none 0 0, .slice none 0 0], pp4x4 d2, pp4x5 d2, pp4x6 d2, pp4x7 d2, pp4x8 d2, pp4x9 d2, pp4x10 d2, pp4x11 d2, pp4x12 d2, pp4x13 d2])
      have u1 := congrFun pp4x1e d2
      simp only [m11, cond_true, cond_false] at u1
      have u2 := congrFun pp4x2e d2
      simp only [m14, cond_true, cond_false] at u2
      have u4 := congrFun pp4x4e d2
      simp only [m6, cond_true, cond_false] at u4
      have u5 := congrFun pp4x5e d2
      simp only [m7, cond_true, cond_false] at u5
      have u6 := congrFun pp4x6e d2
      simp only [m9, cond_true, cond_false] at u6
      have u7 := congrFun pp4x7e d2
      simp only [m10, m11, cond_true, cond_false] at u7
      have u8 : pp4x8 d2 = pp4x8 d := by rw [hd2, pp4x8e]; rfl
      have u9 : pp4x9 d2 = pp4x9 d := by rw [hd2, pp4x9e]; rfl
      have u10 : pp4x10 d2 = pp4x10 d := by rw [hd2, pp4x10e]; rfl
      have u11 := congrFun pp4x11e d2
      simp only [m9, cond_true, cond_false] at u11
      have u12 := congrFun pp4x12e d2
      simp only [m10, cond_true, cond_false] at u12
      have u13 := congrFun pp4x13e d2
      simp only [m11, cond_true, cond_false] at u13
      rw [u1, u2, u4, u5, u6, u7, u8, u9, u10, u11, u12, u13]
      subst hd2
      exact H2
    · intro d hc hdi hpre a w hf H
      change Sat _ _ (sep [Hp.big procH pms, pp4x1 d, pp4x2 d, Hp.rec_ b1 [.slice none 0 0, .slice none 0 0], pp4x4 d, pp4x5 d, pp4x6 d, pp4x7 d, pp4x8 d, pp4x9 d, pp4x10 d, pp4x11 d, pp4x12 d, pp4x13 d]) at H
      have q9 : dn d 9 = true := hpre 9 (by kernel_rfl)
      have q8 : dn d 8 = true := hc.pre 9 8 rfl (by kernel_rfl) q9
      have q6 : dn d 6 = true := hc.pre 8 6 rfl (by kernel_rfl) q8
      have q7 : dn d 7 = true := hc.pre 8 7 rfl (by kernel_rfl) q8
      have q10 := hdi
      have q11 : dn d 11 = false := hc.not 11 10 rfl (by kernel_rfl) q10
      have q14 : dn d 14 = false := hc.not 14 10 rfl (by kernel_rfl) q10
      have e9 : dv d 9 = ptr (pB (dv d 9)) 0 := H.factAt (k := 11) rfl (by rw [pp4x11e]; simp only [q9, cond_true])
      have e8 : dv d 8 = .agg #[.slice none 0 0, (dv d 6), .map (some (mB (dv d 7))), .slice none 0 0] := H.factAt (k := 10) rfl (by rw [pp4x10e]; simp only [q8, cond_true])
      have e6 : IsS (dv d 6) := H.factAt (k := 8) rfl (by rw [pp4x8e]; simp only [q6, cond_true])
      have e7 : dv d 7 = .map (some (mB (dv d 7))) := H.factAt (k := 9) rfl (by rw [pp4x9e]; simp only [q7, cond_true])
      have n1 : pp4x1 d = Hp.own FP 1 pv (pms.map Pm.b) := by rw [pp4x1e]; simp only [q11, cond_true, cond_false]
      have n2 : pp4x2 d = Hp.rec_ b2 [.slice none 0 0, pv] := by rw [pp4x2e]; simp only [q14, cond_true, cond_false]
      have n4 : pp4x4 d = Hp.own FN 1 (dv d 6) (List.replicate n 0) := by rw [pp4x4e]; simp only [q6, cond_true, cond_false]
      have n5 : pp4x5 d = Hp.map Try.prog 3 natL natV (mB (dv d 7)) ([]) := by rw [pp4x5e]; simp only [q7, cond_true, cond_false]
      have n6 : pp4x6 d = Hp.rec_ (pB (dv d 9)) [.slice none 0 0, (dv d 6), .map (some (mB (dv d 7))), .slice none 0 0] := by rw [pp4x6e]; simp only [q9, cond_true, cond_false]
      have n7 : pp4x7 d = 1 := by rw [pp4x7e]; simp only [q10, q11, cond_true, cond_false]
      have n12 : pp4x12 d = 1 := by rw [pp4x12e]; simp only [q10, cond_true, cond_false]
      have n13 : pp4x13 d = 1 := by rw [pp4x13e]; simp only [q11, cond_true, cond_false]
      rw [n1, n2, n4, n5, n6, n7, n12, n13] at H
      have s9 := hf.add hf.slots 9 rfl (by kernel_rfl) rfl q9 (v := ptr (pB (dv d 9)) 0) e9
      refine EffAt.mono (Eff.at_ s9 H (eff_buildSlice rfl (qs := [(0, ptr (pB (dv d 9)) 0)]) rfl rfl (cs := #[ptr (pB (dv d 9)) 0]) (vs := [ptr (pB (dv d 9)) 0]) (E := 46) rfl (fun w => by clear e9 e8 e6 e7; first | (go_simp; done) | (go_simp; rfl)))) ?_
      rintro _ w2 ⟨_, ⟨b8, rfl, rfl⟩, H2⟩
      have H2 := Sat.fillAt H2 (k := 7) rfl
      have H2 := (Sat.pureI (p := (.slice (some ⟨b8, 0, none⟩) 1 1 : Value) = .slice (some ⟨b8, 0, none⟩) 1 1) rfl H2).fillAt (k := 12) rfl
      obtain ⟨d2, hd2⟩ : ∃ d2, d2 = upd d 10 (.slice (some ⟨b8, 0, none⟩) 1 1) := ⟨_, rfl⟩
      have m10 : dn d2 10 = true := by rw [hd2]; rfl
      have m9 : dn d2 9 = true := by rw [hd2]; exact q9
      have m8 : dn d2 8 = true := by rw [hd2]; exact q8
      have m6 : dn d2 6 = true := by rw [hd2]; exact q6
      have m7 : dn d2 7 = true := by rw [hd2]; exact q7
      have m11 : dn d2 11 = false := by rw [hd2]; exact q11
      have m14 : dn d2 14 = false := by rw [hd2]; exact q14
      rw [← hd2]
      change Sat _ _ (sep [Hp.big procH pms, pp4x1 d2, pp4x2 d2, Hp.rec_ b1 [.slice none 0 0, .slice none 0 0], pp4x4 d2, pp4x5 d2, pp4x6 d2, pp4x7 d2, pp4x8 d2, pp4x9 d2, pp4x10 d2, pp4x11 d2, pp4x12 d2, pp4x13 d2])
      have u1 := congrFun pp4x1e d2
      simp only [m11, cond_true, cond_false] at u1
      have u2 := congrFun pp4x2e d2
      simp only [m14, cond_true, cond_false] at u2
      have u4 := congrFun pp4x4e d2
      simp only [m6, cond_true, cond_false] at u4
      have u5 := congrFun pp4x5e d2
      simp only [m7, cond_true, cond_false] at u5
      have u6 := congrFun pp4x6e d2
      simp only [m9, cond_true, cond_false] at u6
      have u7 := congrFun pp4x7e d2
      simp only [m10, m11, cond_true, cond_false] at u7
      have u8 : pp4x8 d2 = pp4x8 d := by rw [hd2, pp4x8e]; rfl
      have u9 : pp4x9 d2 = pp4x9 d := by rw [hd2, pp4x9e]; rfl
      have u10 : pp4x10 d2 = pp4x10 d := by rw [hd2, pp4x10e]; rfl
      have u11 : pp4x11 d2 = pp4x11 d := by rw [hd2, pp4x11e]; rfl
      have u12 := congrFun pp4x12e d2
      simp only [m10, cond_true, cond_false] at u12
      have u13 := congrFun pp4x13e d2
      simp only [m11, cond_true, cond_false] at u13
      rw [u1, u2, u4, u5, u6, u7, u8, u9, u10, u11, u12, u13]
      subst hd2
      exact H2
    · intro d hc hdi hpre a w hf H
      change Sat _ _ (sep [Hp.big procH pms, pp4x1 d, pp4x2 d, Hp.rec_ b1 [.slice none 0 0, .slice none 0 0], pp4x4 d, pp4x5 d, pp4x6 d, pp4x7 d, pp4x8 d, pp4x9 d, pp4x10 d, pp4x11 d, pp4x12 d, pp4x13 d]) at H
      have q10 : dn d 10 = true := hpre 10 (by kernel_rfl)
      have q9 : dn d 9 = true := hc.pre 10 9 rfl (by kernel_rfl) q10
      have q8 : dn d 8 = true := hc.pre 9 8 rfl (by kernel_rfl) q9
      have q6 : dn d 6 = true := hc.pre 8 6 rfl (by kernel_rfl) q8
      have q7 : dn d 7 = true := hc.pre 8 7 rfl (by kernel_rfl) q8
      have q11 := hdi
      have q14 : dn d 14 = false := hc.not 14 11 rfl (by kernel_rfl) q11
      have e10 : dv d 10 = .slice (some ⟨sB (dv d 10), 0, none⟩) 1 1 := H.factAt (k := 12) rfl (by rw [pp4x12e]; simp only [q10, cond_true])
      have e9 : dv d 9 = ptr (pB (dv d 9)) 0 := H.factAt (k := 11) rfl (by rw [pp4x11e]; simp only [q9, cond_true])
      have e8 : dv d 8 = .agg #[.slice none 0 0, (dv d 6), .map (some (mB (dv d 7))), .slice none 0 0] := H.factAt (k := 10) rfl (by rw [pp4x10e]; simp only [q8, cond_true])
      have e6 : IsS (dv d 6) := H.factAt (k := 8) rfl (by rw [pp4x8e]; simp only [q6, cond_true])
      have e7 : dv d 7 = .map (some (mB (dv d 7))) := H.factAt (k := 9) rfl (by rw [pp4x9e]; simp only [q7, cond_true])
      have n1 : pp4x1 d = Hp.own FP 1 pv (pms.map Pm.b) := by rw [pp4x1e]; simp only [q11, cond_true, cond_false]
      have n2 : pp4x2 d = Hp.rec_ b2 [.slice none 0 0, pv] := by rw [pp4x2e]; simp only [q14, cond_true, cond_false]
      have n4 : pp4x4 d = Hp.own FN 1 (dv d 6) (List.replicate n 0) := by rw [pp4x4e]; simp only [q6, cond_true, cond_false]
      have n5 : pp4x5 d = Hp.map Try.prog 3 natL natV (mB (dv d 7)) ([]) := by rw [pp4x5e]; simp only [q7, cond_true, cond_false]
      have n6 : pp4x6 d = Hp.rec_ (pB (dv d 9)) [.slice none 0 0, (dv d 6), .map (some (mB (dv d 7))), .slice none 0 0] := by rw [pp4x6e]; simp only [q9, cond_true, cond_false]
      have n7 : pp4x7 d = Hp.rec_ (sB (dv d 10)) [ptr (pB (dv d 9)) 0] := by rw [pp4x7e]; simp only [q10, q11, cond_true, cond_false]
      have n13 : pp4x13 d = 1 := by rw [pp4x13e]; simp only [q11, cond_true, cond_false]
      rw [n1, n2, n4, n5, n6, n7, n13] at H
      have s10 := hf.add hf.slots 10 rfl (by kernel_rfl) rfl q10 (v := .slice (some ⟨sB (dv d 10), 0, none⟩) 1 1) e10
      refine EffAt.mono (Eff.at_ s10 H (eff_pushP (r := (pB (dv d 9))) rfl Try.eP FP_len FP_one rfl rfl (k := 7) rfl rfl (k' := 1) rfl (by rw [List.length_map]; omega) (by rw [List.length_map]; omega))) ?_
      rintro v9 w2 ⟨_, ⟨hiv9, rfl⟩, H2⟩
      have H2 := (Sat.pureI hiv9 H2).fillAt (k := 13) rfl
      obtain ⟨d2, hd2⟩ : ∃ d2, d2 = upd d 11 (v9) := ⟨_, rfl⟩
      have m11 : dn d2 11 = true := by rw [hd2]; rfl
      have m10 : dn d2 10 = true := by rw [hd2]; exact q10
      have m9 : dn d2 9 = true := by rw [hd2]; exact q9
      have m8 : dn d2 8 = true := by rw [hd2]; exact q8
      have m6 : dn d2 6 = true := by rw [hd2]; exact q6
      have m7 : dn d2 7 = true := by rw [hd2]; exact q7
      have m14 : dn d2 14 = false := by rw [hd2]; exact q14
      rw [← hd2]
      change Sat _ _ (sep [Hp.big procH pms, pp4x1 d2, pp4x2 d2, Hp.rec_ b1 [.slice none 0 0, .slice none 0 0], pp4x4 d2, pp4x5 d2, pp4x6 d2, pp4x7 d2, pp4x8 d2, pp4x9 d2, pp4x10 d2, pp4x11 d2, pp4x12 d2, pp4x13 d2])
      have u1 := congrFun pp4x1e d2
      simp only [m11, cond_true, cond_false] at u1
      have u2 := congrFun pp4x2e d2
      simp only [m14, cond_true, cond_false] at u2
      have u4 := congrFun pp4x4e d2
      simp only [m6, cond_true, cond_false] at u4
      have u5 := congrFun pp4x5e d2
      simp only [m7, cond_true, cond_false] at u5
      have u6 := congrFun pp4x6e d2
      simp only [m9, cond_true, cond_false] at u6
      have u7 := congrFun pp4x7e d2
      simp only [m10, m11, cond_true, cond_false] at u7
      have u8 : pp4x8 d2 = pp4x8 d := by rw [hd2, pp4x8e]; rfl
      have u9 : pp4x9 d2 = pp4x9 d := by rw [hd2, pp4x9e]; rfl
      have u10 : pp4x10 d2 = pp4x10 d := by rw [hd2, pp4x10e]; rfl
      have u11 : pp4x11 d2 = pp4x11 d := by rw [hd2, pp4x11e]; rfl
      have u12 : pp4x12 d2 = pp4x12 d := by rw [hd2, pp4x12e]; rfl
      have u13 := congrFun pp4x13e d2
      simp only [m11, cond_true, cond_false] at u13
      rw [u1, u2, u4, u5, u6, u7, u8, u9, u10, u11, u12, u13]
      subst hd2
      exact H2
    · intro d hc hdi hpre a w hf H
      change Sat _ _ (sep [Hp.big procH pms, pp4x1 d, pp4x2 d, Hp.rec_ b1 [.slice none 0 0, .slice none 0 0], pp4x4 d, pp4x5 d, pp4x6 d, pp4x7 d, pp4x8 d, pp4x9 d, pp4x10 d, pp4x11 d, pp4x12 d, pp4x13 d]) at H
      have q11 : dn d 11 = true := hpre 11 (by kernel_rfl)
      have q11 : dn d 11 = true := hpre 11 (by kernel_rfl)
      have q6 : dn d 6 = true := hpre 6 (by kernel_rfl)
      have q7 : dn d 7 = true := hpre 7 (by kernel_rfl)
      have q8 : dn d 8 = true := hpre 8 (by kernel_rfl)
      have q9 : dn d 9 = true := hpre 9 (by kernel_rfl)
      have q10 : dn d 10 = true := hpre 10 (by kernel_rfl)
      have q11 : dn d 11 = true := hpre 11 (by kernel_rfl)
      have q14 := hdi
      have e11 : IsS (dv d 11) := H.factAt (k := 13) rfl (by rw [pp4x13e]; simp only [q11, cond_true])
      have e6 : IsS (dv d 6) := H.factAt (k := 8) rfl (by rw [pp4x8e]; simp only [q6, cond_true])
      have e7 : dv d 7 = .map (some (mB (dv d 7))) := H.factAt (k := 9) rfl (by rw [pp4x9e]; simp only [q7, cond_true])
      have e8 : dv d 8 = .agg #[.slice none 0 0, (dv d 6), .map (some (mB (dv d 7))), .slice none 0 0] := H.factAt (k := 10) rfl (by rw [pp4x10e]; simp only [q8, cond_true])
      have e9 : dv d 9 = ptr (pB (dv d 9)) 0 := H.factAt (k := 11) rfl (by rw [pp4x11e]; simp only [q9, cond_true])
      have e10 : dv d 10 = .slice (some ⟨sB (dv d 10), 0, none⟩) 1 1 := H.factAt (k := 12) rfl (by rw [pp4x12e]; simp only [q10, cond_true])
      have n1 : pp4x1 d = Hp.own FP 1 (dv d 11) ((pms.map Pm.b) ++ [(pB (dv d 9))]) := by rw [pp4x1e]; simp only [q11, cond_true, cond_false]
      have n2 : pp4x2 d = Hp.rec_ b2 [.slice none 0 0, pv] := by rw [pp4x2e]; simp only [q14, cond_true, cond_false]
      have n4 : pp4x4 d = Hp.own FN 1 (dv d 6) (List.replicate n 0) := by rw [pp4x4e]; simp only [q6, cond_true, cond_false]
      have n5 : pp4x5 d = Hp.map Try.prog 3 natL natV (mB (dv d 7)) ([]) := by rw [pp4x5e]; simp only [q7, cond_true, cond_false]
      have n6 : pp4x6 d = Hp.rec_ (pB (dv d 9)) [.slice none 0 0, (dv d 6), .map (some (mB (dv d 7))), .slice none 0 0] := by rw [pp4x6e]; simp only [q9, cond_true, cond_false]
      have n7 : pp4x7 d = 1 := by rw [pp4x7e]; simp only [q10, q11, cond_true, cond_false]
      rw [n1, n2, n4, n5, n6, n7] at H
      have s11 := hf.add hf.slots 11 rfl (by kernel_rfl) rfl q11 (v := (dv d 11)) rfl
      refine EffAt.mono (Eff.at_ s11 H (eff_store rfl Try.ty43 rfl rfl (us := [(dv d 11)]) e11.cellsL rfl e11.all (k := 2) rfl (rfl) (vs' := [.slice none 0 0, (dv d 11)]) (rfl) (l' := [Hp.big procH pms, Hp.own FP 1 (dv d 11) ((pms.map Pm.b) ++ [(pB (dv d 9))]), Hp.rec_ b2 [.slice none 0 0, (dv d 11)], Hp.rec_ b1 [.slice none 0 0, .slice none 0 0], Hp.own FN 1 (dv d 6) (List.replicate n 0), Hp.map Try.prog 3 natL natV (mB (dv d 7)) ([]), Hp.rec_ (pB (dv d 9)) [.slice none 0 0, (dv d 6), .map (some (mB (dv d 7))), .slice none 0 0], 1, pp4x8 d, pp4x9 d, pp4x10 d, pp4x11 d, pp4x12 d, pp4x13 d]) rfl)) ?_
      rintro v w2 ⟨_, rfl, H2⟩
      obtain ⟨d2, hd2⟩ : ∃ d2, d2 = upd d 14 v := ⟨_, rfl⟩
      have m14 : dn d2 14 = true := by rw [hd2]; rfl
      have m11 : dn d2 11 = true := by rw [hd2]; exact q11
      have m6 : dn d2 6 = true := by rw [hd2]; exact q6
      have m7 : dn d2 7 = true := by rw [hd2]; exact q7
      have m8 : dn d2 8 = true := by rw [hd2]; exact q8
      have m9 : dn d2 9 = true := by rw [hd2]; exact q9
      have m10 : dn d2 10 = true := by rw [hd2]; exact q10
      rw [← hd2]
      change Sat _ _ (sep [Hp.big procH pms, pp4x1 d2, pp4x2 d2, Hp.rec_ b1 [.slice none 0 0, .slice none 0 0], pp4x4 d2, pp4x5 d2, pp4x6 d2, pp4x7 d2, pp4x8 d2, pp4x9 d2, pp4x10 d2, pp4x11 d2, pp4x12 d2, pp4x13 d2])
      have u1 := congrFun pp4x1e d2
      simp only [m11, cond_true, cond_false] at u1
      have u2 := congrFun pp4x2e d2
      simp only [m14, cond_true, cond_false] at u2
      have u4 := congrFun pp4x4e d2
      simp only [m6, cond_true, cond_false] at u4
      have u5 := congrFun pp4x5e d2
      simp only [m7, cond_true, cond_false] at u5
      have u6 := congrFun pp4x6e d2
      simp only [m9, cond_true, cond_false] at u6
      have u7 := congrFun pp4x7e d2
      simp only [m10, m11, cond_true, cond_false] at u7
      have u8 : pp4x8 d2 = pp4x8 d := by rw [hd2, pp4x8e]; rfl
      have u9 : pp4x9 d2 = pp4x9 d := by rw [hd2, pp4x9e]; rfl
      have u10 : pp4x10 d2 = pp4x10 d := by rw [hd2, pp4x10e]; rfl
      have u11 : pp4x11 d2 = pp4x11 d := by rw [hd2, pp4x11e]; rfl
      have u12 : pp4x12 d2 = pp4x12 d := by rw [hd2, pp4x12e]; rfl
      have u13 : pp4x13 d2 = pp4x13 d := by rw [hd2, pp4x13e]; rfl
      rw [u1, u2, u4, u5, u6, u7, u8, u9, u10, u11, u12, u13]
      subst hd2
      exact H2
    · intro d hc hall a hf w H
      change Sat _ _ (sep [Hp.big procH pms, pp4x1 d, pp4x2 d, Hp.rec_ b1 [.slice none 0 0, .slice none 0 0], pp4x4 d, pp4x5 d, pp4x6 d, pp4x7 d, pp4x8 d, pp4x9 d, pp4x10 d, pp4x11 d, pp4x12 d, pp4x13 d]) at H
      have q6 : dn d 6 = true := hall 6 rfl
      have q7 : dn d 7 = true := hall 7 rfl
      have q8 : dn d 8 = true := hall 8 rfl
      have q9 : dn d 9 = true := hall 9 rfl
      have q10 : dn d 10 = true := hall 10 rfl
      have q11 : dn d 11 = true := hall 11 rfl
      have q14 : dn d 14 = true := hall 14 rfl
      have e6 : IsS (dv d 6) := H.factAt (k := 8) rfl (by rw [pp4x8e]; simp only [q6, cond_true])
      have e7 : dv d 7 = .map (some (mB (dv d 7))) := H.factAt (k := 9) rfl (by rw [pp4x9e]; simp only [q7, cond_true])
      have e8 : dv d 8 = .agg #[.slice none 0 0, (dv d 6), .map (some (mB (dv d 7))), .slice none 0 0] := H.factAt (k := 10) rfl (by rw [pp4x10e]; simp only [q8, cond_true])
      have e9 : dv d 9 = ptr (pB (dv d 9)) 0 := H.factAt (k := 11) rfl (by rw [pp4x11e]; simp only [q9, cond_true])
      have e10 : dv d 10 = .slice (some ⟨sB (dv d 10), 0, none⟩) 1 1 := H.factAt (k := 12) rfl (by rw [pp4x12e]; simp only [q10, cond_true])
      have e11 : IsS (dv d 11) := H.factAt (k := 13) rfl (by rw [pp4x13e]; simp only [q11, cond_true])
      have n1 : pp4x1 d = Hp.own FP 1 (dv d 11) ((pms.map Pm.b) ++ [(pB (dv d 9))]) := by rw [pp4x1e]; simp only [q11, cond_true, cond_false]
      have n2 : pp4x2 d = Hp.rec_ b2 [.slice none 0 0, (dv d 11)] := by rw [pp4x2e]; simp only [q14, cond_true, cond_false]
      have n4 : pp4x4 d = Hp.own FN 1 (dv d 6) (List.replicate n 0) := by rw [pp4x4e]; simp only [q6, cond_true, cond_false]
      have n5 : pp4x5 d = Hp.map Try.prog 3 natL natV (mB (dv d 7)) ([]) := by rw [pp4x5e]; simp only [q7, cond_true, cond_false]
      have n6 : pp4x6 d = Hp.rec_ (pB (dv d 9)) [.slice none 0 0, (dv d 6), .map (some (mB (dv d 7))), .slice none 0 0] := by rw [pp4x6e]; simp only [q9, cond_true, cond_false]
      have n7 : pp4x7 d = 1 := by rw [pp4x7e]; simp only [q10, q11, cond_true, cond_false]
      have n8 : pp4x8 d = Hp.pure (IsS (dv d 6)) := by rw [pp4x8e]; simp only [q6, cond_true]
      have n9 : pp4x9 d = Hp.pure (dv d 7 = .map (some (mB (dv d 7)))) := by rw [pp4x9e]; simp only [q7, cond_true]
      have n10 : pp4x10 d = Hp.pure (dv d 8 = .agg #[.slice none 0 0, (dv d 6), .map (some (mB (dv d 7))), .slice none 0 0]) := by rw [pp4x10e]; simp only [q8, cond_true]
      have n11 : pp4x11 d = Hp.pure (dv d 9 = ptr (pB (dv d 9)) 0) := by rw [pp4x11e]; simp only [q9, cond_true]
      have n12 : pp4x12 d = Hp.pure (dv d 10 = .slice (some ⟨sB (dv d 10), 0, none⟩) 1 1) := by rw [pp4x12e]; simp only [q10, cond_true]
      have n13 : pp4x13 d = Hp.pure (IsS (dv d 11)) := by rw [pp4x13e]; simp only [q11, cond_true]
      rw [n1, n2, n4, n5, n6, n7, n8, n9, n10, n11, n12, n13] at H
      clear n1 n2 n4 n5 n6 n7 n8 n9 n10 n11 n12 n13
      obtain ⟨z10, hz10⟩ : ∃ b, b = dv d 6 := ⟨_, rfl⟩
      rw [← hz10] at e6 e8 H
      have s6 := hf.add hf.slots 6 rfl rfl rfl q6 (v := z10) hz10.symm
      obtain ⟨z11, hz11⟩ : ∃ b, b = mB (dv d 7) := ⟨_, rfl⟩
      rw [← hz11] at e7 e8 H
      have s7 := hf.add s6 7 rfl rfl rfl q7 (v := .map (some z11)) e7
      have s8 := hf.add s7 8 rfl rfl rfl q8 (v := .agg #[.slice none 0 0, z10, .map (some z11), .slice none 0 0]) e8
      obtain ⟨z13, hz13⟩ : ∃ b, b = pB (dv d 9) := ⟨_, rfl⟩
      rw [← hz13] at e9  H
      have s9 := hf.add s8 9 rfl rfl rfl q9 (v := ptr z13 0) e9
      obtain ⟨z14, hz14⟩ : ∃ b, b = sB (dv d 10) := ⟨_, rfl⟩
      rw [← hz14] at e10  H
      have s10 := hf.add s9 10 rfl rfl rfl q10 (v := .slice (some ⟨z14, 0, none⟩) 1 1) e10
      obtain ⟨z15, hz15⟩ : ∃ b, b = dv d 11 := ⟨_, rfl⟩
      rw [← hz15] at e11  H
      have s11 := hf.add s10 11 rfl rfl rfl q11 (v := z15) hz15.symm
      refine Gx.use s11 H ?_
      refine Gx.drop 13 rfl ?_
      refine Gx.drop 12 rfl ?_
      refine Gx.drop 11 rfl ?_
      refine Gx.drop 10 rfl ?_
      refine Gx.drop 9 rfl ?_
      refine Gx.drop 8 rfl ?_
      refine Gx.drop 7 rfl ?_
      refine Gx.norm (l' := [Hp.big procH pms, Hp.own FP 1 z15 ((pms.map Pm.b) ++ [z13]), Hp.rec_ b2 [.slice none 0 0, z15], Hp.rec_ b1 [.slice none 0 0, .slice none 0 0], Hp.own FN 1 z10 (List.replicate n 0), Hp.map Try.prog 3 natL natV z11 ([]), Hp.rec_ z13 [.slice none 0 0, z10, .map (some z11), .slice none 0 0]]) rfl ?_
      refine Gx.blkN ?_
      refine Gx.thenN ?_
      refine Gx.ownNil FN 1 ?_
      refine Gx.ownNil FN 1 ?_
      refine Gx.front 0 rfl ?_
      refine Gx.front 6 rfl ?_
      refine Gx.front 2 rfl ?_
      refine Gx.front 7 rfl ?_
      refine Gx.front 8 rfl ?_
      refine Gx.front 5 rfl ?_
      refine Gx.sepEq (l' := [Hp.big procH (pms ++ [(⟨z13, z11, .slice none 0 0, z10, .slice none 0 0, (⟨[], List.replicate n 0, [], []⟩ : Pt)⟩ : Pm)]), Hp.own FP 1 z15 ((pms.map Pm.b) ++ [z13]), Hp.rec_ b2 [.slice none 0 0, z15], Hp.rec_ b1 [.slice none 0 0, .slice none 0 0]]) (by show Hp.big procH pms * (Hp.rec_ z13 [.slice none 0 0, z10, .map (some z11), .slice none 0 0] * (Hp.map Try.prog 3 natL natV z11 ([]) * (Hp.own FN 1 (.slice none 0 0) ([]) * (Hp.own FN 1 z10 (List.replicate n 0) * (Hp.own FN 1 (.slice none 0 0) ([]) * _))))) = Hp.big procH (pms ++ [(⟨z13, z11, .slice none 0 0, z10, .slice none 0 0, (⟨[], List.replicate n 0, [], []⟩ : Pt)⟩ : Pm)]) * _; rw [Hp.big_append]; show _ = (_ * ((Hp.rec_ z13 [.slice none 0 0, z10, .map (some z11), .slice none 0 0] * (Hp.map Try.prog 3 natL natV z11 ([]) * (Hp.own FN 1 (.slice none 0 0) ([]) * (Hp.own FN 1 z10 (List.replicate n 0) * Hp.own FN 1 (.slice none 0 0) ([]))))) * 1)) * _; rw [Hp.mul_one]; simp only [Hp.mul_assoc]; rfl) ?_
      refine Gx.norm (l' := [Hp.big procH (pms ++ [(⟨z13, z11, .slice none 0 0, z10, .slice none 0 0, (⟨[], List.replicate n 0, [], []⟩ : Pt)⟩ : Pm)]), Hp.own FP 1 z15 ((pms ++ [(⟨z13, z11, .slice none 0 0, z10, .slice none 0 0, (⟨[], List.replicate n 0, [], []⟩ : Pt)⟩ : Pm)]).map Pm.b), Hp.rec_ b2 [.slice none 0 0, z15], Hp.rec_ b1 [.slice none 0 0, .slice none 0 0]]) (by rw [List.map_append] <;> rfl) ?_
      refine Gx.region ?_
      refine Gx.val rfl rfl rfl (val_add rfl rfl rfl (r := ((k + 1 : Nat) : Int)) (w64 (by omega) (by omega))) ?_
      refine Gx.val rfl rfl rfl (val_move rfl rfl) ?_
      refine Gx.done ?_
      refine Gx.thenN ?_
      skip
      exact Gx.round (k + 1, z15, (pms ++ [(⟨z13, z11, .slice none 0 0, z10, .slice none 0 0, (⟨[], List.replicate n 0, [], []⟩ : Pt)⟩ : Pm)])) ⟨by first | omega | (dsimp only; omega), by rw [List.map_append, hpm, List.replicate_succ']; rfl, e11, by simp; omega, fun m hm => by rcases List.mem_append.1 hm with h | h; exact hpok m h; rw [List.mem_singleton] at h; subst h; exact ⟨⟨none, 0, 0, by decide, rfl⟩, ⟨none, 0, 0, rfl⟩, e6⟩⟩ (by first | omega | (dsimp only; omega)) ((.cons rfl (.cons rfl (.cons rfl (.cons rfl (.cons rfl (.cons rfl .nil))))))) rfl
  · refine Gx.exit ?_
    refine Gx.thenE ?_
    refine Gx.thenE ?_
    refine Gx.blkE ?_
    refine Gx.thenN ?_
    refine Gx.seq ?_
    obtain rfl : n = k := by omega
    refine Gx.ownNil FA 2 ?_
    refine Gx.emp ?_
    refine Gx.norm (l' := [Hp.big needH ([] : List Mm), Hp.own FA 2 (.slice none 0 0) ([]), Hp.big procH pms, Hp.own FP 1 pv (pms.map Pm.b), Hp.rec_ b2 [.slice none 0 0, pv], Hp.rec_ b1 [.slice none 0 0, .slice none 0 0]]) rfl ?_
    refine Gx.front 2 rfl ?_
    refine Gx.front 3 rfl ?_
    refine Gx.front 2 rfl ?_
    refine Gx.front 3 rfl ?_
    refine Gx.front 4 rfl ?_
    refine Gx.sat (l' := [worldH b2 (cs0 n), Hp.rec_ b1 [.slice none 0 0, .slice none 0 0]]) (fun w H => ?_) ?_
    · exact (worldH.shut (S := b2) (s := cs0 n) (av := .slice none 0 0) (pv := pv) (mms := []) (pms := pms) (R := sep [Hp.rec_ b1 [.slice none 0 0, .slice none 0 0]]) ⟨rfl, hpm, hpok⟩ (H.cast (by rw [sep5R]; rfl))).cast rfl
    refine Gx.region ?_
    refine Gx.eff rfl rfl rfl (eff_alloc rfl Try.ty26 (vs := [.slice none 0 0, .slice none 0 0]) rfl) ?_
    rintro _ _ ⟨b16, rfl, rfl⟩
    refine Gx.done ?_
    refine Gx.thenN ?_
    refine Gx.seq ?_
    refine Gx.seq ?_
    refine Gx.ownNil FZ 1 ?_
    refine Gx.region ?_
    refine Gx.val rfl rfl rfl (val_move rfl rfl) ?_
    refine Gx.val rfl rfl rfl (val_len rfl Try.underlying22 rfl (len_base hs)) ?_
    refine Gx.val rfl rfl rfl (val_move rfl rfl) ?_
    refine Gx.done ?_
    refine Gx.thenN ?_
    refine Gx.block ?_
    refine Gx.front 2 rfl ?_
    refine Gx.front 3 rfl ?_
    refine Gx.front 3 rfl ?_
    refine Gx.front 3 rfl ?_
    refine Gx.loop (ι := Nat × Value) (fun ξ => (ξ.1 ≤ cs.length) ∧ (IsS ξ.2)) (fun ξ => [(4, ptr b1 0), (6, ptr b2 0), (7, ptr b16 0), (44, sv), (45, .int .i64 ((cs.length : Nat) : Int)), (46, .int .i64 ((ξ.1 : Nat) : Int))]) (fun ξ => [Hp.own FZ 1 ξ.2 (codesC (cs0 n) (cs.take ξ.1)), Hp.rec_ b16 [ξ.2, .slice none 0 0], Hp.rec_ b1 [.slice none 0 0, .slice none 0 0], worldH b2 (stC (cs0 n) (cs.take ξ.1))]) (fun ξ => cs.length - ξ.1) (0, (.slice none 0 0)) ⟨by first | omega | (dsimp only; omega), ⟨none, 0, 0, rfl⟩⟩ ((.cons rfl (.cons rfl (.cons rfl (.cons rfl (.cons rfl (.cons rfl .nil))))))) rfl ?_
    rintro ⟨i, cv⟩ ⟨hi, hicv⟩
    dsimp only at hi hicv
    refine Gx.know (m' := [(4, ptr b1 0), (6, ptr b2 0), (7, ptr b16 0), (44, sv), (45, .int .i64 ((cs.length : Nat) : Int)), (46, .int .i64 ((i : Nat) : Int))]) (.cons rfl (.cons rfl (.cons rfl (.cons rfl (.cons rfl (.cons rfl .nil)))))) (Gx.norm (l' := [Hp.own FZ 1 cv (codesC (cs0 n) (cs.take i)), Hp.rec_ b16 [cv, .slice none 0 0], Hp.rec_ b1 [.slice none 0 0, .slice none 0 0], worldH b2 (stC (cs0 n) (cs.take i))]) rfl ?_)
    have bd := BdC.run (n := n) (cs := cs) i hi
    have hsl : (stC (cs0 n) (cs.take i)).ps.length = n := bd.len
    have hci : (codesC (cs0 n) (cs.take i)).length = i := by rw [codesC_len, List.length_take]; omega
    refine Gx.seq ?_
    refine Gx.region ?_
    refine Gx.val rfl rfl rfl (val_lss rfl rfl rfl) ?_
    refine Gx.done ?_
    refine Gx.thenN ?_
    refine Gx.seq ?_
    refine Gx.dec rfl (fun h17 => ?_) (fun h17 => ?_)
    · refine Gx.skip ?_
      refine Gx.thenN ?_
      refine Gx.seq ?_
      refine Gx.block ?_
      refine Gx.seq ?_
      refine Gx.region ?_
      obtain ⟨x18, hx18⟩ := get_of_lt (xs := cs) (k := i) (by first | omega | (simp; omega))
      refine Gx.val rfl rfl rfl (val_ixa rfl Try.underlying22 Try.ty35 rfl rfl (j := i) (rfl) (reach_base hs hx18)) ?_
      refine Gx.val rfl rfl rfl (Val.cast (val_loadA rfl Try.ty35 rfl rfl rfl (cells_base hs hx18)) (v' := .agg #[.int .i64 x18.kind, .int .i64 x18.who, .int .i64 x18.msg]) rfl) ?_
      refine Gx.eff rfl rfl rfl (eff_alloc rfl Try.ty35 (vs := [.int .i64 0, .int .i64 0, .int .i64 0]) rfl) ?_
      rintro _ _ ⟨b19, rfl, rfl⟩
      refine Gx.eff0 rfl rfl (eff_store rfl Try.ty35 rfl rfl (us := [.int .i64 x18.kind, .int .i64 x18.who, .int .i64 x18.msg]) rfl rfl rfl (k := 0) rfl (rfl) (vs' := [.int .i64 x18.kind, .int .i64 x18.who, .int .i64 x18.msg]) (rfl) (l' := [Hp.rec_ b19 [.int .i64 x18.kind, .int .i64 x18.who, .int .i64 x18.msg], Hp.own FZ 1 cv (codesC (cs0 n) (cs.take i)), Hp.rec_ b16 [cv, .slice none 0 0], Hp.rec_ b1 [.slice none 0 0, .slice none 0 0], worldH b2 (stC (cs0 n) (cs.take i))]) rfl) ?_
      rintro _ _ rfl
      refine Gx.done ?_
      refine Gx.thenN ?_
      refine Gx.regionO (fun j => j == 4 || j == 5 || j == 6) 8 [0, 1, 2, 3, 4, 5, 6, 7] (fun us => match us with | [] => [Hp.rec_ b19 [.int .i64 x18.kind, .int .i64 x18.who, .int .i64 x18.msg], Hp.own FZ 1 cv (codesC (cs0 n) (cs.take i)), Hp.rec_ b16 [cv, .slice none 0 0], Hp.rec_ b1 [.slice none 0 0, .slice none 0 0], worldH b2 (stC (cs0 n) (cs.take i))] | [u1] => [worldH b2 ((stepC (stC (cs0 n) (cs.take i)) x18).2), Hp.rec_ b19 [.int .i64 x18.kind, .int .i64 x18.who, .int .i64 x18.msg], Hp.own FZ 1 cv (codesC (cs0 n) (cs.take i)), Hp.rec_ b16 [cv, .slice none 0 0], Hp.rec_ b1 [.slice none 0 0, .slice none 0 0]] | [u1, u2] => [Hp.rec_ (sB u2) [.int .i64 ((stepC (stC (cs0 n) (cs.take i)) x18).1)], worldH b2 ((stepC (stC (cs0 n) (cs.take i)) x18).2), Hp.rec_ b19 [.int .i64 x18.kind, .int .i64 x18.who, .int .i64 x18.msg], Hp.own FZ 1 cv (codesC (cs0 n) (cs.take i)), Hp.rec_ b16 [cv, .slice none 0 0], Hp.rec_ b1 [.slice none 0 0, .slice none 0 0]] | u1 :: u2 :: u3 :: _ => [worldH b2 ((stepC (stC (cs0 n) (cs.take i)) x18).2), Hp.rec_ b19 [.int .i64 x18.kind, .int .i64 x18.who, .int .i64 x18.msg], Hp.own FZ 1 u3 ((codesC (cs0 n) (cs.take i)) ++ [(stepC (stC (cs0 n) (cs.take i)) x18).1]), Hp.rec_ b16 [cv, .slice none 0 0], Hp.rec_ b1 [.slice none 0 0, .slice none 0 0]]) Try.mixed (by kernel_rfl) rfl ?_
      refine Gw.val rfl rfl rfl rfl rfl (fun us => Val.cast (val_fieldAddr rfl Try.underlying26 rfl Try.ty23 rfl rfl) (v' := ptr b16 0) rfl) ?_
      refine Gw.val rfl rfl rfl rfl rfl (fun us => match us with | [] => val_load rfl Try.ty23 rfl rfl (cell_rec (k := 2) rfl rfl) | [u1] => val_load rfl Try.ty23 rfl rfl (cell_rec (k := 3) rfl rfl) | [u1, u2] => val_load rfl Try.ty23 rfl rfl (cell_rec (k := 4) rfl rfl) | u1 :: u2 :: u3 :: _ => val_load rfl Try.ty23 rfl rfl (cell_rec (k := 3) rfl rfl)) ?_
      refine Gw.val rfl rfl rfl rfl rfl (fun us => val_move rfl rfl) ?_
      refine Gw.val rfl rfl rfl rfl rfl (fun us => match us with | [] => Val.cast (val_loadA rfl Try.ty35 rfl rfl rfl (cells_rec (k := 0) rfl)) (v' := .agg #[.int .i64 x18.kind, .int .i64 x18.who, .int .i64 x18.msg]) rfl | [u1] => Val.cast (val_loadA rfl Try.ty35 rfl rfl rfl (cells_rec (k := 1) rfl)) (v' := .agg #[.int .i64 x18.kind, .int .i64 x18.who, .int .i64 x18.msg]) rfl | [u1, u2] => Val.cast (val_loadA rfl Try.ty35 rfl rfl rfl (cells_rec (k := 2) rfl)) (v' := .agg #[.int .i64 x18.kind, .int .i64 x18.who, .int .i64 x18.msg]) rfl | u1 :: u2 :: u3 :: _ => Val.cast (val_loadA rfl Try.ty35 rfl rfl rfl (cells_rec (k := 1) rfl)) (v' := .agg #[.int .i64 x18.kind, .int .i64 x18.who, .int .i64 x18.msg]) rfl) ?_
      refine Gw.chg rfl rfl rfl rfl rfl (fun v => v = .int .i64 ((stepC (stC (cs0 n) (cs.take i)) x18).1)) (eff_call (vs := [ptr b2 0, .agg #[.int .i64 x18.kind, .int .i64 x18.who, .int .i64 x18.msg]]) rfl Try.fn14 rfl (fun w H => step_any (x := x18) bd h1n h6n (by omega) (H.at_ (k := 4) rfl))) ?_
      rintro _ rfl
      refine Gw.chg rfl rfl rfl rfl rfl (fun v => ∃ b21, v = .slice (some ⟨b21, 0, none⟩) 1 1) (Eff.mono (eff_buildSlice rfl (qs := [(0, .int .i64 ((stepC (stC (cs0 n) (cs.take i)) x18).1))]) rfl rfl (cs := #[.int .i64 ((stepC (stC (cs0 n) (cs.take i)) x18).1)]) (vs := [.int .i64 ((stepC (stC (cs0 n) (cs.take i)) x18).1)]) (E := 27) rfl (fun w => by first | (go_simp; done) | (go_simp; rfl))) (by rintro _ _ ⟨b21, rfl, rfl⟩; exact ⟨⟨b21, rfl⟩, rfl⟩)) ?_
      rintro _ ⟨b21, rfl⟩
      refine Gw.chg rfl rfl rfl rfl rfl IsS (Eff.mono (eff_push (r := (stepC (stC (cs0 n) (cs.take i)) x18).1) rfl Try.eZ FZ_len FZ_one rfl rfl (k := 0) rfl rfl (k' := 2) rfl (by rw [hci]; omega) (by rw [hci]; omega)) (fun _ _ h => ⟨h.1, congrArg sep h.2⟩)) ?_
      intro v22 hiv22
      refine Gw.val rfl rfl rfl rfl rfl (fun us => Val.cast (val_fieldAddr rfl Try.underlying26 rfl Try.ty23 rfl rfl) (v' := ptr b16 0) rfl) ?_
      refine Gw.done ?_
      refine Gx.norm (l' := [worldH b2 ((stepC (stC (cs0 n) (cs.take i)) x18).2), Hp.rec_ b19 [.int .i64 x18.kind, .int .i64 x18.who, .int .i64 x18.msg], Hp.own FZ 1 v22 ((codesC (cs0 n) (cs.take i)) ++ [(stepC (stC (cs0 n) (cs.take i)) x18).1]), Hp.rec_ b16 [cv, .slice none 0 0], Hp.rec_ b1 [.slice none 0 0, .slice none 0 0]]) rfl ?_
      refine Gx.eff0 rfl rfl (eff_store rfl Try.ty23 rfl rfl (us := [v22]) hiv22.cellsL rfl hiv22.all (k := 3) rfl (rfl) (vs' := [v22, .slice none 0 0]) (rfl) (l' := [worldH b2 ((stepC (stC (cs0 n) (cs.take i)) x18).2), Hp.rec_ b19 [.int .i64 x18.kind, .int .i64 x18.who, .int .i64 x18.msg], Hp.own FZ 1 v22 ((codesC (cs0 n) (cs.take i)) ++ [(stepC (stC (cs0 n) (cs.take i)) x18).1]), Hp.rec_ b16 [v22, .slice none 0 0], Hp.rec_ b1 [.slice none 0 0, .slice none 0 0]]) rfl) ?_
      rintro _ _ rfl
      refine Gx.done ?_
      refine Gx.blkN ?_
      refine Gx.thenN ?_
      refine Gx.region ?_
      refine Gx.val rfl rfl rfl (val_add rfl rfl rfl (r := ((i + 1 : Nat) : Int)) (w64 (by omega) (by omega))) ?_
      refine Gx.val rfl rfl rfl (val_move rfl rfl) ?_
      refine Gx.done ?_
      refine Gx.thenN ?_
      refine Gx.drop 1 rfl ?_
      refine Gx.front 0 rfl ?_
      refine Gx.front 3 rfl ?_
      refine Gx.front 3 rfl ?_
      refine Gx.front 3 rfl ?_
      refine Gx.norm (l' := [Hp.own FZ 1 v22 (codesC (cs0 n) (cs.take (i + 1))), Hp.rec_ b16 [v22, .slice none 0 0], Hp.rec_ b1 [.slice none 0 0, .slice none 0 0], worldH b2 (stC (cs0 n) (cs.take (i + 1)))]) (by rw [stC_snoc hx18, codesC_snoc hx18] <;> rfl) ?_
      exact Gx.round (i + 1, v22) ⟨by first | omega | (dsimp only; omega), hiv22⟩ (by first | omega | (dsimp only; omega)) ((.cons rfl (.cons rfl (.cons rfl (.cons rfl (.cons rfl (.cons rfl .nil))))))) rfl
    · refine Gx.exit ?_
      refine Gx.thenE ?_
      refine Gx.thenE ?_
      refine Gx.blkE ?_
      refine Gx.thenN ?_
      refine Gx.seq ?_
      refine Gx.seq ?_
      have ei : i = cs.length := by omega
      subst ei
      rw [List.take_length] at bd hci hsl
      refine Gx.norm (l' := [Hp.own FZ 1 cv (codesC (cs0 n) cs), Hp.rec_ b16 [cv, .slice none 0 0], Hp.rec_ b1 [.slice none 0 0, .slice none 0 0], worldH b2 (stC (cs0 n) cs)]) (by rw [List.take_length] <;> rfl) ?_
      obtain ⟨s, hsd⟩ : ∃ s, s = stC (cs0 n) cs := ⟨_, rfl⟩
      rw [← hsd] at bd hsl
      refine Gx.norm (l' := [Hp.own FZ 1 cv (codesC (cs0 n) cs), Hp.rec_ b16 [cv, .slice none 0 0], Hp.rec_ b1 [.slice none 0 0, .slice none 0 0], worldH b2 s]) (by rw [hsd] <;> rfl) ?_
      refine Gx.front 3 rfl ?_
      refine Gx.exists_ (α := {q : (Value × Value) × List Mm × List Pm // WOk q.2.1 q.2.2 s}) (l' := fun q => [Hp.rec_ b2 [q.1.1.1, q.1.1.2], Hp.own FA 2 q.1.1.1 q.1.2.1, Hp.big needH q.1.2.1, Hp.own FP 1 q.1.1.2 (q.1.2.2.map Pm.b), Hp.big procH q.1.2.2, Hp.own FZ 1 cv (codesC (cs0 n) cs), Hp.rec_ b16 [cv, .slice none 0 0], Hp.rec_ b1 [.slice none 0 0, .slice none 0 0]]) (fun w H => ?_) ?_
      · obtain ⟨av, pv, mms, pms, h1, H⟩ := worldH.open_ (R := sep [Hp.own FZ 1 cv (codesC (cs0 n) cs), Hp.rec_ b16 [cv, .slice none 0 0], Hp.rec_ b1 [.slice none 0 0, .slice none 0 0]]) H
        exact ⟨⟨((av, pv), mms, pms), h1⟩, H.cast (by rw [sep5R]; rfl)⟩
      rintro ⟨⟨⟨av, pv⟩, mms, pms⟩, hok⟩
      dsimp only at hok
      refine Gx.norm (l' := [Hp.rec_ b2 [av, pv], Hp.own FA 2 av mms, Hp.big needH mms, Hp.own FP 1 pv (pms.map Pm.b), Hp.big procH pms, Hp.own FZ 1 cv (codesC (cs0 n) cs), Hp.rec_ b16 [cv, .slice none 0 0], Hp.rec_ b1 [.slice none 0 0, .slice none 0 0]]) rfl ?_
      have hpl : pms.length = n := by rw [← hsl, ← hok.ps, List.length_map]
      have hbl : (pms.map Pm.b).length = n := by rw [List.length_map, hpl]
      obtain ⟨sa23, sn24, sc25, rfl⟩ := hicv
      refine Gx.ownNil FV 1 ?_
      refine Gx.region ?_
      refine Gx.val rfl rfl rfl (val_move rfl rfl) ?_
      refine Gx.val rfl rfl rfl (val_nilCheck rfl rfl) ?_
      refine Gx.val rfl rfl rfl (Val.cast (val_fieldAddr rfl Try.underlying45 rfl Try.ty43 rfl rfl) (v' := ptr b2 1) rfl) ?_
      refine Gx.val rfl rfl rfl (val_load rfl Try.ty43 rfl rfl (cell_rec (k := 1) rfl rfl)) ?_
      refine Gx.val rfl rfl rfl (val_len rfl Try.underlying43 rfl (len_own (k := 4) rfl)) ?_
      refine Gx.val rfl rfl rfl (val_move rfl rfl) ?_
      refine Gx.done ?_
      refine Gx.thenN ?_
      refine Gx.block ?_
      refine Gx.front 8 rfl ?_
      refine Gx.front 7 rfl ?_
      refine Gx.front 7 rfl ?_
      refine Gx.front 7 rfl ?_
      refine Gx.front 7 rfl ?_
      refine Gx.front 7 rfl ?_
      refine Gx.front 7 rfl ?_
      refine Gx.front 8 rfl ?_
      refine Gx.front 8 rfl ?_
      refine Gx.loop (ι := Nat × Value × (List Sv)) (fun ξ => (ξ.1 ≤ n) ∧ (IsS ξ.2.1) ∧ (ξ.2.2.length = ξ.1) ∧ (VOk pms ξ.2.2)) (fun ξ => [(4, ptr b1 0), (6, ptr b2 0), (7, ptr b16 0), (62, pv), (63, .int .i64 (((pms.map Pm.b).length : Nat) : Int)), (64, .int .i64 ((ξ.1 : Nat) : Int))]) (fun ξ => [Hp.own FV 1 ξ.2.1 ξ.2.2, Hp.rec_ b16 [.slice sa23 sn24 sc25, ξ.2.1], Hp.rec_ b2 [av, pv], Hp.own FA 2 av mms, Hp.big needH mms, Hp.own FP 1 pv (pms.map Pm.b), Hp.big procH pms, Hp.own FZ 1 (.slice sa23 sn24 sc25) (codesC (cs0 n) cs), Hp.rec_ b1 [.slice none 0 0, .slice none 0 0]]) (fun ξ => n - ξ.1) (0, (.slice none 0 0), []) ⟨by first | omega | (dsimp only; omega), ⟨none, 0, 0, rfl⟩, rfl, fun k v h => by simp at h⟩ ((.cons rfl (.cons rfl (.cons rfl (.cons rfl (.cons rfl (.cons rfl .nil))))))) rfl ?_
      rintro ⟨j, dv, vals⟩ ⟨hj, hidv, hvl, hvo⟩
      dsimp only at hj hidv hvl hvo
      refine Gx.know (m' := [(4, ptr b1 0), (6, ptr b2 0), (7, ptr b16 0), (62, pv), (63, .int .i64 (((pms.map Pm.b).length : Nat) : Int)), (64, .int .i64 ((j : Nat) : Int))]) (.cons rfl (.cons rfl (.cons rfl (.cons rfl (.cons rfl (.cons rfl .nil)))))) (Gx.norm (l' := [Hp.own FV 1 dv vals, Hp.rec_ b16 [.slice sa23 sn24 sc25, dv], Hp.rec_ b2 [av, pv], Hp.own FA 2 av mms, Hp.big needH mms, Hp.own FP 1 pv (pms.map Pm.b), Hp.big procH pms, Hp.own FZ 1 (.slice sa23 sn24 sc25) (codesC (cs0 n) cs), Hp.rec_ b1 [.slice none 0 0, .slice none 0 0]]) rfl ?_)
      refine Gx.seq ?_
      refine Gx.region ?_
      refine Gx.val rfl rfl rfl (val_lss rfl rfl rfl) ?_
      refine Gx.done ?_
      refine Gx.thenN ?_
      refine Gx.seq ?_
      refine Gx.dec rfl (fun h26 => ?_) (fun h26 => ?_)
      · refine Gx.skip ?_
        refine Gx.thenN ?_
        refine Gx.seq ?_
        refine Gx.block ?_
        refine Gx.seq ?_
        obtain ⟨m, hmj⟩ := get_of_lt (xs := pms) (k := j) (by omega)
        have hbj : (pms.map Pm.b)[j]? = some m.b := by rw [List.getElem?_map, hmj]; rfl
        refine Gx.region ?_
        refine Gx.val rfl rfl rfl (val_ixa rfl Try.underlying43 Try.ty46 rfl rfl (j := j) (rfl) (reach_own (k := 5) rfl hbj)) ?_
        refine Gx.val rfl rfl rfl (val_load rfl Try.ty46 rfl rfl (cell_own (i := 0) (k := 5) rfl hbj rfl)) ?_
        refine Gx.val rfl rfl rfl (val_assign rfl rfl) ?_
        refine Gx.done ?_
        refine Gx.thenN ?_
        refine Gx.focus (n := 6) (k := j) rfl hmj (fun R27 hf28 hg29 => ?_)
        refine Gx.norm (l' := [Hp.own FV 1 dv vals, Hp.rec_ b16 [.slice sa23 sn24 sc25, dv], Hp.rec_ b2 [av, pv], Hp.own FA 2 av mms, Hp.big needH mms, Hp.own FP 1 pv (pms.map Pm.b), procH m, Hp.own FZ 1 (.slice sa23 sn24 sc25) (codesC (cs0 n) cs), Hp.rec_ b1 [.slice none 0 0, .slice none 0 0], R27]) rfl ?_
        refine Gx.cleave 6 (p := Hp.rec_ m.b [m.lv, m.cv, .map (some m.mb), m.wv]) (q := Hp.map Try.prog 3 natL natV m.mb m.p.cm * (Hp.own FN 1 m.lv m.p.lst * (Hp.own FN 1 m.cv m.p.cnt * (Hp.own FN 1 m.wv m.p.wts)))) rfl rfl rfl ?_
        refine Gx.cleave 1 (p := Hp.map Try.prog 3 natL natV m.mb m.p.cm) (q := Hp.own FN 1 m.lv m.p.lst * (Hp.own FN 1 m.cv m.p.cnt * (Hp.own FN 1 m.wv m.p.wts))) rfl rfl rfl ?_
        refine Gx.cleave 1 (p := Hp.own FN 1 m.lv m.p.lst) (q := Hp.own FN 1 m.cv m.p.cnt * (Hp.own FN 1 m.wv m.p.wts)) rfl rfl rfl ?_
        refine Gx.cleave 1 (p := Hp.own FN 1 m.cv m.p.cnt) (q := Hp.own FN 1 m.wv m.p.wts) rfl rfl rfl ?_
        refine Gx.norm (l' := [Hp.own FN 1 m.cv m.p.cnt, Hp.own FN 1 m.wv m.p.wts, Hp.own FN 1 m.lv m.p.lst, Hp.map Try.prog 3 natL natV m.mb m.p.cm, Hp.rec_ m.b [m.lv, m.cv, .map (some m.mb), m.wv], Hp.own FV 1 dv vals, Hp.rec_ b16 [.slice sa23 sn24 sc25, dv], Hp.rec_ b2 [av, pv], Hp.own FA 2 av mms, Hp.big needH mms, Hp.own FP 1 pv (pms.map Pm.b), Hp.own FZ 1 (.slice sa23 sn24 sc25) (codesC (cs0 n) cs), Hp.rec_ b1 [.slice none 0 0, .slice none 0 0], R27]) (rfl) ?_
        refine Gx.fact (p := IsS m.lv) (fun w H => isS_own (H.at_ (k := 2) rfl)) (fun hmv => ?_)
        obtain ⟨sa9, sn9, sc9, hsv⟩ := hmv
        refine Gx.norm (l' := [Hp.own FN 1 m.cv m.p.cnt, Hp.own FN 1 m.wv m.p.wts, Hp.own FN 1 (.slice sa9 sn9 sc9) m.p.lst, Hp.map Try.prog 3 natL natV m.mb m.p.cm, Hp.rec_ m.b [.slice sa9 sn9 sc9, m.cv, .map (some m.mb), m.wv], Hp.own FV 1 dv vals, Hp.rec_ b16 [.slice sa23 sn24 sc25, dv], Hp.rec_ b2 [av, pv], Hp.own FA 2 av mms, Hp.big needH mms, Hp.own FP 1 pv (pms.map Pm.b), Hp.own FZ 1 (.slice sa23 sn24 sc25) (codesC (cs0 n) cs), Hp.rec_ b1 [.slice none 0 0, .slice none 0 0], R27]) (by rw [hsv] <;> rfl) ?_
        refine Gx.regionO (fun j => j == 6 || j == 7) 9 [0, 1, 2, 3, 4, 5, 6, 7, 8] (fun us => match us with | [] => [Hp.own FN 1 m.cv m.p.cnt, Hp.own FN 1 m.wv m.p.wts, Hp.own FN 1 (.slice sa9 sn9 sc9) m.p.lst, Hp.map Try.prog 3 natL natV m.mb m.p.cm, Hp.rec_ m.b [.slice sa9 sn9 sc9, m.cv, .map (some m.mb), m.wv], Hp.own FV 1 dv vals, Hp.rec_ b16 [.slice sa23 sn24 sc25, dv], Hp.rec_ b2 [av, pv], Hp.own FA 2 av mms, Hp.big needH mms, Hp.own FP 1 pv (pms.map Pm.b), Hp.own FZ 1 (.slice sa23 sn24 sc25) (codesC (cs0 n) cs), Hp.rec_ b1 [.slice none 0 0, .slice none 0 0], R27] | [u1] => [Hp.rec_ (sB u1) [.slice sa9 sn9 sc9], Hp.own FN 1 m.cv m.p.cnt, Hp.own FN 1 m.wv m.p.wts, Hp.own FN 1 (.slice sa9 sn9 sc9) m.p.lst, Hp.map Try.prog 3 natL natV m.mb m.p.cm, Hp.rec_ m.b [.slice sa9 sn9 sc9, m.cv, .map (some m.mb), m.wv], Hp.own FV 1 dv vals, Hp.rec_ b16 [.slice sa23 sn24 sc25, dv], Hp.rec_ b2 [av, pv], Hp.own FA 2 av mms, Hp.big needH mms, Hp.own FP 1 pv (pms.map Pm.b), Hp.own FZ 1 (.slice sa23 sn24 sc25) (codesC (cs0 n) cs), Hp.rec_ b1 [.slice none 0 0, .slice none 0 0], R27] | u1 :: u2 :: _ => [Hp.own FN 1 m.cv m.p.cnt, Hp.own FN 1 m.wv m.p.wts, Hp.own FN 1 (.slice sa9 sn9 sc9) m.p.lst, Hp.map Try.prog 3 natL natV m.mb m.p.cm, Hp.rec_ m.b [.slice sa9 sn9 sc9, m.cv, .map (some m.mb), m.wv], Hp.own FV 1 u2 (vals ++ [(⟨sa9, sn9, sc9⟩ : Sv)]), Hp.rec_ b16 [.slice sa23 sn24 sc25, dv], Hp.rec_ b2 [av, pv], Hp.own FA 2 av mms, Hp.big needH mms, Hp.own FP 1 pv (pms.map Pm.b), Hp.own FZ 1 (.slice sa23 sn24 sc25) (codesC (cs0 n) cs), Hp.rec_ b1 [.slice none 0 0, .slice none 0 0], R27]) Try.mixed (by kernel_rfl) rfl ?_
        refine Gw.val rfl rfl rfl rfl rfl (fun us => Val.cast (val_fieldAddr rfl Try.underlying26 rfl Try.ty24 rfl rfl) (v' := ptr b16 1) rfl) ?_
        refine Gw.val rfl rfl rfl rfl rfl (fun us => match us with | [] => val_load rfl Try.ty24 rfl rfl (cell_rec (k := 6) rfl rfl) | [u1] => val_load rfl Try.ty24 rfl rfl (cell_rec (k := 7) rfl rfl) | u1 :: u2 :: _ => val_load rfl Try.ty24 rfl rfl (cell_rec (k := 6) rfl rfl)) ?_
        refine Gw.val rfl rfl rfl rfl rfl (fun us => val_move rfl rfl) ?_
        refine Gw.val rfl rfl rfl rfl rfl (fun us => val_nilCheck rfl rfl) ?_
        refine Gw.val rfl rfl rfl rfl rfl (fun us => Val.cast (val_fieldAddr rfl Try.underlying49 rfl Try.ty30 rfl rfl) (v' := ptr m.b 0) rfl) ?_
        refine Gw.val rfl rfl rfl rfl rfl (fun us => match us with | [] => val_load rfl Try.ty30 rfl rfl (cell_rec (k := 4) rfl rfl) | [u1] => val_load rfl Try.ty30 rfl rfl (cell_rec (k := 5) rfl rfl) | u1 :: u2 :: _ => val_load rfl Try.ty30 rfl rfl (cell_rec (k := 4) rfl rfl)) ?_
        refine Gw.chg rfl rfl rfl rfl rfl (fun v => ∃ b30, v = .slice (some ⟨b30, 0, none⟩) 1 1) (Eff.mono (eff_buildSlice rfl (qs := [(0, .slice sa9 sn9 sc9)]) rfl rfl (cs := #[.slice sa9 sn9 sc9]) (vs := [.slice sa9 sn9 sc9]) (E := 30) rfl (fun w => by first | (go_simp; done) | (go_simp; rfl))) (by rintro _ _ ⟨b30, rfl, rfl⟩; exact ⟨⟨b30, rfl⟩, rfl⟩)) ?_
        rintro _ ⟨b30, rfl⟩
        refine Gw.chg rfl rfl rfl rfl rfl IsS (Eff.mono (eff_push (r := (⟨sa9, sn9, sc9⟩ : Sv)) rfl Try.eV FV_len FV_one rfl rfl (k := 0) rfl rfl (k' := 5) rfl (by omega) (by omega)) (fun _ _ h => ⟨h.1, congrArg sep h.2⟩)) ?_
        intro v31 hiv31
        refine Gw.val rfl rfl rfl rfl rfl (fun us => Val.cast (val_fieldAddr rfl Try.underlying26 rfl Try.ty24 rfl rfl) (v' := ptr b16 1) rfl) ?_
        refine Gw.done ?_
        refine Gx.norm (l' := [Hp.own FN 1 m.cv m.p.cnt, Hp.own FN 1 m.wv m.p.wts, Hp.own FN 1 (.slice sa9 sn9 sc9) m.p.lst, Hp.map Try.prog 3 natL natV m.mb m.p.cm, Hp.rec_ m.b [.slice sa9 sn9 sc9, m.cv, .map (some m.mb), m.wv], Hp.own FV 1 v31 (vals ++ [(⟨sa9, sn9, sc9⟩ : Sv)]), Hp.rec_ b16 [.slice sa23 sn24 sc25, dv], Hp.rec_ b2 [av, pv], Hp.own FA 2 av mms, Hp.big needH mms, Hp.own FP 1 pv (pms.map Pm.b), Hp.own FZ 1 (.slice sa23 sn24 sc25) (codesC (cs0 n) cs), Hp.rec_ b1 [.slice none 0 0, .slice none 0 0], R27]) rfl ?_
        refine Gx.eff0 rfl rfl (eff_store rfl Try.ty24 rfl rfl (us := [v31]) hiv31.cellsL rfl hiv31.all (k := 6) rfl (rfl) (vs' := [.slice sa23 sn24 sc25, v31]) (rfl) (l' := [Hp.own FN 1 m.cv m.p.cnt, Hp.own FN 1 m.wv m.p.wts, Hp.own FN 1 (.slice sa9 sn9 sc9) m.p.lst, Hp.map Try.prog 3 natL natV m.mb m.p.cm, Hp.rec_ m.b [.slice sa9 sn9 sc9, m.cv, .map (some m.mb), m.wv], Hp.own FV 1 v31 (vals ++ [(⟨sa9, sn9, sc9⟩ : Sv)]), Hp.rec_ b16 [.slice sa23 sn24 sc25, v31], Hp.rec_ b2 [av, pv], Hp.own FA 2 av mms, Hp.big needH mms, Hp.own FP 1 pv (pms.map Pm.b), Hp.own FZ 1 (.slice sa23 sn24 sc25) (codesC (cs0 n) cs), Hp.rec_ b1 [.slice none 0 0, .slice none 0 0], R27]) rfl) ?_
        rintro _ _ rfl
        refine Gx.done ?_
        refine Gx.blkN ?_
        refine Gx.thenN ?_
        refine Gx.norm (l' := [Hp.own FN 1 m.cv m.p.cnt, Hp.own FN 1 m.wv m.p.wts, Hp.own FN 1 m.lv m.p.lst, Hp.map Try.prog 3 natL natV m.mb m.p.cm, Hp.rec_ m.b [m.lv, m.cv, .map (some m.mb), m.wv], Hp.own FV 1 v31 (vals ++ [(⟨sa9, sn9, sc9⟩ : Sv)]), Hp.rec_ b16 [.slice sa23 sn24 sc25, v31], Hp.rec_ b2 [av, pv], Hp.own FA 2 av mms, Hp.big needH mms, Hp.own FP 1 pv (pms.map Pm.b), Hp.own FZ 1 (.slice sa23 sn24 sc25) (codesC (cs0 n) cs), Hp.rec_ b1 [.slice none 0 0, .slice none 0 0], R27]) (by rw [hsv] <;> rfl) ?_
        refine Gx.front 13 rfl ?_
        refine Gx.front 2 rfl ?_
        refine Gx.front 2 rfl ?_
        refine Gx.front 3 rfl ?_
        refine Gx.front 4 rfl ?_
        refine Gx.front 5 rfl ?_
        refine Gx.sepEq (l' := [Hp.big procH pms, Hp.own FV 1 v31 (vals ++ [(⟨sa9, sn9, sc9⟩ : Sv)]), Hp.rec_ b16 [.slice sa23 sn24 sc25, v31], Hp.rec_ b2 [av, pv], Hp.own FA 2 av mms, Hp.big needH mms, Hp.own FP 1 pv (pms.map Pm.b), Hp.own FZ 1 (.slice sa23 sn24 sc25) (codesC (cs0 n) cs), Hp.rec_ b1 [.slice none 0 0, .slice none 0 0]]) (by show Hp.rec_ m.b [m.lv, m.cv, .map (some m.mb), m.wv] * (Hp.map Try.prog 3 natL natV m.mb m.p.cm * (Hp.own FN 1 m.lv m.p.lst * (Hp.own FN 1 m.cv m.p.cnt * (Hp.own FN 1 m.wv m.p.wts * (R27 * _))))) = Hp.big procH pms * _; rw [hf28]; show _ = (Hp.rec_ m.b [m.lv, m.cv, .map (some m.mb), m.wv] * (Hp.map Try.prog 3 natL natV m.mb m.p.cm * (Hp.own FN 1 m.lv m.p.lst * (Hp.own FN 1 m.cv m.p.cnt * Hp.own FN 1 m.wv m.p.wts))) * R27) * _; simp only [Hp.mul_assoc] <;> rfl) ?_
        refine Gx.region ?_
        refine Gx.val rfl rfl rfl (val_add rfl rfl rfl (r := ((j + 1 : Nat) : Int)) (w64 (by omega) (by omega))) ?_
        refine Gx.val rfl rfl rfl (val_move rfl rfl) ?_
        refine Gx.done ?_
        refine Gx.thenN ?_
        refine Gx.front 8 rfl ?_
        refine Gx.front 8 rfl ?_
        refine Gx.front 2 rfl ?_
        refine Gx.front 8 rfl ?_
        refine Gx.front 8 rfl ?_
        refine Gx.front 8 rfl ?_
        refine Gx.front 8 rfl ?_
        refine Gx.front 8 rfl ?_
        refine Gx.front 8 rfl ?_
        exact Gx.round (j + 1, v31, (vals ++ [(⟨sa9, sn9, sc9⟩ : Sv)])) ⟨by first | omega | (dsimp only; omega), hiv31, by simp [hvl], hvo.snoc (by rw [hvl]; exact hmj) hsv⟩ (by first | omega | (dsimp only; omega)) ((.cons rfl (.cons rfl (.cons rfl (.cons rfl (.cons rfl (.cons rfl .nil))))))) rfl
      · refine Gx.exit ?_
        refine Gx.thenE ?_
        refine Gx.thenE ?_
        refine Gx.blkE ?_
        refine Gx.thenN ?_
        refine Gx.seq ?_
        obtain ⟨sa32, sn33, sc34, rfl⟩ := hidv
        refine Gx.region ?_
        refine Gx.val rfl rfl rfl (Val.cast (val_loadA rfl Try.ty26 rfl rfl rfl (cells_rec (k := 1) rfl)) (v' := .agg #[.slice sa23 sn24 sc25, .slice sa32 sn33 sc34]) rfl) ?_
        refine Gx.eff0 rfl rfl (eff_store rfl Try.ty26 rfl rfl (us := [.slice sa23 sn24 sc25, .slice sa32 sn33 sc34]) rfl rfl rfl (k := 8) rfl (rfl) (vs' := [.slice sa23 sn24 sc25, .slice sa32 sn33 sc34]) (rfl) (l' := [Hp.own FV 1 (.slice sa32 sn33 sc34) vals, Hp.rec_ b16 [.slice sa23 sn24 sc25, .slice sa32 sn33 sc34], Hp.rec_ b2 [av, pv], Hp.own FA 2 av mms, Hp.big needH mms, Hp.own FP 1 pv (pms.map Pm.b), Hp.big procH pms, Hp.own FZ 1 (.slice sa23 sn24 sc25) (codesC (cs0 n) cs), Hp.rec_ b1 [.slice sa23 sn24 sc25, .slice sa32 sn33 sc34]]) rfl) ?_
        rintro _ _ rfl
        refine Gx.val rfl rfl rfl (val_assign rfl rfl) ?_
        refine Gx.done ?_
        refine Gx.thenN ?_
        refine Gx.ret ?_
        refine Gx.drop 5 rfl ?_
        refine Gx.drop 4 rfl ?_
        refine Gx.drop 3 rfl ?_
        refine Gx.drop 2 rfl ?_
        refine Gx.drop 1 rfl ?_
        refine Gx.front 3 rfl ?_
        refine Gx.front 2 rfl ?_
        refine Gx.front 2 rfl ?_
        refine Gx.front 3 rfl ?_
        refine Gx.retC2 Try.results7 Try.ty26 rfl rfl (us := [.slice sa23 sn24 sc25, .slice sa32 sn33 sc34]) rfl (k := 3) rfl rfl ?_
        subst hsd
        exact ⟨_, _, vals, mms, pms, _, rfl, rfl, hok, by omega, hvo⟩

theorem play_ok {W : World} {n : Nat} {sv : Value} {cs : List Mv} (h1n : 1 ≤ n) (h6n : n ≤ 6) (hs : SlS FM 3 W sv cs) (hcl : cs.length ≤ 120) :
    Calls Try.prog 7 #[.int .i64 ((n : Nat) : Int), sv] W fun e w' => ∃ v, e = .returned v ∧ (∃ (cv dv : Value) (vals : List Sv), v = .tuple #[.agg #[cv, dv], .int .i64 0] ∧ SlS FZ 1 w' cv (codesC (cs0 n) cs) ∧ SlS FV 1 w' dv vals ∧ vals.length = n ∧ ∀ (kw : Nat) (v : Sv), vals[kw]? = some v → SlS FN 1 w' (.slice v.a v.n v.c) (lstC (stC (cs0 n) cs) kw)) ∧ Below W.heap.size W w' := by
  refine calls_some (play_raw h1n h6n hs hcl) ?_
  rintro v l w ⟨cv, dv, vals, mms, pms, P, rfl, rfl, hok, hvl, hvo⟩ H
  have bd := BdC.run (n := n) (cs := cs) cs.length (Nat.le_refl _)
  rw [List.take_length] at bd
  refine ⟨cv, dv, vals, rfl, (H.at_ (k := 0) rfl).sls (by rw [codesC_len]; omega), (H.at_ (k := 1) rfl).sls (by omega), hvl, fun kw v hv => ?_⟩
  obtain ⟨m, hm, hmv⟩ := hvo kw v hv
  have hrow : (stC (cs0 n) cs).ps[kw]? = some m.p := by rw [← hok.ps, List.getElem?_map, hm]; rfl
  have hlen := (bd.row m.p (List.mem_of_getElem? hrow)).ll
  obtain ⟨R0, h1, _⟩ := Hp.big_focus procH pms kw m hm
  have H1 := H.at_ (k := 2) rfl
  rw [h1] at H1
  rw [show lstC (stC (cs0 n) cs) kw = m.p.lst from by unfold lstC; rw [hrow]; rfl, ← hmv]
  obtain ⟨Z, hZ⟩ : ∃ Z, procH m = Hp.own FN 1 m.lv m.p.lst * Z := ⟨Hp.rec_ m.b [m.lv, m.cv, .map (some m.mb), m.wv] * (mapB m.mb m.p.cm * (Hp.own FN 1 m.cv m.p.cnt * Hp.own FN 1 m.wv m.p.wts)), by unfold procH; ac_rfl⟩
  rw [hZ] at H1
  exact Sat.sls (H1.cast (by rw [Hp.mul_assoc, Hp.mul_assoc])) (by omega)
end Go.Proofs.Ytcjdphhofjibdaa
