/- A script played. The walk. No condition. -/
import Derived.Test.YtfpdbgalannalaaM1
import Derived.Test.YtfpdbgalannalaaA4
import Derived.Test.YtfpdbgalannalaaX7
namespace Go.Proofs.Ytfpdbgalannalaa
open Go.RowKit
set_option linter.unusedVariables false
set_option linter.unusedSimpArgs false
set_option maxRecDepth 100000

abbrev FM (c : Mv) : List Value := [.int .i64 c.kind, .int .i64 c.who, .int .i64 c.msg]
theorem FM_len (c : Mv) : (FM c).length = 3 := rfl
abbrev FZ (x : Int) : List Value := [.int .i64 x]
theorem FZ_len (x : Int) : (FZ x).length = 1 := rfl
theorem FZ_one (p : Int) (u : Value) (h : u ∈ FZ p) : u.oneCell' = true := by simp [FZ] at h; subst h; rfl
theorem Try.eZ : Elem Try.prog 23 27 (.int .i64 0) 1 8 := ⟨Try.underlying23, by kernel_rfl, rfl, by decide⟩
structure Sv where
  a : Option Addr
  n : Nat
  c : Nat
abbrev FV (x : Sv) : List Value := [.slice x.a x.n x.c]
theorem FV_len (x : Sv) : (FV x).length = 1 := rfl
theorem FV_one (p : Sv) (u : Value) (h : u ∈ FV p) : u.oneCell' = true := by simp [FV] at h; subst h; rfl
theorem Try.eV : Elem Try.prog 24 30 (.slice none 0 0) 1 24 := ⟨Try.underlying24, by kernel_rfl, rfl, by decide⟩
theorem stT_snoc {l : List Mv} {i : Nat} {c : Mv} {s : TS} (h : l[i]? = some c) : stT s (l.take (i + 1)) = (stepT (stT s (l.take i)) c).2 := by
  rw [take_of h, stT_app]; rfl
theorem codesT_snoc {l : List Mv} {i : Nat} {c : Mv} {s : TS} (h : l[i]? = some c) : codesT s (l.take (i + 1)) = codesT s (l.take i) ++ [(stepT (stT s (l.take i)) c).1] := by
  rw [take_of h, codesT_app]; rfl
def lstT (s : TS) (k : Nat) : List Nat := ((s.ps[k]?).map Pt.lst).getD []
def VOk (pms : List Pm) (vals : List Sv) : Prop := ∀ (k : Nat) (v : Sv), vals[k]? = some v → ∃ m, pms[k]? = some m ∧ m.v = .slice v.a v.n v.c
theorem VOk.snoc {pms : List Pm} {vals : List Sv} {m : Pm} {v : Sv} (h : VOk pms vals) (hm : pms[vals.length]? = some m) (hv : m.v = .slice v.a v.n v.c) : VOk pms (vals ++ [v]) := fun k x hx => by
  rcases Nat.lt_trichotomy k vals.length with c | c | c
  · rw [List.getElem?_append_left c] at hx; exact h k x hx
  · subst c; simp at hx; subst hx; exact ⟨m, hm, hv⟩
  · rw [List.getElem?_eq_none (by simp; omega)] at hx; cases hx
theorem InvT.hyp {t : Nat} {s : TS} (h : InvT t s) (ht : t ≤ 1000) (c : Mv) : s.many ≤ 100000 ∧ (∀ p ∈ s.ps, p.n ≤ 100000 ∧ p.lst.length ≤ 100000) ∧ (∀ p e k, s.ps[c.who.toNat]? = some p → p.got c.msg.toNat = some e → finalT s.ps c.msg.toNat 0 = some k → DK (upG p.got c.msg.toNat ⟨k, true, e.hrd⟩)) := by
  have hm := h.many
  refine ⟨by omega, fun p hp => ?_, fun p e k hp he hk => h.dk hp he hk⟩
  obtain ⟨i, hi⟩ := List.getElem?_of_mem hp
  have h1 := h.nb p hp
  have h2 := (h.pi i p hi).len
  omega
theorem play_no {W : World} {k : Int} {sv : Value} {cs : List Mv} (hs : SlS FM 3 W sv cs) (hbad : k < 1 ∨ 6 < k ∨ 120 < (cs.length : Int)) :
    Calls Try.prog 7 #[.int .i64 k, sv] W fun e w' => e = .returned (.tuple #[.agg #[.slice none 0 0, .slice none 0 0], .int .i64 1]) ∧ Below W.heap.size W w' := by
  refine calls_pure (Gx.enter (l := []) Try.func7 rfl Try.ntmps7 rfl (Sat.start W) ?_)
  refine Gx.know (m' := [(0, .int .i64 k), (1, sv)]) (.cons rfl (.cons rfl .nil)) ?_
  refine Gx.seq ?_
  refine Gx.region ?_
  refine Gx.eff rfl rfl rfl (eff_alloc rfl Try.ty26 (vs := [.slice none 0 0, .slice none 0 0]) rfl) ?_
  rintro _ _ ⟨b1, rfl, rfl⟩
  refine Gx.val rfl rfl rfl (val_assign rfl rfl) ?_
  refine Gx.done ?_
  refine Gx.thenN ?_
  refine Gx.seq ?_
  refine Gx.seq ?_
  refine Gx.region ?_
  refine Gx.val rfl rfl rfl (val_move rfl rfl) ?_
  refine Gx.val rfl rfl rfl (val_lss rfl rfl rfl) ?_
  refine Gx.val rfl rfl rfl (val_move rfl rfl) ?_
  refine Gx.cases (t := 14) rfl (fun h2 => ?_) (fun h2 => ?_)
  · refine Gx.skipg rfl rfl rfl rfl rfl rfl ?_
    refine Gx.skipg rfl rfl rfl rfl rfl rfl ?_
    refine Gx.val rfl rfl rfl (val_pickT rfl rfl rfl) ?_
    refine Gx.val rfl rfl rfl (val_move rfl rfl) ?_
    refine Gx.skipg rfl rfl rfl rfl rfl rfl ?_
    refine Gx.skipg rfl rfl rfl rfl rfl rfl ?_
    refine Gx.skipg rfl rfl rfl rfl rfl rfl ?_
    refine Gx.val rfl rfl rfl (val_pickT rfl rfl rfl) ?_
    refine Gx.done ?_
    refine Gx.thenN ?_
    refine Gx.t rfl ?_
    refine Gx.seq ?_
    refine Gx.region ?_
    refine Gx.val rfl rfl rfl (val_build rfl (qs := []) rfl rfl (fun w => by go_simp) (v := .agg #[.slice none 0 0, .slice none 0 0])) ?_
    refine Gx.eff0 rfl rfl (eff_store rfl Try.ty26 rfl rfl (us := [.slice none 0 0, .slice none 0 0]) rfl rfl rfl (k := 0) rfl (rfl) (vs' := [.slice none 0 0, .slice none 0 0]) (rfl) (l' := [Hp.rec_ b1 [.slice none 0 0, .slice none 0 0]]) rfl) ?_
    rintro _ _ rfl
    refine Gx.val rfl rfl rfl (val_assign rfl rfl) ?_
    refine Gx.done ?_
    refine Gx.thenN ?_
    refine Gx.ret ?_
    refine Gx.thenR ?_
    refine Gx.retC2 Try.results7 Try.ty26 rfl rfl (us := [.slice none 0 0, .slice none 0 0]) rfl (k := 0) rfl rfl ?_
    rfl
  · refine Gx.valg rfl rfl rfl rfl rfl (val_move rfl rfl) ?_
    refine Gx.valg rfl rfl rfl rfl rfl (val_gtr rfl rfl rfl) ?_
    refine Gx.val rfl rfl rfl (val_pickF rfl rfl rfl) ?_
    refine Gx.val rfl rfl rfl (val_move rfl rfl) ?_
    refine Gx.cases (t := 18) rfl (fun h3 => ?_) (fun h3 => ?_)
    · refine Gx.skipg rfl rfl rfl rfl rfl rfl ?_
      refine Gx.skipg rfl rfl rfl rfl rfl rfl ?_
      refine Gx.skipg rfl rfl rfl rfl rfl rfl ?_
      refine Gx.val rfl rfl rfl (val_pickT rfl rfl rfl) ?_
      refine Gx.done ?_
      refine Gx.thenN ?_
      refine Gx.t rfl ?_
      refine Gx.seq ?_
      refine Gx.region ?_
      refine Gx.val rfl rfl rfl (val_build rfl (qs := []) rfl rfl (fun w => by go_simp) (v := .agg #[.slice none 0 0, .slice none 0 0])) ?_
      refine Gx.eff0 rfl rfl (eff_store rfl Try.ty26 rfl rfl (us := [.slice none 0 0, .slice none 0 0]) rfl rfl rfl (k := 0) rfl (rfl) (vs' := [.slice none 0 0, .slice none 0 0]) (rfl) (l' := [Hp.rec_ b1 [.slice none 0 0, .slice none 0 0]]) rfl) ?_
      rintro _ _ rfl
      refine Gx.val rfl rfl rfl (val_assign rfl rfl) ?_
      refine Gx.done ?_
      refine Gx.thenN ?_
      refine Gx.ret ?_
      refine Gx.thenR ?_
      refine Gx.retC2 Try.results7 Try.ty26 rfl rfl (us := [.slice none 0 0, .slice none 0 0]) rfl (k := 0) rfl rfl ?_
      rfl
    · refine Gx.valg rfl rfl rfl rfl rfl (val_move rfl rfl) ?_
      refine Gx.valg rfl rfl rfl rfl rfl (val_len rfl Try.underlying22 rfl (len_base hs)) ?_
      refine Gx.valg rfl rfl rfl rfl rfl (val_gtr rfl rfl rfl) ?_
      refine Gx.val rfl rfl rfl (val_pickF rfl rfl rfl) ?_
      refine Gx.done ?_
      refine Gx.thenN ?_
      refine Gx.dec rfl (fun h4 => ?_) (fun h4 => ?_)
      · refine Gx.seq ?_
        refine Gx.region ?_
        refine Gx.val rfl rfl rfl (val_build rfl (qs := []) rfl rfl (fun w => by go_simp) (v := .agg #[.slice none 0 0, .slice none 0 0])) ?_
        refine Gx.eff0 rfl rfl (eff_store rfl Try.ty26 rfl rfl (us := [.slice none 0 0, .slice none 0 0]) rfl rfl rfl (k := 0) rfl (rfl) (vs' := [.slice none 0 0, .slice none 0 0]) (rfl) (l' := [Hp.rec_ b1 [.slice none 0 0, .slice none 0 0]]) rfl) ?_
        rintro _ _ rfl
        refine Gx.val rfl rfl rfl (val_assign rfl rfl) ?_
        refine Gx.done ?_
        refine Gx.thenN ?_
        refine Gx.ret ?_
        refine Gx.thenR ?_
        refine Gx.retC2 Try.results7 Try.ty26 rfl rfl (us := [.slice none 0 0, .slice none 0 0]) rfl (k := 0) rfl rfl ?_
        rfl
      · exfalso; omega

theorem play_ok {W : World} {n : Nat} {sv : Value} {cs : List Mv} (h1n : 1 ≤ n) (h6n : n ≤ 6) (hs : SlS FM 3 W sv cs) (hcl : cs.length ≤ 120) :
    Calls Try.prog 7 #[.int .i64 ((n : Nat) : Int), sv] W fun e w' => ∃ v, e = .returned v ∧ (∃ (cv dv : Value) (vals : List Sv), v = .tuple #[.agg #[cv, dv], .int .i64 0] ∧ SlS FZ 1 w' cv (codesT (ts0 n) cs) ∧ SlS FV 1 w' dv vals ∧ vals.length = n ∧ ∀ (kw : Nat) (v : Sv), vals[kw]? = some v → SlS FN 1 w' (.slice v.a v.n v.c) (lstT (stT (ts0 n) cs) kw)) ∧ Below W.heap.size W w' := by
  refine calls_some (S := fun v l => ∃ (cv dv : Value) (vals : List Sv) (pms : List Pm) (P : Hp), v = .tuple #[.agg #[cv, dv], .int .i64 0] ∧ l = [Hp.own FZ 1 cv (codesT (ts0 n) cs), Hp.own FV 1 dv vals, Hp.big procH pms, P] ∧ WOk cs.length pms (stT (ts0 n) cs) ∧ vals.length = n ∧ VOk pms vals) (Gx.enter (l := []) Try.func7 rfl Try.ntmps7 rfl (Sat.start W) ?_) ?_
  refine Gx.know (m' := [(0, .int .i64 ((n : Nat) : Int)), (1, sv)]) (.cons rfl (.cons rfl .nil)) ?_
  refine Gx.seq ?_
  refine Gx.region ?_
  refine Gx.eff rfl rfl rfl (eff_alloc rfl Try.ty26 (vs := [.slice none 0 0, .slice none 0 0]) rfl) ?_
  rintro _ _ ⟨b1, rfl, rfl⟩
  refine Gx.val rfl rfl rfl (val_assign rfl rfl) ?_
  refine Gx.done ?_
  refine Gx.thenN ?_
  refine Gx.seq ?_
  refine Gx.seq ?_
  refine Gx.region ?_
  refine Gx.val rfl rfl rfl (val_move rfl rfl) ?_
  refine Gx.val rfl rfl rfl (val_lss rfl rfl rfl) ?_
  refine Gx.val rfl rfl rfl (val_move rfl rfl) ?_
  refine Gx.slot (t := 14) (v := .bool false) (look_decF rfl (by omega)) ?_
  refine Gx.valg rfl rfl rfl rfl rfl (val_move rfl rfl) ?_
  refine Gx.valg rfl rfl rfl rfl rfl (val_gtr rfl rfl rfl) ?_
  refine Gx.val rfl rfl rfl (val_pickF rfl rfl rfl) ?_
  refine Gx.val rfl rfl rfl (val_move rfl rfl) ?_
  refine Gx.slot (t := 18) (v := .bool false) (look_decF rfl (by omega)) ?_
  refine Gx.valg rfl rfl rfl rfl rfl (val_move rfl rfl) ?_
  refine Gx.valg rfl rfl rfl rfl rfl (val_len rfl Try.underlying22 rfl (len_base hs)) ?_
  refine Gx.valg rfl rfl rfl rfl rfl (val_gtr rfl rfl rfl) ?_
  refine Gx.val rfl rfl rfl (val_pickF rfl rfl rfl) ?_
  refine Gx.done ?_
  refine Gx.thenN ?_
  refine Gx.decF rfl (by omega) ?_
  refine Gx.skip ?_
  refine Gx.thenN ?_
  refine Gx.seq ?_
  refine Gx.region ?_
  refine Gx.val rfl rfl rfl (val_build rfl (qs := []) rfl rfl (fun w => by go_simp) (v := .agg #[.slice none 0 0, .int .i64 0])) ?_
  refine Gx.eff rfl rfl rfl (eff_box rfl rfl (vs := [.slice none 0 0, .int .i64 0]) rfl) ?_
  rintro _ _ ⟨b2, rfl, rfl⟩
  refine Gx.val rfl rfl rfl (val_assign rfl rfl) ?_
  refine Gx.done ?_
  refine Gx.thenN ?_
  refine Gx.seq ?_
  refine Gx.seq ?_
  refine Gx.ownNil FP 1 ?_
  refine Gx.emp ?_
  refine Gx.norm (l' := [Hp.big procH ([] : List Pm), Hp.own FP 1 (.slice none 0 0) ([]), Hp.rec_ b2 [.slice none 0 0, .int .i64 0], Hp.rec_ b1 [.slice none 0 0, .slice none 0 0]]) rfl ?_
  refine Gx.region ?_
  refine Gx.val rfl rfl rfl (val_move rfl rfl) ?_
  refine Gx.val rfl rfl rfl (val_move rfl rfl) ?_
  refine Gx.done ?_
  refine Gx.thenN ?_
  refine Gx.block ?_
  refine Gx.loop (ι := Nat × Value × (List Pm)) (fun ξ => (ξ.1 ≤ n) ∧ (ξ.2.2.map Pm.p = List.replicate ξ.1 (⟨0, fun _ => none, []⟩ : Pt)) ∧ (IsS ξ.2.1) ∧ (ξ.2.2.length = ξ.1) ∧ (∀ m ∈ ξ.2.2, POk 0 m)) (fun ξ => [(4, ptr b1 0), (6, ptr b2 0), (1, sv), (26, .int .i64 ((n : Nat) : Int)), (27, .int .i64 ((ξ.1 : Nat) : Int))]) (fun ξ => [Hp.big procH ξ.2.2, Hp.own FP 1 ξ.2.1 (ξ.2.2.map Pm.b), Hp.rec_ b2 [ξ.2.1, .int .i64 0], Hp.rec_ b1 [.slice none 0 0, .slice none 0 0]]) (fun ξ => n - ξ.1) (0, (.slice none 0 0), ([] : List Pm)) ⟨by first | omega | (dsimp only; omega), rfl, ⟨none, 0, 0, rfl⟩, rfl, fun m hm => by cases hm⟩ ((.cons rfl (.cons rfl (.cons rfl (.cons rfl (.cons rfl .nil)))))) rfl ?_
  rintro ⟨k, pv, pms⟩ ⟨hk, hpm, hipv, hpl, hpok⟩
  dsimp only at hk hpm hipv hpl hpok
  refine Gx.know (m' := [(4, ptr b1 0), (6, ptr b2 0), (1, sv), (26, .int .i64 ((n : Nat) : Int)), (27, .int .i64 ((k : Nat) : Int))]) (.cons rfl (.cons rfl (.cons rfl (.cons rfl (.cons rfl .nil))))) (Gx.norm (l' := [Hp.big procH pms, Hp.own FP 1 pv (pms.map Pm.b), Hp.rec_ b2 [pv, .int .i64 0], Hp.rec_ b1 [.slice none 0 0, .slice none 0 0]]) rfl ?_)
  refine Gx.seq ?_
  refine Gx.region ?_
  refine Gx.val rfl rfl rfl (val_lss rfl rfl rfl) ?_
  refine Gx.done ?_
  refine Gx.thenN ?_
  refine Gx.seq ?_
  refine Gx.dec rfl (fun h3 => ?_) (fun h3 => ?_)
  · refine Gx.skip ?_
    refine Gx.thenN ?_
    refine Gx.seq ?_
    refine Gx.block ?_
    refine Gx.region ?_
    refine Gx.val rfl rfl rfl (val_move rfl rfl) ?_
    refine Gx.val rfl rfl rfl (val_move rfl rfl) ?_
    refine Gx.val rfl rfl rfl (val_nilCheck rfl rfl) ?_
    refine Gx.val rfl rfl rfl (Val.cast (val_fieldAddr rfl Try.underlying43 rfl Try.ty41 rfl rfl) (v' := ptr b2 0) rfl) ?_
    refine Gx.val rfl rfl rfl (val_load rfl Try.ty41 rfl rfl (cell_rec (k := 2) rfl rfl)) ?_
    refine Gx.eff rfl rfl rfl (eff_makeMap 3 natL vB rfl) ?_
    rintro _ _ ⟨b4, rfl, rfl⟩
    refine Gx.val rfl rfl rfl (val_build rfl (qs := [(1, .map (some b4))]) rfl rfl (fun w => by go_simp) (v := .agg #[.int .i64 0, .map (some b4), .slice none 0 0])) ?_
    refine Gx.eff rfl rfl rfl (eff_box rfl rfl (vs := [.int .i64 0, .map (some b4), .slice none 0 0]) rfl) ?_
    rintro _ _ ⟨b5, rfl, rfl⟩
    refine Gx.eff rfl rfl rfl (eff_buildSlice rfl (qs := [(0, ptr b5 0)]) rfl rfl (cs := #[ptr b5 0]) (vs := [ptr b5 0]) (E := 44) rfl (fun w => by first | (go_simp; done) | (go_simp; rfl))) ?_
    rintro _ _ ⟨b6, rfl, rfl⟩
    refine Gx.eff rfl rfl rfl (eff_push (r := b5) rfl Try.eP FP_len FP_one rfl rfl (k := 0) rfl rfl (k' := 3) rfl (by rw [List.length_map]; omega) (by rw [List.length_map]; omega)) ?_
    rintro v7 _ ⟨hiv7, rfl⟩
    refine Gx.norm (l' := [Hp.rec_ b5 [.int .i64 0, .map (some b4), .slice none 0 0], Hp.map Try.prog 3 natL vB b4 ([]), Hp.big procH pms, Hp.own FP 1 v7 ((pms.map Pm.b) ++ [b5]), Hp.rec_ b2 [pv, .int .i64 0], Hp.rec_ b1 [.slice none 0 0, .slice none 0 0]]) rfl ?_
    refine Gx.val rfl rfl rfl (val_nilCheck rfl rfl) ?_
    refine Gx.val rfl rfl rfl (Val.cast (val_fieldAddr rfl Try.underlying43 rfl Try.ty41 rfl rfl) (v' := ptr b2 0) rfl) ?_
    refine Gx.eff0 rfl rfl (eff_store rfl Try.ty41 rfl rfl (us := [v7]) hiv7.cellsL rfl hiv7.all (k := 4) rfl (rfl) (vs' := [v7, .int .i64 0]) (rfl) (l' := [Hp.rec_ b5 [.int .i64 0, .map (some b4), .slice none 0 0], Hp.map Try.prog 3 natL vB b4 ([]), Hp.big procH pms, Hp.own FP 1 v7 ((pms.map Pm.b) ++ [b5]), Hp.rec_ b2 [v7, .int .i64 0], Hp.rec_ b1 [.slice none 0 0, .slice none 0 0]]) rfl) ?_
    rintro _ _ rfl
    refine Gx.done ?_
    refine Gx.blkN ?_
    refine Gx.thenN ?_
    refine Gx.ownNil FN 1 ?_
    refine Gx.front 0 rfl ?_
    refine Gx.front 2 rfl ?_
    refine Gx.front 2 rfl ?_
    refine Gx.front 3 rfl ?_
    refine Gx.sepEq (l' := [Hp.big procH (pms ++ [(⟨b5, b4, .slice none 0 0, [], (⟨0, fun _ => none, []⟩ : Pt)⟩ : Pm)]), Hp.own FP 1 v7 ((pms.map Pm.b) ++ [b5]), Hp.rec_ b2 [v7, .int .i64 0], Hp.rec_ b1 [.slice none 0 0, .slice none 0 0]]) (by show Hp.big procH pms * (Hp.rec_ b5 [.int .i64 0, .map (some b4), .slice none 0 0] * (Hp.map Try.prog 3 natL vB b4 ([]) * (Hp.own FN 1 (.slice none 0 0) ([]) * _))) = Hp.big procH (pms ++ [(⟨b5, b4, .slice none 0 0, [], (⟨0, fun _ => none, []⟩ : Pt)⟩ : Pm)]) * _; rw [Hp.big_append]; show _ = (_ * ((Hp.rec_ b5 [.int .i64 0, .map (some b4), .slice none 0 0] * (Hp.map Try.prog 3 natL vB b4 ([]) * (1 * Hp.own FN 1 (.slice none 0 0) ([])))) * 1)) * _; rw [Hp.mul_one, Hp.one_mul]; simp only [Hp.mul_assoc]; rfl) ?_
    refine Gx.norm (l' := [Hp.big procH (pms ++ [(⟨b5, b4, .slice none 0 0, [], (⟨0, fun _ => none, []⟩ : Pt)⟩ : Pm)]), Hp.own FP 1 v7 ((pms ++ [(⟨b5, b4, .slice none 0 0, [], (⟨0, fun _ => none, []⟩ : Pt)⟩ : Pm)]).map Pm.b), Hp.rec_ b2 [v7, .int .i64 0], Hp.rec_ b1 [.slice none 0 0, .slice none 0 0]]) (by rw [List.map_append] <;> rfl) ?_
    refine Gx.region ?_
    refine Gx.val rfl rfl rfl (val_add rfl rfl rfl (r := ((k + 1 : Nat) : Int)) (w64 (by omega) (by omega))) ?_
    refine Gx.val rfl rfl rfl (val_move rfl rfl) ?_
    refine Gx.done ?_
    refine Gx.thenN ?_
    skip
    exact Gx.round (k + 1, v7, (pms ++ [(⟨b5, b4, .slice none 0 0, [], (⟨0, fun _ => none, []⟩ : Pt)⟩ : Pm)])) ⟨by first | omega | (dsimp only; omega), by rw [List.map_append, hpm, List.replicate_succ']; rfl, hiv7, by simp; omega, fun m hm => by rcases List.mem_append.1 hm with h | h; exact hpok m h; rw [List.mem_singleton] at h; subst h; exact ⟨Nat.le_refl _, List.Pairwise.nil, fun _ => rfl, fun p hp => by cases hp⟩⟩ (by first | omega | (dsimp only; omega)) ((.cons rfl (.cons rfl (.cons rfl (.cons rfl (.cons rfl .nil)))))) rfl
  · refine Gx.exit ?_
    refine Gx.thenE ?_
    refine Gx.thenE ?_
    refine Gx.blkE ?_
    refine Gx.thenN ?_
    refine Gx.seq ?_
    obtain rfl : n = k := by omega
    refine Gx.front 0 rfl ?_
    refine Gx.front 1 rfl ?_
    refine Gx.front 2 rfl ?_
    refine Gx.sat (l' := [worldH b2 0 (ts0 n), Hp.rec_ b1 [.slice none 0 0, .slice none 0 0]]) (fun w H => ?_) ?_
    · exact (worldH.shut (S := b2) (L := 0) (s := ts0 n) (pv := pv) (pms := pms) (R := sep [Hp.rec_ b1 [.slice none 0 0, .slice none 0 0]]) ⟨hpm, hpok⟩ (H.cast (by rw [sep3R]; rfl))).cast (by rw [sep1]; rfl)
    refine Gx.region ?_
    refine Gx.eff rfl rfl rfl (eff_alloc rfl Try.ty26 (vs := [.slice none 0 0, .slice none 0 0]) rfl) ?_
    rintro _ _ ⟨b8, rfl, rfl⟩
    refine Gx.done ?_
    refine Gx.thenN ?_
    refine Gx.seq ?_
    refine Gx.seq ?_
    refine Gx.ownNil FZ 1 ?_
    refine Gx.region ?_
    refine Gx.val rfl rfl rfl (val_move rfl rfl) ?_
    refine Gx.val rfl rfl rfl (val_len rfl Try.underlying22 rfl (len_base hs)) ?_
    refine Gx.val rfl rfl rfl (val_move rfl rfl) ?_
    refine Gx.done ?_
    refine Gx.thenN ?_
    refine Gx.block ?_
    refine Gx.front 2 rfl ?_
    refine Gx.front 3 rfl ?_
    refine Gx.front 3 rfl ?_
    refine Gx.front 3 rfl ?_
    refine Gx.loop (ι := Nat × Value) (fun ξ => (ξ.1 ≤ cs.length) ∧ (IsS ξ.2)) (fun ξ => [(4, ptr b1 0), (6, ptr b2 0), (7, ptr b8 0), (42, sv), (43, .int .i64 ((cs.length : Nat) : Int)), (44, .int .i64 ((ξ.1 : Nat) : Int))]) (fun ξ => [Hp.own FZ 1 ξ.2 (codesT (ts0 n) (cs.take ξ.1)), Hp.rec_ b8 [ξ.2, .slice none 0 0], Hp.rec_ b1 [.slice none 0 0, .slice none 0 0], worldH b2 ξ.1 (stT (ts0 n) (cs.take ξ.1))]) (fun ξ => cs.length - ξ.1) (0, (.slice none 0 0)) ⟨by first | omega | (dsimp only; omega), ⟨none, 0, 0, rfl⟩⟩ ((.cons rfl (.cons rfl (.cons rfl (.cons rfl (.cons rfl (.cons rfl .nil))))))) rfl ?_
    rintro ⟨i, cv⟩ ⟨hi, hicv⟩
    dsimp only at hi hicv
    refine Gx.know (m' := [(4, ptr b1 0), (6, ptr b2 0), (7, ptr b8 0), (42, sv), (43, .int .i64 ((cs.length : Nat) : Int)), (44, .int .i64 ((i : Nat) : Int))]) (.cons rfl (.cons rfl (.cons rfl (.cons rfl (.cons rfl (.cons rfl .nil)))))) (Gx.norm (l' := [Hp.own FZ 1 cv (codesT (ts0 n) (cs.take i)), Hp.rec_ b8 [cv, .slice none 0 0], Hp.rec_ b1 [.slice none 0 0, .slice none 0 0], worldH b2 i (stT (ts0 n) (cs.take i))]) rfl ?_)
    have bd : InvT 120 (stT (ts0 n) (cs.take i)) := ((InvT.zero n).run (cs.take i) (by simp [ts0]; omega)).mono (by rw [List.length_take]; omega)
    have hsl : (stT (ts0 n) (cs.take i)).ps.length = n := by rw [stT_plen]; simp [ts0]
    have hci : (codesT (ts0 n) (cs.take i)).length = i := by rw [codesT_len, List.length_take]; omega
    refine Gx.seq ?_
    refine Gx.region ?_
    refine Gx.val rfl rfl rfl (val_lss rfl rfl rfl) ?_
    refine Gx.done ?_
    refine Gx.thenN ?_
    refine Gx.seq ?_
    refine Gx.dec rfl (fun h9 => ?_) (fun h9 => ?_)
    · refine Gx.skip ?_
      refine Gx.thenN ?_
      refine Gx.seq ?_
      refine Gx.block ?_
      refine Gx.seq ?_
      refine Gx.region ?_
      obtain ⟨x10, hx10⟩ := get_of_lt (xs := cs) (k := i) (by first | omega | (simp; omega))
      refine Gx.val rfl rfl rfl (val_ixa rfl Try.underlying22 Try.ty36 rfl rfl (j := i) (rfl) (reach_base hs hx10)) ?_
      refine Gx.val rfl rfl rfl (Val.cast (val_loadA rfl Try.ty36 rfl rfl rfl (cells_base hs hx10)) (v' := .agg #[.int .i64 x10.kind, .int .i64 x10.who, .int .i64 x10.msg]) rfl) ?_
      refine Gx.eff rfl rfl rfl (eff_alloc rfl Try.ty36 (vs := [.int .i64 0, .int .i64 0, .int .i64 0]) rfl) ?_
      rintro _ _ ⟨b11, rfl, rfl⟩
      refine Gx.eff0 rfl rfl (eff_store rfl Try.ty36 rfl rfl (us := [.int .i64 x10.kind, .int .i64 x10.who, .int .i64 x10.msg]) rfl rfl rfl (k := 0) rfl (rfl) (vs' := [.int .i64 x10.kind, .int .i64 x10.who, .int .i64 x10.msg]) (rfl) (l' := [Hp.rec_ b11 [.int .i64 x10.kind, .int .i64 x10.who, .int .i64 x10.msg], Hp.own FZ 1 cv (codesT (ts0 n) (cs.take i)), Hp.rec_ b8 [cv, .slice none 0 0], Hp.rec_ b1 [.slice none 0 0, .slice none 0 0], worldH b2 i (stT (ts0 n) (cs.take i))]) rfl) ?_
      rintro _ _ rfl
      refine Gx.done ?_
      refine Gx.thenN ?_
      refine Gx.regionO (fun j => j == 4 || j == 5 || j == 6) 8 [0, 1, 2, 3, 4, 5, 6, 7] (fun us => match us with | [] => [Hp.rec_ b11 [.int .i64 x10.kind, .int .i64 x10.who, .int .i64 x10.msg], Hp.own FZ 1 cv (codesT (ts0 n) (cs.take i)), Hp.rec_ b8 [cv, .slice none 0 0], Hp.rec_ b1 [.slice none 0 0, .slice none 0 0], worldH b2 i (stT (ts0 n) (cs.take i))] | [u1] => [worldH b2 (i + 1) ((stepT (stT (ts0 n) (cs.take i)) x10).2), Hp.rec_ b11 [.int .i64 x10.kind, .int .i64 x10.who, .int .i64 x10.msg], Hp.own FZ 1 cv (codesT (ts0 n) (cs.take i)), Hp.rec_ b8 [cv, .slice none 0 0], Hp.rec_ b1 [.slice none 0 0, .slice none 0 0]] | [u1, u2] => [Hp.rec_ (sB u2) [.int .i64 ((stepT (stT (ts0 n) (cs.take i)) x10).1)], worldH b2 (i + 1) ((stepT (stT (ts0 n) (cs.take i)) x10).2), Hp.rec_ b11 [.int .i64 x10.kind, .int .i64 x10.who, .int .i64 x10.msg], Hp.own FZ 1 cv (codesT (ts0 n) (cs.take i)), Hp.rec_ b8 [cv, .slice none 0 0], Hp.rec_ b1 [.slice none 0 0, .slice none 0 0]] | u1 :: u2 :: u3 :: _ => [worldH b2 (i + 1) ((stepT (stT (ts0 n) (cs.take i)) x10).2), Hp.rec_ b11 [.int .i64 x10.kind, .int .i64 x10.who, .int .i64 x10.msg], Hp.own FZ 1 u3 ((codesT (ts0 n) (cs.take i)) ++ [(stepT (stT (ts0 n) (cs.take i)) x10).1]), Hp.rec_ b8 [cv, .slice none 0 0], Hp.rec_ b1 [.slice none 0 0, .slice none 0 0]]) Try.mixed (by kernel_rfl) rfl ?_
      refine Gw.val rfl rfl rfl rfl rfl (fun us => Val.cast (val_fieldAddr rfl Try.underlying26 rfl Try.ty23 rfl rfl) (v' := ptr b8 0) rfl) ?_
      refine Gw.val rfl rfl rfl rfl rfl (fun us => match us with | [] => val_load rfl Try.ty23 rfl rfl (cell_rec (k := 2) rfl rfl) | [u1] => val_load rfl Try.ty23 rfl rfl (cell_rec (k := 3) rfl rfl) | [u1, u2] => val_load rfl Try.ty23 rfl rfl (cell_rec (k := 4) rfl rfl) | u1 :: u2 :: u3 :: _ => val_load rfl Try.ty23 rfl rfl (cell_rec (k := 3) rfl rfl)) ?_
      refine Gw.val rfl rfl rfl rfl rfl (fun us => val_move rfl rfl) ?_
      refine Gw.val rfl rfl rfl rfl rfl (fun us => match us with | [] => Val.cast (val_loadA rfl Try.ty36 rfl rfl rfl (cells_rec (k := 0) rfl)) (v' := .agg #[.int .i64 x10.kind, .int .i64 x10.who, .int .i64 x10.msg]) rfl | [u1] => Val.cast (val_loadA rfl Try.ty36 rfl rfl rfl (cells_rec (k := 1) rfl)) (v' := .agg #[.int .i64 x10.kind, .int .i64 x10.who, .int .i64 x10.msg]) rfl | [u1, u2] => Val.cast (val_loadA rfl Try.ty36 rfl rfl rfl (cells_rec (k := 2) rfl)) (v' := .agg #[.int .i64 x10.kind, .int .i64 x10.who, .int .i64 x10.msg]) rfl | u1 :: u2 :: u3 :: _ => Val.cast (val_loadA rfl Try.ty36 rfl rfl rfl (cells_rec (k := 1) rfl)) (v' := .agg #[.int .i64 x10.kind, .int .i64 x10.who, .int .i64 x10.msg]) rfl) ?_
      refine Gw.chg rfl rfl rfl rfl rfl (fun v => v = .int .i64 ((stepT (stT (ts0 n) (cs.take i)) x10).1)) (eff_call (vs := [ptr b2 0, .agg #[.int .i64 x10.kind, .int .i64 x10.who, .int .i64 x10.msg]]) rfl Try.fn14 rfl (fun w H => step_any (c := x10) (by omega) (by omega) (bd.hyp (by decide) x10).1 (bd.hyp (by decide) x10).2.1 (bd.hyp (by decide) x10).2.2 (H.at_ (k := 4) rfl))) ?_
      rintro _ rfl
      refine Gw.chg rfl rfl rfl rfl rfl (fun v => ∃ b13, v = .slice (some ⟨b13, 0, none⟩) 1 1) (Eff.mono (eff_buildSlice rfl (qs := [(0, .int .i64 ((stepT (stT (ts0 n) (cs.take i)) x10).1))]) rfl rfl (cs := #[.int .i64 ((stepT (stT (ts0 n) (cs.take i)) x10).1)]) (vs := [.int .i64 ((stepT (stT (ts0 n) (cs.take i)) x10).1)]) (E := 27) rfl (fun w => by first | (go_simp; done) | (go_simp; rfl))) (by rintro _ _ ⟨b13, rfl, rfl⟩; exact ⟨⟨b13, rfl⟩, rfl⟩)) ?_
      rintro _ ⟨b13, rfl⟩
      refine Gw.chg rfl rfl rfl rfl rfl IsS (Eff.mono (eff_push (r := (stepT (stT (ts0 n) (cs.take i)) x10).1) rfl Try.eZ FZ_len FZ_one rfl rfl (k := 0) rfl rfl (k' := 2) rfl (by rw [hci]; omega) (by rw [hci]; omega)) (fun _ _ h => ⟨h.1, congrArg sep h.2⟩)) ?_
      intro v14 hiv14
      refine Gw.val rfl rfl rfl rfl rfl (fun us => Val.cast (val_fieldAddr rfl Try.underlying26 rfl Try.ty23 rfl rfl) (v' := ptr b8 0) rfl) ?_
      refine Gw.done ?_
      refine Gx.norm (l' := [worldH b2 (i + 1) ((stepT (stT (ts0 n) (cs.take i)) x10).2), Hp.rec_ b11 [.int .i64 x10.kind, .int .i64 x10.who, .int .i64 x10.msg], Hp.own FZ 1 v14 ((codesT (ts0 n) (cs.take i)) ++ [(stepT (stT (ts0 n) (cs.take i)) x10).1]), Hp.rec_ b8 [cv, .slice none 0 0], Hp.rec_ b1 [.slice none 0 0, .slice none 0 0]]) rfl ?_
      refine Gx.eff0 rfl rfl (eff_store rfl Try.ty23 rfl rfl (us := [v14]) hiv14.cellsL rfl hiv14.all (k := 3) rfl (rfl) (vs' := [v14, .slice none 0 0]) (rfl) (l' := [worldH b2 (i + 1) ((stepT (stT (ts0 n) (cs.take i)) x10).2), Hp.rec_ b11 [.int .i64 x10.kind, .int .i64 x10.who, .int .i64 x10.msg], Hp.own FZ 1 v14 ((codesT (ts0 n) (cs.take i)) ++ [(stepT (stT (ts0 n) (cs.take i)) x10).1]), Hp.rec_ b8 [v14, .slice none 0 0], Hp.rec_ b1 [.slice none 0 0, .slice none 0 0]]) rfl) ?_
      rintro _ _ rfl
      refine Gx.done ?_
      refine Gx.blkN ?_
      refine Gx.thenN ?_
      refine Gx.region ?_
      refine Gx.val rfl rfl rfl (val_add rfl rfl rfl (r := ((i + 1 : Nat) : Int)) (w64 (by omega) (by omega))) ?_
      refine Gx.val rfl rfl rfl (val_move rfl rfl) ?_
      refine Gx.done ?_
      refine Gx.thenN ?_
      refine Gx.drop 1 rfl ?_
      refine Gx.front 0 rfl ?_
      refine Gx.front 3 rfl ?_
      refine Gx.front 3 rfl ?_
      refine Gx.front 3 rfl ?_
      refine Gx.norm (l' := [Hp.own FZ 1 v14 (codesT (ts0 n) (cs.take (i + 1))), Hp.rec_ b8 [v14, .slice none 0 0], Hp.rec_ b1 [.slice none 0 0, .slice none 0 0], worldH b2 (i + 1) (stT (ts0 n) (cs.take (i + 1)))]) (by rw [stT_snoc hx10, codesT_snoc hx10] <;> rfl) ?_
      exact Gx.round (i + 1, v14) ⟨by first | omega | (dsimp only; omega), hiv14⟩ (by first | omega | (dsimp only; omega)) ((.cons rfl (.cons rfl (.cons rfl (.cons rfl (.cons rfl (.cons rfl .nil))))))) rfl
    · refine Gx.exit ?_
      refine Gx.thenE ?_
      refine Gx.thenE ?_
      refine Gx.blkE ?_
      refine Gx.thenN ?_
      refine Gx.seq ?_
      refine Gx.seq ?_
      have ei : i = cs.length := by omega
      subst ei
      rw [List.take_length] at bd hci hsl
      refine Gx.norm (l' := [Hp.own FZ 1 cv (codesT (ts0 n) cs), Hp.rec_ b8 [cv, .slice none 0 0], Hp.rec_ b1 [.slice none 0 0, .slice none 0 0], worldH b2 cs.length (stT (ts0 n) cs)]) (by rw [List.take_length] <;> rfl) ?_
      obtain ⟨s, hsd⟩ : ∃ s, s = stT (ts0 n) cs := ⟨_, rfl⟩
      rw [← hsd] at bd hsl
      refine Gx.norm (l' := [Hp.own FZ 1 cv (codesT (ts0 n) cs), Hp.rec_ b8 [cv, .slice none 0 0], Hp.rec_ b1 [.slice none 0 0, .slice none 0 0], worldH b2 cs.length s]) (by rw [hsd] <;> rfl) ?_
      refine Gx.front 3 rfl ?_
      refine Gx.exists_ (α := {q : Value × List Pm // WOk cs.length q.2 s}) (l' := fun q => [Hp.rec_ b2 [q.1.1, .int .i64 ((s.many : Nat) : Int)], Hp.own FP 1 q.1.1 (q.1.2.map Pm.b), Hp.big procH q.1.2, Hp.own FZ 1 cv (codesT (ts0 n) cs), Hp.rec_ b8 [cv, .slice none 0 0], Hp.rec_ b1 [.slice none 0 0, .slice none 0 0]]) (fun w H => ?_) ?_
      · obtain ⟨pv, pms, h1, H⟩ := worldH.open_ (R := sep [Hp.own FZ 1 cv (codesT (ts0 n) cs), Hp.rec_ b8 [cv, .slice none 0 0], Hp.rec_ b1 [.slice none 0 0, .slice none 0 0]]) H
        exact ⟨⟨(pv, pms), h1⟩, H.cast (by rw [sep3R]; rfl)⟩
      rintro ⟨⟨pv, pms⟩, hok⟩
      dsimp only at hok
      refine Gx.norm (l' := [Hp.rec_ b2 [pv, .int .i64 ((s.many : Nat) : Int)], Hp.own FP 1 pv (pms.map Pm.b), Hp.big procH pms, Hp.own FZ 1 cv (codesT (ts0 n) cs), Hp.rec_ b8 [cv, .slice none 0 0], Hp.rec_ b1 [.slice none 0 0, .slice none 0 0]]) rfl ?_
      have hpl : pms.length = n := by rw [← hsl, ← hok.ps, List.length_map]
      have hbl : (pms.map Pm.b).length = n := by rw [List.length_map, hpl]
      obtain ⟨sa15, sn16, sc17, rfl⟩ := hicv
      refine Gx.ownNil FV 1 ?_
      refine Gx.region ?_
      refine Gx.val rfl rfl rfl (val_move rfl rfl) ?_
      refine Gx.val rfl rfl rfl (val_nilCheck rfl rfl) ?_
      refine Gx.val rfl rfl rfl (Val.cast (val_fieldAddr rfl Try.underlying43 rfl Try.ty41 rfl rfl) (v' := ptr b2 0) rfl) ?_
      refine Gx.val rfl rfl rfl (val_load rfl Try.ty41 rfl rfl (cell_rec (k := 1) rfl rfl)) ?_
      refine Gx.val rfl rfl rfl (val_len rfl Try.underlying41 rfl (len_own (k := 2) rfl)) ?_
      refine Gx.val rfl rfl rfl (val_move rfl rfl) ?_
      refine Gx.done ?_
      refine Gx.thenN ?_
      refine Gx.block ?_
      refine Gx.front 6 rfl ?_
      refine Gx.front 5 rfl ?_
      refine Gx.front 5 rfl ?_
      refine Gx.front 5 rfl ?_
      refine Gx.front 5 rfl ?_
      refine Gx.front 6 rfl ?_
      refine Gx.front 6 rfl ?_
      refine Gx.loop (ι := Nat × Value × (List Sv)) (fun ξ => (ξ.1 ≤ n) ∧ (IsS ξ.2.1) ∧ (ξ.2.2.length = ξ.1) ∧ (VOk pms ξ.2.2)) (fun ξ => [(4, ptr b1 0), (6, ptr b2 0), (7, ptr b8 0), (60, pv), (61, .int .i64 (((pms.map Pm.b).length : Nat) : Int)), (62, .int .i64 ((ξ.1 : Nat) : Int))]) (fun ξ => [Hp.own FV 1 ξ.2.1 ξ.2.2, Hp.rec_ b8 [.slice sa15 sn16 sc17, ξ.2.1], Hp.rec_ b2 [pv, .int .i64 ((s.many : Nat) : Int)], Hp.own FP 1 pv (pms.map Pm.b), Hp.big procH pms, Hp.own FZ 1 (.slice sa15 sn16 sc17) (codesT (ts0 n) cs), Hp.rec_ b1 [.slice none 0 0, .slice none 0 0]]) (fun ξ => n - ξ.1) (0, (.slice none 0 0), []) ⟨by first | omega | (dsimp only; omega), ⟨none, 0, 0, rfl⟩, rfl, fun k v h => by simp at h⟩ ((.cons rfl (.cons rfl (.cons rfl (.cons rfl (.cons rfl (.cons rfl .nil))))))) rfl ?_
      rintro ⟨j, dv, vals⟩ ⟨hj, hidv, hvl, hvo⟩
      dsimp only at hj hidv hvl hvo
      refine Gx.know (m' := [(4, ptr b1 0), (6, ptr b2 0), (7, ptr b8 0), (60, pv), (61, .int .i64 (((pms.map Pm.b).length : Nat) : Int)), (62, .int .i64 ((j : Nat) : Int))]) (.cons rfl (.cons rfl (.cons rfl (.cons rfl (.cons rfl (.cons rfl .nil)))))) (Gx.norm (l' := [Hp.own FV 1 dv vals, Hp.rec_ b8 [.slice sa15 sn16 sc17, dv], Hp.rec_ b2 [pv, .int .i64 ((s.many : Nat) : Int)], Hp.own FP 1 pv (pms.map Pm.b), Hp.big procH pms, Hp.own FZ 1 (.slice sa15 sn16 sc17) (codesT (ts0 n) cs), Hp.rec_ b1 [.slice none 0 0, .slice none 0 0]]) rfl ?_)
      refine Gx.seq ?_
      refine Gx.region ?_
      refine Gx.val rfl rfl rfl (val_lss rfl rfl rfl) ?_
      refine Gx.done ?_
      refine Gx.thenN ?_
      refine Gx.seq ?_
      refine Gx.dec rfl (fun h18 => ?_) (fun h18 => ?_)
      · refine Gx.skip ?_
        refine Gx.thenN ?_
        refine Gx.seq ?_
        refine Gx.block ?_
        refine Gx.seq ?_
        obtain ⟨m, hmj⟩ := get_of_lt (xs := pms) (k := j) (by omega)
        have hbj : (pms.map Pm.b)[j]? = some m.b := by rw [List.getElem?_map, hmj]; rfl
        refine Gx.region ?_
        refine Gx.val rfl rfl rfl (val_ixa rfl Try.underlying41 Try.ty44 rfl rfl (j := j) (rfl) (reach_own (k := 3) rfl hbj)) ?_
        refine Gx.val rfl rfl rfl (val_load rfl Try.ty44 rfl rfl (cell_own (i := 0) (k := 3) rfl hbj rfl)) ?_
        refine Gx.val rfl rfl rfl (val_assign rfl rfl) ?_
        refine Gx.done ?_
        refine Gx.thenN ?_
        refine Gx.focus (n := 4) (k := j) rfl hmj (fun R19 hf20 hg21 => ?_)
        refine Gx.norm (l' := [Hp.own FV 1 dv vals, Hp.rec_ b8 [.slice sa15 sn16 sc17, dv], Hp.rec_ b2 [pv, .int .i64 ((s.many : Nat) : Int)], Hp.own FP 1 pv (pms.map Pm.b), procH m, Hp.own FZ 1 (.slice sa15 sn16 sc17) (codesT (ts0 n) cs), Hp.rec_ b1 [.slice none 0 0, .slice none 0 0], R19]) rfl ?_
        refine Gx.cleave 4 (p := Hp.rec_ m.b [.int .i64 ((m.p.n : Nat) : Int), .map (some m.mb), m.v]) (q := Hp.map Try.prog 3 natL vB m.mb m.ks * (Hp.big entH m.ks * Hp.own FN 1 m.v m.p.lst)) rfl rfl rfl ?_
        refine Gx.cleave 1 (p := Hp.map Try.prog 3 natL vB m.mb m.ks) (q := Hp.big entH m.ks * Hp.own FN 1 m.v m.p.lst) rfl rfl rfl ?_
        refine Gx.cleave 1 (p := Hp.big entH m.ks) (q := Hp.own FN 1 m.v m.p.lst) rfl rfl rfl ?_
        refine Gx.norm (l' := [Hp.big entH m.ks, Hp.own FN 1 m.v m.p.lst, Hp.map Try.prog 3 natL vB m.mb m.ks, Hp.rec_ m.b [.int .i64 ((m.p.n : Nat) : Int), .map (some m.mb), m.v], Hp.own FV 1 dv vals, Hp.rec_ b8 [.slice sa15 sn16 sc17, dv], Hp.rec_ b2 [pv, .int .i64 ((s.many : Nat) : Int)], Hp.own FP 1 pv (pms.map Pm.b), Hp.own FZ 1 (.slice sa15 sn16 sc17) (codesT (ts0 n) cs), Hp.rec_ b1 [.slice none 0 0, .slice none 0 0], R19]) rfl ?_
        refine Gx.fact (p := IsS m.v) (fun w H => isS_own (H.at_ (k := 1) rfl)) (fun hmv => ?_)
        obtain ⟨sa9, sn9, sc9, hsv⟩ := hmv
        refine Gx.norm (l' := [Hp.big entH m.ks, Hp.own FN 1 (.slice sa9 sn9 sc9) m.p.lst, Hp.map Try.prog 3 natL vB m.mb m.ks, Hp.rec_ m.b [.int .i64 ((m.p.n : Nat) : Int), .map (some m.mb), .slice sa9 sn9 sc9], Hp.own FV 1 dv vals, Hp.rec_ b8 [.slice sa15 sn16 sc17, dv], Hp.rec_ b2 [pv, .int .i64 ((s.many : Nat) : Int)], Hp.own FP 1 pv (pms.map Pm.b), Hp.own FZ 1 (.slice sa15 sn16 sc17) (codesT (ts0 n) cs), Hp.rec_ b1 [.slice none 0 0, .slice none 0 0], R19]) (by rw [hsv] <;> rfl) ?_
        refine Gx.regionO (fun j => j == 6 || j == 7) 9 [0, 1, 2, 3, 4, 5, 6, 7, 8] (fun us => match us with | [] => [Hp.big entH m.ks, Hp.own FN 1 (.slice sa9 sn9 sc9) m.p.lst, Hp.map Try.prog 3 natL vB m.mb m.ks, Hp.rec_ m.b [.int .i64 ((m.p.n : Nat) : Int), .map (some m.mb), .slice sa9 sn9 sc9], Hp.own FV 1 dv vals, Hp.rec_ b8 [.slice sa15 sn16 sc17, dv], Hp.rec_ b2 [pv, .int .i64 ((s.many : Nat) : Int)], Hp.own FP 1 pv (pms.map Pm.b), Hp.own FZ 1 (.slice sa15 sn16 sc17) (codesT (ts0 n) cs), Hp.rec_ b1 [.slice none 0 0, .slice none 0 0], R19] | [u1] => [Hp.rec_ (sB u1) [.slice sa9 sn9 sc9], Hp.big entH m.ks, Hp.own FN 1 (.slice sa9 sn9 sc9) m.p.lst, Hp.map Try.prog 3 natL vB m.mb m.ks, Hp.rec_ m.b [.int .i64 ((m.p.n : Nat) : Int), .map (some m.mb), .slice sa9 sn9 sc9], Hp.own FV 1 dv vals, Hp.rec_ b8 [.slice sa15 sn16 sc17, dv], Hp.rec_ b2 [pv, .int .i64 ((s.many : Nat) : Int)], Hp.own FP 1 pv (pms.map Pm.b), Hp.own FZ 1 (.slice sa15 sn16 sc17) (codesT (ts0 n) cs), Hp.rec_ b1 [.slice none 0 0, .slice none 0 0], R19] | u1 :: u2 :: _ => [Hp.big entH m.ks, Hp.own FN 1 (.slice sa9 sn9 sc9) m.p.lst, Hp.map Try.prog 3 natL vB m.mb m.ks, Hp.rec_ m.b [.int .i64 ((m.p.n : Nat) : Int), .map (some m.mb), .slice sa9 sn9 sc9], Hp.own FV 1 u2 (vals ++ [(⟨sa9, sn9, sc9⟩ : Sv)]), Hp.rec_ b8 [.slice sa15 sn16 sc17, dv], Hp.rec_ b2 [pv, .int .i64 ((s.many : Nat) : Int)], Hp.own FP 1 pv (pms.map Pm.b), Hp.own FZ 1 (.slice sa15 sn16 sc17) (codesT (ts0 n) cs), Hp.rec_ b1 [.slice none 0 0, .slice none 0 0], R19]) Try.mixed (by kernel_rfl) rfl ?_
        refine Gw.val rfl rfl rfl rfl rfl (fun us => Val.cast (val_fieldAddr rfl Try.underlying26 rfl Try.ty24 rfl rfl) (v' := ptr b8 1) rfl) ?_
        refine Gw.val rfl rfl rfl rfl rfl (fun us => match us with | [] => val_load rfl Try.ty24 rfl rfl (cell_rec (k := 5) rfl rfl) | [u1] => val_load rfl Try.ty24 rfl rfl (cell_rec (k := 6) rfl rfl) | u1 :: u2 :: _ => val_load rfl Try.ty24 rfl rfl (cell_rec (k := 5) rfl rfl)) ?_
        refine Gw.val rfl rfl rfl rfl rfl (fun us => val_move rfl rfl) ?_
        refine Gw.val rfl rfl rfl rfl rfl (fun us => val_nilCheck rfl rfl) ?_
        refine Gw.val rfl rfl rfl rfl rfl (fun us => Val.cast (val_fieldAddr rfl Try.underlying47 rfl Try.ty30 rfl rfl) (v' := ptr m.b 2) rfl) ?_
        refine Gw.val rfl rfl rfl rfl rfl (fun us => match us with | [] => val_load rfl Try.ty30 rfl rfl (cell_rec (k := 3) rfl rfl) | [u1] => val_load rfl Try.ty30 rfl rfl (cell_rec (k := 4) rfl rfl) | u1 :: u2 :: _ => val_load rfl Try.ty30 rfl rfl (cell_rec (k := 3) rfl rfl)) ?_
        refine Gw.chg rfl rfl rfl rfl rfl (fun v => ∃ b22, v = .slice (some ⟨b22, 0, none⟩) 1 1) (Eff.mono (eff_buildSlice rfl (qs := [(0, .slice sa9 sn9 sc9)]) rfl rfl (cs := #[.slice sa9 sn9 sc9]) (vs := [.slice sa9 sn9 sc9]) (E := 30) rfl (fun w => by first | (go_simp; done) | (go_simp; rfl))) (by rintro _ _ ⟨b22, rfl, rfl⟩; exact ⟨⟨b22, rfl⟩, rfl⟩)) ?_
        rintro _ ⟨b22, rfl⟩
        refine Gw.chg rfl rfl rfl rfl rfl IsS (Eff.mono (eff_push (r := (⟨sa9, sn9, sc9⟩ : Sv)) rfl Try.eV FV_len FV_one rfl rfl (k := 0) rfl rfl (k' := 4) rfl (by omega) (by omega)) (fun _ _ h => ⟨h.1, congrArg sep h.2⟩)) ?_
        intro v23 hiv23
        refine Gw.val rfl rfl rfl rfl rfl (fun us => Val.cast (val_fieldAddr rfl Try.underlying26 rfl Try.ty24 rfl rfl) (v' := ptr b8 1) rfl) ?_
        refine Gw.done ?_
        refine Gx.norm (l' := [Hp.big entH m.ks, Hp.own FN 1 (.slice sa9 sn9 sc9) m.p.lst, Hp.map Try.prog 3 natL vB m.mb m.ks, Hp.rec_ m.b [.int .i64 ((m.p.n : Nat) : Int), .map (some m.mb), .slice sa9 sn9 sc9], Hp.own FV 1 v23 (vals ++ [(⟨sa9, sn9, sc9⟩ : Sv)]), Hp.rec_ b8 [.slice sa15 sn16 sc17, dv], Hp.rec_ b2 [pv, .int .i64 ((s.many : Nat) : Int)], Hp.own FP 1 pv (pms.map Pm.b), Hp.own FZ 1 (.slice sa15 sn16 sc17) (codesT (ts0 n) cs), Hp.rec_ b1 [.slice none 0 0, .slice none 0 0], R19]) rfl ?_
        refine Gx.eff0 rfl rfl (eff_store rfl Try.ty24 rfl rfl (us := [v23]) hiv23.cellsL rfl hiv23.all (k := 5) rfl (rfl) (vs' := [.slice sa15 sn16 sc17, v23]) (rfl) (l' := [Hp.big entH m.ks, Hp.own FN 1 (.slice sa9 sn9 sc9) m.p.lst, Hp.map Try.prog 3 natL vB m.mb m.ks, Hp.rec_ m.b [.int .i64 ((m.p.n : Nat) : Int), .map (some m.mb), .slice sa9 sn9 sc9], Hp.own FV 1 v23 (vals ++ [(⟨sa9, sn9, sc9⟩ : Sv)]), Hp.rec_ b8 [.slice sa15 sn16 sc17, v23], Hp.rec_ b2 [pv, .int .i64 ((s.many : Nat) : Int)], Hp.own FP 1 pv (pms.map Pm.b), Hp.own FZ 1 (.slice sa15 sn16 sc17) (codesT (ts0 n) cs), Hp.rec_ b1 [.slice none 0 0, .slice none 0 0], R19]) rfl) ?_
        rintro _ _ rfl
        refine Gx.done ?_
        refine Gx.blkN ?_
        refine Gx.thenN ?_
        refine Gx.norm (l' := [Hp.big entH m.ks, Hp.own FN 1 m.v m.p.lst, Hp.map Try.prog 3 natL vB m.mb m.ks, Hp.rec_ m.b [.int .i64 ((m.p.n : Nat) : Int), .map (some m.mb), m.v], Hp.own FV 1 v23 (vals ++ [(⟨sa9, sn9, sc9⟩ : Sv)]), Hp.rec_ b8 [.slice sa15 sn16 sc17, v23], Hp.rec_ b2 [pv, .int .i64 ((s.many : Nat) : Int)], Hp.own FP 1 pv (pms.map Pm.b), Hp.own FZ 1 (.slice sa15 sn16 sc17) (codesT (ts0 n) cs), Hp.rec_ b1 [.slice none 0 0, .slice none 0 0], R19]) (by rw [hsv] <;> rfl) ?_
        refine Gx.front 10 rfl ?_
        refine Gx.front 2 rfl ?_
        refine Gx.front 2 rfl ?_
        refine Gx.front 3 rfl ?_
        refine Gx.front 4 rfl ?_
        refine Gx.sepEq (l' := [Hp.big procH pms, Hp.own FV 1 v23 (vals ++ [(⟨sa9, sn9, sc9⟩ : Sv)]), Hp.rec_ b8 [.slice sa15 sn16 sc17, v23], Hp.rec_ b2 [pv, .int .i64 ((s.many : Nat) : Int)], Hp.own FP 1 pv (pms.map Pm.b), Hp.own FZ 1 (.slice sa15 sn16 sc17) (codesT (ts0 n) cs), Hp.rec_ b1 [.slice none 0 0, .slice none 0 0]]) (by show Hp.rec_ m.b [.int .i64 ((m.p.n : Nat) : Int), .map (some m.mb), m.v] * (Hp.map Try.prog 3 natL vB m.mb m.ks * (Hp.big entH m.ks * (Hp.own FN 1 m.v m.p.lst * (R19 * _)))) = Hp.big procH pms * _; rw [hf20]; show _ = (Hp.rec_ m.b [.int .i64 ((m.p.n : Nat) : Int), .map (some m.mb), m.v] * (Hp.map Try.prog 3 natL vB m.mb m.ks * (Hp.big entH m.ks * Hp.own FN 1 m.v m.p.lst)) * R19) * _; simp only [Hp.mul_assoc] <;> rfl) ?_
        refine Gx.region ?_
        refine Gx.val rfl rfl rfl (val_add rfl rfl rfl (r := ((j + 1 : Nat) : Int)) (w64 (by omega) (by omega))) ?_
        refine Gx.val rfl rfl rfl (val_move rfl rfl) ?_
        refine Gx.done ?_
        refine Gx.thenN ?_
        refine Gx.front 6 rfl ?_
        refine Gx.front 6 rfl ?_
        refine Gx.front 2 rfl ?_
        refine Gx.front 6 rfl ?_
        refine Gx.front 6 rfl ?_
        refine Gx.front 6 rfl ?_
        refine Gx.front 6 rfl ?_
        exact Gx.round (j + 1, v23, (vals ++ [(⟨sa9, sn9, sc9⟩ : Sv)])) ⟨by first | omega | (dsimp only; omega), hiv23, by simp [hvl], hvo.snoc (by rw [hvl]; exact hmj) hsv⟩ (by first | omega | (dsimp only; omega)) ((.cons rfl (.cons rfl (.cons rfl (.cons rfl (.cons rfl (.cons rfl .nil))))))) rfl
      · refine Gx.exit ?_
        refine Gx.thenE ?_
        refine Gx.thenE ?_
        refine Gx.blkE ?_
        refine Gx.thenN ?_
        refine Gx.seq ?_
        obtain ⟨sa24, sn25, sc26, rfl⟩ := hidv
        refine Gx.region ?_
        refine Gx.val rfl rfl rfl (Val.cast (val_loadA rfl Try.ty26 rfl rfl rfl (cells_rec (k := 1) rfl)) (v' := .agg #[.slice sa15 sn16 sc17, .slice sa24 sn25 sc26]) rfl) ?_
        refine Gx.eff0 rfl rfl (eff_store rfl Try.ty26 rfl rfl (us := [.slice sa15 sn16 sc17, .slice sa24 sn25 sc26]) rfl rfl rfl (k := 6) rfl (rfl) (vs' := [.slice sa15 sn16 sc17, .slice sa24 sn25 sc26]) (rfl) (l' := [Hp.own FV 1 (.slice sa24 sn25 sc26) vals, Hp.rec_ b8 [.slice sa15 sn16 sc17, .slice sa24 sn25 sc26], Hp.rec_ b2 [pv, .int .i64 ((s.many : Nat) : Int)], Hp.own FP 1 pv (pms.map Pm.b), Hp.big procH pms, Hp.own FZ 1 (.slice sa15 sn16 sc17) (codesT (ts0 n) cs), Hp.rec_ b1 [.slice sa15 sn16 sc17, .slice sa24 sn25 sc26]]) rfl) ?_
        rintro _ _ rfl
        refine Gx.val rfl rfl rfl (val_assign rfl rfl) ?_
        refine Gx.done ?_
        refine Gx.thenN ?_
        refine Gx.ret ?_
        refine Gx.drop 3 rfl ?_
        refine Gx.drop 2 rfl ?_
        refine Gx.drop 1 rfl ?_
        refine Gx.front 3 rfl ?_
        refine Gx.front 2 rfl ?_
        refine Gx.front 2 rfl ?_
        refine Gx.front 3 rfl ?_
        refine Gx.retC2 Try.results7 Try.ty26 rfl rfl (us := [.slice sa15 sn16 sc17, .slice sa24 sn25 sc26]) rfl (k := 3) rfl rfl ?_
        subst hsd
        exact ⟨_, _, vals, pms, _, rfl, rfl, hok, by omega, hvo⟩
  rintro v l w ⟨cv, dv, vals, pms, P, rfl, rfl, hok, hvl, hvo⟩ H
  have bd := (InvT.zero n).run cs (by simp [ts0]; omega)
  refine ⟨cv, dv, vals, rfl, (H.at_ (k := 0) rfl).sls (by rw [codesT_len]; omega), (H.at_ (k := 1) rfl).sls (by omega), hvl, fun kw v hv => ?_⟩
  obtain ⟨m, hm, hmv⟩ := hvo kw v hv
  obtain ⟨hrow, _⟩ := hok.row hm
  have hlen := ((bd.pi kw m.p hrow).len)
  have hmany := bd.many
  obtain ⟨R0, h1, _⟩ := Hp.big_focus procH pms kw m hm
  have H1 := H.at_ (k := 2) rfl
  rw [h1] at H1
  rw [show lstT (stT (ts0 n) cs) kw = m.p.lst from by unfold lstT; rw [hrow]; rfl, ← hmv]
  obtain ⟨Z, hZ⟩ : ∃ Z, procH m = Hp.own FN 1 m.v m.p.lst * Z := ⟨Hp.rec_ m.b [.int .i64 ((m.p.n : Nat) : Int), .map (some m.mb), m.v] * (mapB m.mb m.ks * Hp.big entH m.ks), by unfold procH; ac_rfl⟩
  rw [hZ] at H1
  exact Sat.sls (H1.cast (by rw [Hp.mul_assoc, Hp.mul_assoc])) (by omega)
end Go.Proofs.Ytfpdbgalannalaa
