/- What is ahead of what; whether all stands; whether one may stand next. The walks. No condition. -/
import Derived.Test.YtjiefamdpbnngaaLD1
namespace Go.Proofs.Ytjiefamdpbnngaa.Lin
open Go.RowKit
set_option linter.unusedVariables false
set_option linter.unusedSimpArgs false
set_option maxRecDepth 100000

theorem mem0 (k : Nat) (l : List Nat) : Value.bool (decide (((if k ∈ l then 1 else 0 : Nat) : Int) = 0)) = .bool (decide (¬ k ∈ l)) := by by_cases e : k ∈ l <;> simp [e]
theorem mem1 (k : Nat) (l : List Nat) : Value.bool (decide (((if k ∈ l then 1 else 0 : Nat) : Int) = 1)) = .bool (decide (k ∈ l)) := by by_cases e : k ∈ l <;> simp [e]
theorem sh_lt {m : Nat} (k : Nat) (h : m < 4294967296) : m >>> k < 4294967296 := by
  rw [Nat.shiftRight_eq_div_pow]; exact Nat.lt_of_le_of_lt (Nat.div_le_self _ _) h
theorem and_mk {l : List Nat} (k : Nat) (h : mk l < 4294967296) : IntKind.u32.wrap ((BitVec.ofInt IntKind.u32.bits ((mk l >>> k : Nat) : Int) &&& BitVec.ofInt IntKind.u32.bits 1).toNat) = ((if k ∈ l then 1 else 0 : Nat) : Int) :=
  (and32 (sh_lt k h) (by decide : 1 < 4294967296)).trans (congrArg Nat.cast (mk_test k))
theorem ahead17 (a b : Op) (W : World) : Calls Try.prog 17 #[.agg #[.int .i64 a.who, .int .i64 a.reg, .bool a.write, .int .i64 a.val, .int .i64 a.fr, .int .i64 a.to], .agg #[.int .i64 b.who, .int .i64 b.reg, .bool b.write, .int .i64 b.val, .int .i64 b.fr, .int .i64 b.to]] W fun e w' => e = .returned (.bool (aheadB a b)) ∧ Below W.heap.size W w' := by
  refine calls_pure (Gx.enter (l := []) Try.func17 rfl Try.ntmps17 rfl (Sat.start W) ?_)
  refine Gx.know (m' := [(0, .agg #[.int .i64 a.who, .int .i64 a.reg, .bool a.write, .int .i64 a.val, .int .i64 a.fr, .int .i64 a.to]), (1, .agg #[.int .i64 b.who, .int .i64 b.reg, .bool b.write, .int .i64 b.val, .int .i64 b.fr, .int .i64 b.to])]) (.cons rfl (.cons rfl .nil)) ?_
  refine Gx.seq ?_
  refine Gx.region ?_
  refine Gx.eff rfl rfl rfl (eff_box rfl rfl (vs := [.int .i64 a.who, .int .i64 a.reg, .bool a.write, .int .i64 a.val, .int .i64 a.fr, .int .i64 a.to]) rfl) ?_
  rintro _ _ ⟨b1, rfl, rfl⟩
  refine Gx.eff rfl rfl rfl (eff_box rfl rfl (vs := [.int .i64 b.who, .int .i64 b.reg, .bool b.write, .int .i64 b.val, .int .i64 b.fr, .int .i64 b.to]) rfl) ?_
  rintro _ _ ⟨b2, rfl, rfl⟩
  refine Gx.val rfl rfl rfl (val_assign rfl rfl) ?_
  refine Gx.done ?_
  refine Gx.thenN ?_
  refine Gx.seq ?_
  refine Gx.region ?_
  refine Gx.val rfl rfl rfl (Val.cast (val_fieldAddr rfl Try.underlying33 rfl Try.ty3 rfl rfl) (v' := ptr b1 5) rfl) ?_
  refine Gx.val rfl rfl rfl (val_load rfl Try.ty3 rfl rfl (cell_rec (k := 1) rfl rfl)) ?_
  refine Gx.val rfl rfl rfl (val_geq rfl rfl rfl) ?_
  refine Gx.val rfl rfl rfl (val_move rfl rfl) ?_
  refine Gx.cases (t := 8) rfl (fun h3 => ?_) (fun h3 => ?_)
  · refine Gx.valg rfl rfl rfl rfl rfl (Val.cast (val_fieldAddr rfl Try.underlying33 rfl Try.ty3 rfl rfl) (v' := ptr b1 5) rfl) ?_
    refine Gx.valg rfl rfl rfl rfl rfl (val_load rfl Try.ty3 rfl rfl (cell_rec (k := 1) rfl rfl)) ?_
    refine Gx.valg rfl rfl rfl rfl rfl (Val.cast (val_fieldAddr rfl Try.underlying33 rfl Try.ty3 rfl rfl) (v' := ptr b2 4) rfl) ?_
    refine Gx.valg rfl rfl rfl rfl rfl (val_load rfl Try.ty3 rfl rfl (cell_rec (k := 0) rfl rfl)) ?_
    refine Gx.valg rfl rfl rfl rfl rfl (val_lss rfl rfl rfl) ?_
    refine Gx.val rfl rfl rfl (val_pickT rfl rfl rfl) ?_
    refine Gx.val rfl rfl rfl (val_assign rfl rfl) ?_
    refine Gx.done ?_
    refine Gx.thenN ?_
    refine Gx.ret ?_
    refine Gx.ret1 Try.results17 rfl ?_
    exact congrArg Value.bool (by unfold aheadB; first | (simp_all; done) | (simp_all; omega))
  · refine Gx.skipg rfl rfl rfl rfl rfl rfl ?_
    refine Gx.skipg rfl rfl rfl rfl rfl rfl ?_
    refine Gx.skipg rfl rfl rfl rfl rfl rfl ?_
    refine Gx.skipg rfl rfl rfl rfl rfl rfl ?_
    refine Gx.skipg rfl rfl rfl rfl rfl rfl ?_
    refine Gx.val rfl rfl rfl (val_pickF rfl rfl rfl) ?_
    refine Gx.val rfl rfl rfl (val_assign rfl rfl) ?_
    refine Gx.done ?_
    refine Gx.thenN ?_
    refine Gx.ret ?_
    refine Gx.ret1 Try.results17 rfl ?_
    exact congrArg Value.bool (by unfold aheadB; first | (simp_all; done) | (simp_all; omega))

theorem full_any {W : World} {S : Nat} {hv lv : Value} {h : List Op} {l : List Nat} (hok : OkH h) (hmk : mk l < 4294967296) (hs : SlS FO 6 W hv h) (hr : Rec W S [hv, .int .u32 ((mk l : Nat) : Int), lv, .int .i64 (regsL h l 0), .int .i64 (regsL h l 1), .int .i64 (regsL h l 2), .int .i64 (regsL h l 3)]) :
    Calls Try.prog 18 #[ptr S 0] W fun e w' => e = .returned (.bool (fullB h l)) ∧ Below W.heap.size W w' := by
  have h8 := hok.len
  have hb := hr.1
  have hc0 := (hr.2 0 _ rfl).1
  have hc1 := (hr.2 1 _ rfl).1
  have hcR : ∀ j, j < 4 → W.cell? ⟨S, 3 + j * 1, none⟩ = some (.int .i64 (regsL h l j)) := fun j hj => by
    rcases (show j = 0 ∨ j = 1 ∨ j = 2 ∨ j = 3 by omega) with rfl | rfl | rfl | rfl
    · exact (hr.2 3 _ rfl).1
    · exact (hr.2 4 _ rfl).1
    · exact (hr.2 5 _ rfl).1
    · exact (hr.2 6 _ rfl).1
  refine calls_pure (Gx.enter (l := []) Try.func18 rfl Try.ntmps18 rfl (Sat.start W) ?_)
  refine Gx.know (m' := [(0, ptr S 0)]) (.cons rfl .nil) ?_
  refine Gx.seq ?_
  refine Gx.region ?_
  refine Gx.val rfl rfl rfl (val_assign rfl rfl) ?_
  refine Gx.done ?_
  refine Gx.thenN ?_
  refine Gx.seq ?_
  refine Gx.seq ?_
  refine Gx.region ?_
  refine Gx.val rfl rfl rfl (val_move rfl rfl) ?_
  refine Gx.val rfl rfl rfl (val_nilCheck rfl rfl) ?_
  refine Gx.val rfl rfl rfl (Val.cast (val_fieldAddr rfl Try.underlying59 rfl Try.ty26 rfl rfl) (v' := ptr S 0) rfl) ?_
  refine Gx.val rfl rfl rfl (val_load rfl Try.ty26 rfl rfl (cell_old hb hc0)) ?_
  refine Gx.val rfl rfl rfl (val_len rfl Try.underlying26 rfl (len_base hs)) ?_
  refine Gx.val rfl rfl rfl (val_move rfl rfl) ?_
  refine Gx.done ?_
  refine Gx.thenN ?_
  refine Gx.block ?_
  refine Gx.loop (ι := Nat) (fun ξ => (ξ ≤ h.length) ∧ (∀ (i : Nat) (a : Op), i < ξ → h[i]? = some a → 0 ≤ a.to → i ∈ l)) (fun ξ => [(0, ptr S 0), (8, hv), (9, .int .i64 ((h.length : Nat) : Int)), (10, .int .i64 ((ξ : Nat) : Int))]) (fun ξ => []) (fun ξ => h.length - ξ) 0 ⟨by first | omega | (dsimp only; omega), fun i a hi => by omega⟩ ((.cons rfl (.cons rfl (.cons rfl (.cons rfl .nil))))) rfl ?_
  rintro k ⟨hk, hn⟩
  refine Gx.know (m' := [(0, ptr S 0), (8, hv), (9, .int .i64 ((h.length : Nat) : Int)), (10, .int .i64 ((k : Nat) : Int))]) (.cons rfl (.cons rfl (.cons rfl (.cons rfl .nil)))) (Gx.norm (l' := []) rfl ?_)
  refine Gx.seq ?_
  refine Gx.region ?_
  refine Gx.val rfl rfl rfl (val_lss rfl rfl rfl) ?_
  refine Gx.done ?_
  refine Gx.thenN ?_
  refine Gx.seq ?_
  refine Gx.dec rfl (fun h1 => ?_) (fun h1 => ?_)
  · refine Gx.skip ?_
    refine Gx.thenN ?_
    refine Gx.seq ?_
    refine Gx.block ?_
    refine Gx.seq ?_
    refine Gx.region ?_
    refine Gx.val rfl rfl rfl (val_move rfl rfl) ?_
    obtain ⟨x2, hx2⟩ := get_of_lt (xs := h) (k := k) (by omega)
    refine Gx.val rfl rfl rfl (val_ixa rfl Try.underlying26 Try.ty33 rfl rfl (j := k) (rfl) (reach_base hs hx2)) ?_
    refine Gx.val rfl rfl rfl (Val.cast (val_loadA rfl Try.ty33 rfl rfl rfl (cells_base hs hx2)) (v' := .agg #[.int .i64 x2.who, .int .i64 x2.reg, .bool x2.write, .int .i64 x2.val, .int .i64 x2.fr, .int .i64 x2.to]) rfl) ?_
    refine Gx.eff rfl rfl rfl (eff_alloc rfl Try.ty33 (vs := [.int .i64 0, .int .i64 0, .bool false, .int .i64 0, .int .i64 0, .int .i64 0]) rfl) ?_
    rintro _ _ ⟨b3, rfl, rfl⟩
    refine Gx.val rfl rfl rfl (val_assign rfl rfl) ?_
    refine Gx.eff0 rfl rfl (eff_store rfl Try.ty33 rfl rfl (us := [.int .i64 x2.who, .int .i64 x2.reg, .bool x2.write, .int .i64 x2.val, .int .i64 x2.fr, .int .i64 x2.to]) rfl rfl rfl (k := 0) rfl (rfl) (vs' := [.int .i64 x2.who, .int .i64 x2.reg, .bool x2.write, .int .i64 x2.val, .int .i64 x2.fr, .int .i64 x2.to]) (rfl) (l' := [Hp.rec_ b3 [.int .i64 x2.who, .int .i64 x2.reg, .bool x2.write, .int .i64 x2.val, .int .i64 x2.fr, .int .i64 x2.to]]) rfl) ?_
    rintro _ _ rfl
    refine Gx.done ?_
    refine Gx.thenN ?_
    refine Gx.seq ?_
    refine Gx.region ?_
    refine Gx.val rfl rfl rfl (Val.cast (val_fieldAddr rfl Try.underlying33 rfl Try.ty3 rfl rfl) (v' := ptr b3 5) rfl) ?_
    refine Gx.val rfl rfl rfl (val_load rfl Try.ty3 rfl rfl (cell_rec (k := 0) rfl rfl)) ?_
    refine Gx.val rfl rfl rfl (val_geq rfl rfl rfl) ?_
    refine Gx.val rfl rfl rfl (val_move rfl rfl) ?_
    refine Gx.cases (t := 18) rfl (fun h4 => ?_) (fun h4 => ?_)
    · refine Gx.valg rfl rfl rfl rfl rfl (val_move rfl rfl) ?_
      refine Gx.valg rfl rfl rfl rfl rfl (val_nilCheck rfl rfl) ?_
      refine Gx.valg rfl rfl rfl rfl rfl (Val.cast (val_fieldAddr rfl Try.underlying59 rfl Try.ty52 rfl rfl) (v' := ptr S 1) rfl) ?_
      refine Gx.valg rfl rfl rfl rfl rfl (val_load rfl Try.ty52 rfl rfl (cell_old hb hc1)) ?_
      refine Gx.valg rfl rfl rfl rfl rfl (val_move rfl rfl) ?_
      refine Gx.valg rfl rfl rfl rfl rfl (val_shr (b := k) rfl rfl rfl rfl (by show k ≤ 32; omega) (shr32 _ _)) ?_
      refine Gx.valg rfl rfl rfl rfl rfl (val_and rfl rfl rfl (and_mk k hmk)) ?_
      refine Gx.valg rfl rfl rfl rfl rfl (Val.cast (val_eql rfl rfl rfl) (v' := .bool (decide (¬ k ∈ l))) (mem0 k l)) ?_
      refine Gx.val rfl rfl rfl (val_pickT rfl rfl rfl) ?_
      refine Gx.done ?_
      refine Gx.thenN ?_
      refine Gx.dec rfl (fun h5 => ?_) (fun h5 => ?_)
      · refine Gx.seq ?_
        refine Gx.region ?_
        refine Gx.val rfl rfl rfl (val_assign rfl rfl) ?_
        refine Gx.done ?_
        refine Gx.thenN ?_
        refine Gx.ret ?_
        refine Gx.blkR ?_
        refine Gx.thenR ?_
        refine Gx.thenR ?_
        refine Gx.blkR ?_
        refine Gx.thenR ?_
        refine Gx.ret1 Try.results18 rfl ?_
        exact congrArg Value.bool (Bool.eq_false_iff.2 fun hf => absurd (fullB_iff.1 hf _ _ hx2 (by assumption)) (by assumption)).symm
      · refine Gx.skip ?_
        refine Gx.blkN ?_
        refine Gx.thenN ?_
        refine Gx.region ?_
        refine Gx.val rfl rfl rfl (val_add rfl rfl rfl (r := ((k + 1 : Nat) : Int)) (w64 (by omega) (by omega))) ?_
        refine Gx.val rfl rfl rfl (val_move rfl rfl) ?_
        refine Gx.done ?_
        refine Gx.thenN ?_
        refine Gx.drop 0 rfl ?_
        exact Gx.round (k + 1) ⟨by first | omega | (dsimp only; omega), fun i a hi ha h0 => by rcases Nat.lt_or_eq_of_le (Nat.le_of_lt_succ hi) with hi | rfl; (exact hn i a hi ha h0); (have e := hx2.symm.trans ha; cases e; first | exact Classical.byContradiction (by assumption) | (exact Decidable.not_not.1 (by assumption)) | omega)⟩ (by first | omega | (dsimp only; omega)) ((.cons rfl (.cons rfl (.cons rfl (.cons rfl .nil))))) rfl
    · refine Gx.skipg rfl rfl rfl rfl rfl rfl ?_
      refine Gx.skipg rfl rfl rfl rfl rfl rfl ?_
      refine Gx.skipg rfl rfl rfl rfl rfl rfl ?_
      refine Gx.skipg rfl rfl rfl rfl rfl rfl ?_
      refine Gx.skipg rfl rfl rfl rfl rfl rfl ?_
      refine Gx.skipg rfl rfl rfl rfl rfl rfl ?_
      refine Gx.skipg rfl rfl rfl rfl rfl rfl ?_
      refine Gx.skipg rfl rfl rfl rfl rfl rfl ?_
      refine Gx.val rfl rfl rfl (val_pickF rfl rfl rfl) ?_
      refine Gx.done ?_
      refine Gx.thenN ?_
      refine Gx.f rfl ?_
      refine Gx.skip ?_
      refine Gx.blkN ?_
      refine Gx.thenN ?_
      refine Gx.region ?_
      refine Gx.val rfl rfl rfl (val_add rfl rfl rfl (r := ((k + 1 : Nat) : Int)) (w64 (by omega) (by omega))) ?_
      refine Gx.val rfl rfl rfl (val_move rfl rfl) ?_
      refine Gx.done ?_
      refine Gx.thenN ?_
      refine Gx.drop 0 rfl ?_
      exact Gx.round (k + 1) ⟨by first | omega | (dsimp only; omega), fun i a hi ha h0 => by rcases Nat.lt_or_eq_of_le (Nat.le_of_lt_succ hi) with hi | rfl; (exact hn i a hi ha h0); (have e := hx2.symm.trans ha; cases e; first | exact Classical.byContradiction (by assumption) | (exact Decidable.not_not.1 (by assumption)) | omega)⟩ (by first | omega | (dsimp only; omega)) ((.cons rfl (.cons rfl (.cons rfl (.cons rfl .nil))))) rfl
  · refine Gx.exit ?_
    refine Gx.thenE ?_
    refine Gx.thenE ?_
    refine Gx.blkE ?_
    refine Gx.thenN ?_
    refine Gx.seq ?_
    refine Gx.region ?_
    refine Gx.val rfl rfl rfl (val_assign rfl rfl) ?_
    refine Gx.done ?_
    refine Gx.thenN ?_
    refine Gx.ret ?_
    refine Gx.ret1 Try.results18 rfl ?_
    exact congrArg Value.bool (fullB_iff.2 fun i a ha h0 => hn i a (by have := (List.getElem?_eq_some_iff.1 ha).1; omega) ha h0).symm

theorem may_any {W : World} {S : Nat} {hv lv : Value} {h : List Op} {l : List Nat} (i : Nat) (hi : i < h.length) (hok : OkH h) (hmk : mk l < 4294967296) (hs : SlS FO 6 W hv h) (hr : Rec W S [hv, .int .u32 ((mk l : Nat) : Int), lv, .int .i64 (regsL h l 0), .int .i64 (regsL h l 1), .int .i64 (regsL h l 2), .int .i64 (regsL h l 3)]) :
    Calls Try.prog 19 #[ptr S 0, .int .i64 ((i : Nat) : Int)] W fun e w' => e = .returned (.bool (mayB h l i)) ∧ Below W.heap.size W w' := by
  have h8 := hok.len
  have hb := hr.1
  have hc0 := (hr.2 0 _ rfl).1
  have hc1 := (hr.2 1 _ rfl).1
  have hcR : ∀ j, j < 4 → W.cell? ⟨S, 3 + j * 1, none⟩ = some (.int .i64 (regsL h l j)) := fun j hj => by
    rcases (show j = 0 ∨ j = 1 ∨ j = 2 ∨ j = 3 by omega) with rfl | rfl | rfl | rfl
    · exact (hr.2 3 _ rfl).1
    · exact (hr.2 4 _ rfl).1
    · exact (hr.2 5 _ rfl).1
    · exact (hr.2 6 _ rfl).1
  refine calls_pure (Gx.enter (l := []) Try.func19 rfl Try.ntmps19 rfl (Sat.start W) ?_)
  refine Gx.know (m' := [(0, ptr S 0), (1, .int .i64 ((i : Nat) : Int))]) (.cons rfl (.cons rfl .nil)) ?_
  refine Gx.seq ?_
  refine Gx.region ?_
  refine Gx.val rfl rfl rfl (val_assign rfl rfl) ?_
  refine Gx.done ?_
  refine Gx.thenN ?_
  refine Gx.seq ?_
  refine Gx.region ?_
  refine Gx.val rfl rfl rfl (val_move rfl rfl) ?_
  refine Gx.val rfl rfl rfl (val_nilCheck rfl rfl) ?_
  refine Gx.val rfl rfl rfl (Val.cast (val_fieldAddr rfl Try.underlying59 rfl Try.ty26 rfl rfl) (v' := ptr S 0) rfl) ?_
  refine Gx.val rfl rfl rfl (val_load rfl Try.ty26 rfl rfl (cell_old hb hc0)) ?_
  refine Gx.val rfl rfl rfl (val_move rfl rfl) ?_
  obtain ⟨x1, hx1⟩ := get_of_lt (xs := h) (k := i) (by omega)
  refine Gx.val rfl rfl rfl (val_ixa rfl Try.underlying26 Try.ty33 rfl rfl (j := i) (rfl) (reach_base hs hx1)) ?_
  refine Gx.val rfl rfl rfl (Val.cast (val_loadA rfl Try.ty33 rfl rfl rfl (cells_base hs hx1)) (v' := .agg #[.int .i64 x1.who, .int .i64 x1.reg, .bool x1.write, .int .i64 x1.val, .int .i64 x1.fr, .int .i64 x1.to]) rfl) ?_
  refine Gx.eff rfl rfl rfl (eff_alloc rfl Try.ty33 (vs := [.int .i64 0, .int .i64 0, .bool false, .int .i64 0, .int .i64 0, .int .i64 0]) rfl) ?_
  rintro _ _ ⟨b2, rfl, rfl⟩
  refine Gx.eff0 rfl rfl (eff_store rfl Try.ty33 rfl rfl (us := [.int .i64 x1.who, .int .i64 x1.reg, .bool x1.write, .int .i64 x1.val, .int .i64 x1.fr, .int .i64 x1.to]) rfl rfl rfl (k := 0) rfl (rfl) (vs' := [.int .i64 x1.who, .int .i64 x1.reg, .bool x1.write, .int .i64 x1.val, .int .i64 x1.fr, .int .i64 x1.to]) (rfl) (l' := [Hp.rec_ b2 [.int .i64 x1.who, .int .i64 x1.reg, .bool x1.write, .int .i64 x1.val, .int .i64 x1.fr, .int .i64 x1.to]]) rfl) ?_
  rintro _ _ rfl
  refine Gx.done ?_
  refine Gx.thenN ?_
  refine Gx.seq ?_
  refine Gx.seq ?_
  refine Gx.regionQ Try.mixed (by kernel_rfl) ?_
  have hreg := hok.reg _ _ hx1
  refine Gq.val rfl rfl rfl (val_move rfl rfl) ?_
  refine Gq.val rfl rfl rfl (val_nilCheck rfl rfl) ?_
  refine Gq.val rfl rfl rfl (Val.cast (val_fieldAddr rfl Try.underlying59 rfl Try.ty52 rfl rfl) (v' := ptr S 1) rfl) ?_
  refine Gq.val rfl rfl rfl (val_load rfl Try.ty52 rfl rfl (cell_old hb hc1)) ?_
  refine Gq.val rfl rfl rfl (val_move rfl rfl) ?_
  refine Gq.val rfl rfl rfl (val_shr (b := i) rfl rfl rfl rfl (by show i ≤ 32; omega) (shr32 _ _)) ?_
  refine Gq.val rfl rfl rfl (val_and rfl rfl rfl (and_mk i hmk)) ?_
  refine Gq.val rfl rfl rfl (Val.cast (val_eql rfl rfl rfl) (v' := .bool (decide (i ∈ l))) (mem1 i l)) ?_
  refine Gq.val rfl rfl rfl (val_move rfl rfl) ?_
  refine Gq.cases (t := 23) rfl (fun h3 => ?_) (fun h3 => ?_)
  · refine Gq.skipg rfl rfl rfl rfl rfl rfl ?_
    refine Gq.skipg rfl rfl rfl rfl rfl rfl ?_
    refine Gq.skipg rfl rfl rfl rfl rfl rfl ?_
    refine Gq.skipg rfl rfl rfl rfl rfl rfl ?_
    refine Gq.skipu rfl rfl rfl rfl rfl ?_
    refine Gq.skipu rfl rfl rfl rfl rfl ?_
    refine Gq.skipu rfl rfl rfl rfl rfl ?_
    refine Gq.skipu rfl rfl rfl rfl rfl ?_
    refine Gq.skipu rfl rfl rfl rfl rfl ?_
    refine Gq.skipu rfl rfl rfl rfl rfl ?_
    refine Gq.skipu rfl rfl rfl rfl rfl ?_
    refine Gq.skipu rfl rfl rfl rfl rfl ?_
    refine Gq.skipu rfl rfl rfl rfl rfl ?_
    refine Gq.skipu rfl rfl rfl rfl rfl ?_
    refine Gq.skipu rfl rfl rfl rfl rfl ?_
    refine Gq.skipu rfl rfl rfl rfl rfl ?_
    refine Gq.skipu rfl rfl rfl rfl rfl ?_
    refine Gq.skipu rfl rfl rfl rfl rfl ?_
    refine Gq.skipu rfl rfl rfl rfl rfl ?_
    refine Gq.skipg rfl rfl rfl rfl rfl rfl ?_
    refine Gq.val rfl rfl rfl (val_pickT rfl rfl rfl) ?_
    refine Gq.done ?_
    refine Gx.thenN ?_
    refine Gx.t rfl ?_
    refine Gx.seq ?_
    refine Gx.region ?_
    refine Gx.val rfl rfl rfl (val_assign rfl rfl) ?_
    refine Gx.done ?_
    refine Gx.thenN ?_
    refine Gx.ret ?_
    refine Gx.thenR ?_
    refine Gx.ret1 Try.results19 rfl ?_
    exact congrArg Value.bool (Bool.eq_false_iff.2 fun hm => by have q := (mayB_iff hx1).1 hm; rcases q with ⟨q1, q2, q3⟩; rcases q2 with q2 | ⟨q2, q2'⟩ <;> first | exact q1 (by assumption) | omega | (exact absurd q2' (by assumption)) | simp_all).symm
  · refine Gq.valg rfl rfl rfl rfl rfl (Val.cast (val_fieldAddr rfl Try.underlying33 rfl Try.ty4 rfl rfl) (v' := ptr b2 2) rfl) ?_
    refine Gq.valg rfl rfl rfl rfl rfl (val_load rfl Try.ty4 rfl rfl (cell_rec (k := 0) rfl rfl)) ?_
    refine Gq.valg rfl rfl rfl rfl rfl (val_not rfl rfl) ?_
    refine Gq.valg rfl rfl rfl rfl rfl (val_move rfl rfl) ?_
    refine Gq.casesB (t := 27) rfl (fun h4 => ?_) (fun h4 => ?_)
    · refine Gq.valg rfl rfl rfl rfl rfl (Val.cast (val_fieldAddr rfl Try.underlying33 rfl Try.ty3 rfl rfl) (v' := ptr b2 5) rfl) ?_
      refine Gq.valg rfl rfl rfl rfl rfl (val_load rfl Try.ty3 rfl rfl (cell_rec (k := 0) rfl rfl)) ?_
      refine Gq.valg rfl rfl rfl rfl rfl (val_lss rfl rfl rfl) ?_
      refine Gq.valg rfl rfl rfl rfl rfl (val_move rfl rfl) ?_
      refine Gq.cases (t := 31) rfl (fun h5 => ?_) (fun h5 => ?_)
      · refine Gq.skipg rfl rfl rfl rfl rfl rfl ?_
        refine Gq.skipg rfl rfl rfl rfl rfl rfl ?_
        refine Gq.skipg rfl rfl rfl rfl rfl rfl ?_
        refine Gq.skipg rfl rfl rfl rfl rfl rfl ?_
        refine Gq.skipg rfl rfl rfl rfl rfl rfl ?_
        refine Gq.skipg rfl rfl rfl rfl rfl rfl ?_
        refine Gq.skipg rfl rfl rfl rfl rfl rfl ?_
        refine Gq.skipg rfl rfl rfl rfl rfl rfl ?_
        refine Gq.skipg rfl rfl rfl rfl rfl rfl ?_
        refine Gq.skipg rfl rfl rfl rfl rfl rfl ?_
        refine Gq.valg rfl rfl rfl rfl rfl (val_pickT rfl rfl rfl) ?_
        refine Gq.valg rfl rfl rfl rfl rfl (val_pickT rfl rfl rfl) ?_
        refine Gq.val rfl rfl rfl (val_pickF rfl rfl rfl) ?_
        refine Gq.done ?_
        refine Gx.thenN ?_
        refine Gx.t rfl ?_
        refine Gx.seq ?_
        refine Gx.region ?_
        refine Gx.val rfl rfl rfl (val_assign rfl rfl) ?_
        refine Gx.done ?_
        refine Gx.thenN ?_
        refine Gx.ret ?_
        refine Gx.thenR ?_
        refine Gx.ret1 Try.results19 rfl ?_
        exact congrArg Value.bool (Bool.eq_false_iff.2 fun hm => by have q := (mayB_iff hx1).1 hm; rcases q with ⟨q1, q2, q3⟩; rcases q2 with q2 | ⟨q2, q2'⟩ <;> first | exact q1 (by assumption) | omega | (exact absurd q2' (by assumption)) | simp_all).symm
      · refine Gq.valg rfl rfl rfl rfl rfl (val_move rfl rfl) ?_
        refine Gq.valg rfl rfl rfl rfl rfl (Val.cast (val_fieldAddr rfl Try.underlying33 rfl Try.ty3 rfl rfl) (v' := ptr b2 1) rfl) ?_
        refine Gq.valg rfl rfl rfl rfl rfl (val_load rfl Try.ty3 rfl rfl (cell_rec (k := 0) rfl rfl)) ?_
        refine Gq.valg rfl rfl rfl rfl rfl (val_nilCheck rfl rfl) ?_
        refine Gq.valg rfl rfl rfl rfl rfl (Val.cast (val_fieldAddr rfl Try.underlying59 rfl Try.ty57 rfl rfl) (v' := ptr S 3) rfl) ?_
        refine Gq.valg rfl rfl rfl rfl rfl (Val.cast (val_ixaA rfl Try.underlying57 Try.ty2 rfl rfl (j := x1.reg.toNat) (by omega) (by omega)) (v' := ptr S (3 + x1.reg.toNat * 1)) rfl) ?_
        refine Gq.valg rfl rfl rfl rfl rfl (val_load rfl Try.ty2 rfl rfl (cell_old hb (hcR x1.reg.toNat (by omega)))) ?_
        refine Gq.valg rfl rfl rfl rfl rfl (Val.cast (val_fieldAddr rfl Try.underlying33 rfl Try.ty2 rfl rfl) (v' := ptr b2 3) rfl) ?_
        refine Gq.valg rfl rfl rfl rfl rfl (val_load rfl Try.ty2 rfl rfl (cell_rec (k := 0) rfl rfl)) ?_
        refine Gq.valg rfl rfl rfl rfl rfl (val_neq rfl rfl rfl) ?_
        refine Gq.valg rfl rfl rfl rfl rfl (val_pickF rfl rfl rfl) ?_
        refine Gq.valg rfl rfl rfl rfl rfl (val_pickT rfl rfl rfl) ?_
        refine Gq.val rfl rfl rfl (val_pickF rfl rfl rfl) ?_
        refine Gq.done ?_
        refine Gx.thenN ?_
        refine Gx.dec rfl (fun h6 => ?_) (fun h6 => ?_)
        · refine Gx.seq ?_
          refine Gx.region ?_
          refine Gx.val rfl rfl rfl (val_assign rfl rfl) ?_
          refine Gx.done ?_
          refine Gx.thenN ?_
          refine Gx.ret ?_
          refine Gx.thenR ?_
          refine Gx.ret1 Try.results19 rfl ?_
          exact congrArg Value.bool (Bool.eq_false_iff.2 fun hm => by have q := (mayB_iff hx1).1 hm; rcases q with ⟨q1, q2, q3⟩; rcases q2 with q2 | ⟨q2, q2'⟩ <;> first | exact q1 (by assumption) | omega | (exact absurd q2' (by assumption)) | simp_all).symm
        · refine Gx.skip ?_
          refine Gx.thenN ?_
          refine Gx.seq ?_
          refine Gx.seq ?_
          refine Gx.region ?_
          refine Gx.val rfl rfl rfl (val_move rfl rfl) ?_
          refine Gx.val rfl rfl rfl (val_nilCheck rfl rfl) ?_
          refine Gx.val rfl rfl rfl (Val.cast (val_fieldAddr rfl Try.underlying59 rfl Try.ty26 rfl rfl) (v' := ptr S 0) rfl) ?_
          refine Gx.val rfl rfl rfl (val_load rfl Try.ty26 rfl rfl (cell_old hb hc0)) ?_
          refine Gx.val rfl rfl rfl (val_len rfl Try.underlying26 rfl (len_base hs)) ?_
          refine Gx.val rfl rfl rfl (val_move rfl rfl) ?_
          refine Gx.done ?_
          refine Gx.thenN ?_
          refine Gx.block ?_
          refine Gx.loop (ι := Nat) (fun ξ => (ξ ≤ h.length) ∧ (∀ (j : Nat) (b : Op), j < ξ → h[j]? = some b → ¬ j ∈ l → ¬ aheadB b x1 = true)) (fun ξ => [(0, ptr S 0), (1, .int .i64 ((i : Nat) : Int)), (5, ptr b2 0), (48, hv), (49, .int .i64 ((h.length : Nat) : Int)), (50, .int .i64 ((ξ : Nat) : Int))]) (fun ξ => [Hp.rec_ b2 [.int .i64 x1.who, .int .i64 x1.reg, .bool x1.write, .int .i64 x1.val, .int .i64 x1.fr, .int .i64 x1.to]]) (fun ξ => h.length - ξ) 0 ⟨by first | omega | (dsimp only; omega), fun j b hj => by omega⟩ ((.cons rfl (.cons rfl (.cons rfl (.cons rfl (.cons rfl (.cons rfl .nil))))))) rfl ?_
          rintro k ⟨hk, hn⟩
          refine Gx.know (m' := [(0, ptr S 0), (1, .int .i64 ((i : Nat) : Int)), (5, ptr b2 0), (48, hv), (49, .int .i64 ((h.length : Nat) : Int)), (50, .int .i64 ((k : Nat) : Int))]) (.cons rfl (.cons rfl (.cons rfl (.cons rfl (.cons rfl (.cons rfl .nil)))))) (Gx.norm (l' := [Hp.rec_ b2 [.int .i64 x1.who, .int .i64 x1.reg, .bool x1.write, .int .i64 x1.val, .int .i64 x1.fr, .int .i64 x1.to]]) rfl ?_)
          refine Gx.seq ?_
          refine Gx.region ?_
          refine Gx.val rfl rfl rfl (val_lss rfl rfl rfl) ?_
          refine Gx.done ?_
          refine Gx.thenN ?_
          refine Gx.seq ?_
          refine Gx.dec rfl (fun h7 => ?_) (fun h7 => ?_)
          · refine Gx.skip ?_
            refine Gx.thenN ?_
            refine Gx.seq ?_
            refine Gx.block ?_
            refine Gx.seq ?_
            refine Gx.region ?_
            refine Gx.val rfl rfl rfl (val_move rfl rfl) ?_
            obtain ⟨x8, hx8⟩ := get_of_lt (xs := h) (k := k) (by omega)
            refine Gx.val rfl rfl rfl (val_ixa rfl Try.underlying26 Try.ty33 rfl rfl (j := k) (rfl) (reach_base hs hx8)) ?_
            refine Gx.val rfl rfl rfl (Val.cast (val_loadA rfl Try.ty33 rfl rfl rfl (cells_base hs hx8)) (v' := .agg #[.int .i64 x8.who, .int .i64 x8.reg, .bool x8.write, .int .i64 x8.val, .int .i64 x8.fr, .int .i64 x8.to]) rfl) ?_
            refine Gx.eff rfl rfl rfl (eff_alloc rfl Try.ty33 (vs := [.int .i64 0, .int .i64 0, .bool false, .int .i64 0, .int .i64 0, .int .i64 0]) rfl) ?_
            rintro _ _ ⟨b9, rfl, rfl⟩
            refine Gx.val rfl rfl rfl (val_assign rfl rfl) ?_
            refine Gx.eff0 rfl rfl (eff_store rfl Try.ty33 rfl rfl (us := [.int .i64 x8.who, .int .i64 x8.reg, .bool x8.write, .int .i64 x8.val, .int .i64 x8.fr, .int .i64 x8.to]) rfl rfl rfl (k := 0) rfl (rfl) (vs' := [.int .i64 x8.who, .int .i64 x8.reg, .bool x8.write, .int .i64 x8.val, .int .i64 x8.fr, .int .i64 x8.to]) (rfl) (l' := [Hp.rec_ b9 [.int .i64 x8.who, .int .i64 x8.reg, .bool x8.write, .int .i64 x8.val, .int .i64 x8.fr, .int .i64 x8.to], Hp.rec_ b2 [.int .i64 x1.who, .int .i64 x1.reg, .bool x1.write, .int .i64 x1.val, .int .i64 x1.fr, .int .i64 x1.to]]) rfl) ?_
            rintro _ _ rfl
            refine Gx.done ?_
            refine Gx.thenN ?_
            refine Gx.seq ?_
            refine Gx.region ?_
            refine Gx.val rfl rfl rfl (val_move rfl rfl) ?_
            refine Gx.val rfl rfl rfl (val_nilCheck rfl rfl) ?_
            refine Gx.val rfl rfl rfl (Val.cast (val_fieldAddr rfl Try.underlying59 rfl Try.ty52 rfl rfl) (v' := ptr S 1) rfl) ?_
            refine Gx.val rfl rfl rfl (val_load rfl Try.ty52 rfl rfl (cell_old hb hc1)) ?_
            refine Gx.val rfl rfl rfl (val_move rfl rfl) ?_
            refine Gx.val rfl rfl rfl (val_shr (b := k) rfl rfl rfl rfl (by show k ≤ 32; omega) (shr32 _ _)) ?_
            refine Gx.val rfl rfl rfl (val_and rfl rfl rfl (and_mk k hmk)) ?_
            refine Gx.val rfl rfl rfl (Val.cast (val_eql rfl rfl rfl) (v' := .bool (decide (¬ k ∈ l))) (mem0 k l)) ?_
            refine Gx.val rfl rfl rfl (val_move rfl rfl) ?_
            refine Gx.cases (t := 63) rfl (fun h10 => ?_) (fun h10 => ?_)
            · refine Gx.valg rfl rfl rfl rfl rfl (Val.cast (val_loadA rfl Try.ty33 rfl rfl rfl (cells_rec (k := 0) rfl)) (v' := .agg #[.int .i64 x8.who, .int .i64 x8.reg, .bool x8.write, .int .i64 x8.val, .int .i64 x8.fr, .int .i64 x8.to]) rfl) ?_
              refine Gx.valg rfl rfl rfl rfl rfl (Val.cast (val_loadA rfl Try.ty33 rfl rfl rfl (cells_rec (k := 1) rfl)) (v' := .agg #[.int .i64 x1.who, .int .i64 x1.reg, .bool x1.write, .int .i64 x1.val, .int .i64 x1.fr, .int .i64 x1.to]) rfl) ?_
              refine Gx.valg rfl rfl rfl rfl rfl (val_call (vs := [.agg #[.int .i64 x8.who, .int .i64 x8.reg, .bool x8.write, .int .i64 x8.val, .int .i64 x8.fr, .int .i64 x8.to], .agg #[.int .i64 x1.who, .int .i64 x1.reg, .bool x1.write, .int .i64 x1.val, .int .i64 x1.fr, .int .i64 x1.to]]) rfl Try.fn17 rfl (fun w H => ahead17 x8 x1 _)) ?_
              refine Gx.val rfl rfl rfl (val_pickT rfl rfl rfl) ?_
              refine Gx.done ?_
              refine Gx.thenN ?_
              refine Gx.bool rfl (fun h11 => ?_) (fun h11 => ?_)
              · refine Gx.seq ?_
                refine Gx.region ?_
                refine Gx.val rfl rfl rfl (val_assign rfl rfl) ?_
                refine Gx.done ?_
                refine Gx.thenN ?_
                refine Gx.ret ?_
                refine Gx.blkR ?_
                refine Gx.thenR ?_
                refine Gx.thenR ?_
                refine Gx.blkR ?_
                refine Gx.thenR ?_
                refine Gx.ret1 Try.results19 rfl ?_
                exact congrArg Value.bool (Bool.eq_false_iff.2 fun hm => by have q := (mayB_iff hx1).1 hm; rcases q with ⟨q1, q2, q3⟩; exact q3 _ _ hx8 (by assumption) (by assumption)).symm
              · refine Gx.skip ?_
                refine Gx.blkN ?_
                refine Gx.thenN ?_
                refine Gx.region ?_
                refine Gx.val rfl rfl rfl (val_add rfl rfl rfl (r := ((k + 1 : Nat) : Int)) (w64 (by omega) (by omega))) ?_
                refine Gx.val rfl rfl rfl (val_move rfl rfl) ?_
                refine Gx.done ?_
                refine Gx.thenN ?_
                refine Gx.drop 0 rfl ?_
                exact Gx.round (k + 1) ⟨by first | omega | (dsimp only; omega), fun j b hj hb' hm => by rcases Nat.lt_or_eq_of_le (Nat.le_of_lt_succ hj) with hj | rfl; (exact hn j b hj hb' hm); (have e := hx8.symm.trans hb'; cases e; simp_all)⟩ (by first | omega | (dsimp only; omega)) ((.cons rfl (.cons rfl (.cons rfl (.cons rfl (.cons rfl (.cons rfl .nil))))))) rfl
            · refine Gx.skipg rfl rfl rfl rfl rfl rfl ?_
              refine Gx.skipg rfl rfl rfl rfl rfl rfl ?_
              refine Gx.skipg rfl rfl rfl rfl rfl rfl ?_
              refine Gx.val rfl rfl rfl (val_pickF rfl rfl rfl) ?_
              refine Gx.done ?_
              refine Gx.thenN ?_
              refine Gx.f rfl ?_
              refine Gx.skip ?_
              refine Gx.blkN ?_
              refine Gx.thenN ?_
              refine Gx.region ?_
              refine Gx.val rfl rfl rfl (val_add rfl rfl rfl (r := ((k + 1 : Nat) : Int)) (w64 (by omega) (by omega))) ?_
              refine Gx.val rfl rfl rfl (val_move rfl rfl) ?_
              refine Gx.done ?_
              refine Gx.thenN ?_
              refine Gx.drop 0 rfl ?_
              exact Gx.round (k + 1) ⟨by first | omega | (dsimp only; omega), fun j b hj hb' hm => by rcases Nat.lt_or_eq_of_le (Nat.le_of_lt_succ hj) with hj | rfl; (exact hn j b hj hb' hm); (have e := hx8.symm.trans hb'; cases e; simp_all)⟩ (by first | omega | (dsimp only; omega)) ((.cons rfl (.cons rfl (.cons rfl (.cons rfl (.cons rfl (.cons rfl .nil))))))) rfl
          · refine Gx.exit ?_
            refine Gx.thenE ?_
            refine Gx.thenE ?_
            refine Gx.blkE ?_
            refine Gx.thenN ?_
            refine Gx.seq ?_
            refine Gx.region ?_
            refine Gx.val rfl rfl rfl (val_assign rfl rfl) ?_
            refine Gx.done ?_
            refine Gx.thenN ?_
            refine Gx.ret ?_
            refine Gx.ret1 Try.results19 rfl ?_
            exact congrArg Value.bool ((mayB_iff hx1).2 ⟨by assumption, by first | (exact .inl (by simpa using (by assumption : (!x1.write) = false))) | (exact .inr ⟨by omega, by omega⟩), fun j b hb' hm => hn j b (by have := (List.getElem?_eq_some_iff.1 hb').1; omega) hb' hm⟩).symm
    · refine Gq.skipg rfl rfl rfl rfl rfl rfl ?_
      refine Gq.skipg rfl rfl rfl rfl rfl rfl ?_
      refine Gq.skipg rfl rfl rfl rfl rfl rfl ?_
      refine Gq.skipg rfl rfl rfl rfl rfl rfl ?_
      refine Gq.skipu rfl rfl rfl rfl rfl ?_
      refine Gq.skipu rfl rfl rfl rfl rfl ?_
      refine Gq.skipu rfl rfl rfl rfl rfl ?_
      refine Gq.skipu rfl rfl rfl rfl rfl ?_
      refine Gq.skipu rfl rfl rfl rfl rfl ?_
      refine Gq.skipu rfl rfl rfl rfl rfl ?_
      refine Gq.skipu rfl rfl rfl rfl rfl ?_
      refine Gq.skipu rfl rfl rfl rfl rfl ?_
      refine Gq.skipu rfl rfl rfl rfl rfl ?_
      refine Gq.skipu rfl rfl rfl rfl rfl ?_
      refine Gq.skipg rfl rfl rfl rfl rfl rfl ?_
      refine Gq.valg rfl rfl rfl rfl rfl (val_pickF rfl rfl rfl) ?_
      refine Gq.val rfl rfl rfl (val_pickF rfl rfl rfl) ?_
      refine Gq.done ?_
      refine Gx.thenN ?_
      refine Gx.f rfl ?_
      refine Gx.skip ?_
      refine Gx.thenN ?_
      refine Gx.seq ?_
      refine Gx.seq ?_
      refine Gx.region ?_
      refine Gx.val rfl rfl rfl (val_move rfl rfl) ?_
      refine Gx.val rfl rfl rfl (val_nilCheck rfl rfl) ?_
      refine Gx.val rfl rfl rfl (Val.cast (val_fieldAddr rfl Try.underlying59 rfl Try.ty26 rfl rfl) (v' := ptr S 0) rfl) ?_
      refine Gx.val rfl rfl rfl (val_load rfl Try.ty26 rfl rfl (cell_old hb hc0)) ?_
      refine Gx.val rfl rfl rfl (val_len rfl Try.underlying26 rfl (len_base hs)) ?_
      refine Gx.val rfl rfl rfl (val_move rfl rfl) ?_
      refine Gx.done ?_
      refine Gx.thenN ?_
      refine Gx.block ?_
      refine Gx.loop (ι := Nat) (fun ξ => (ξ ≤ h.length) ∧ (∀ (j : Nat) (b : Op), j < ξ → h[j]? = some b → ¬ j ∈ l → ¬ aheadB b x1 = true)) (fun ξ => [(0, ptr S 0), (1, .int .i64 ((i : Nat) : Int)), (5, ptr b2 0), (48, hv), (49, .int .i64 ((h.length : Nat) : Int)), (50, .int .i64 ((ξ : Nat) : Int))]) (fun ξ => [Hp.rec_ b2 [.int .i64 x1.who, .int .i64 x1.reg, .bool x1.write, .int .i64 x1.val, .int .i64 x1.fr, .int .i64 x1.to]]) (fun ξ => h.length - ξ) 0 ⟨by first | omega | (dsimp only; omega), fun j b hj => by omega⟩ ((.cons rfl (.cons rfl (.cons rfl (.cons rfl (.cons rfl (.cons rfl .nil))))))) rfl ?_
      rintro k ⟨hk, hn⟩
      refine Gx.know (m' := [(0, ptr S 0), (1, .int .i64 ((i : Nat) : Int)), (5, ptr b2 0), (48, hv), (49, .int .i64 ((h.length : Nat) : Int)), (50, .int .i64 ((k : Nat) : Int))]) (.cons rfl (.cons rfl (.cons rfl (.cons rfl (.cons rfl (.cons rfl .nil)))))) (Gx.norm (l' := [Hp.rec_ b2 [.int .i64 x1.who, .int .i64 x1.reg, .bool x1.write, .int .i64 x1.val, .int .i64 x1.fr, .int .i64 x1.to]]) rfl ?_)
      refine Gx.seq ?_
      refine Gx.region ?_
      refine Gx.val rfl rfl rfl (val_lss rfl rfl rfl) ?_
      refine Gx.done ?_
      refine Gx.thenN ?_
      refine Gx.seq ?_
      refine Gx.dec rfl (fun h12 => ?_) (fun h12 => ?_)
      · refine Gx.skip ?_
        refine Gx.thenN ?_
        refine Gx.seq ?_
        refine Gx.block ?_
        refine Gx.seq ?_
        refine Gx.region ?_
        refine Gx.val rfl rfl rfl (val_move rfl rfl) ?_
        obtain ⟨x13, hx13⟩ := get_of_lt (xs := h) (k := k) (by omega)
        refine Gx.val rfl rfl rfl (val_ixa rfl Try.underlying26 Try.ty33 rfl rfl (j := k) (rfl) (reach_base hs hx13)) ?_
        refine Gx.val rfl rfl rfl (Val.cast (val_loadA rfl Try.ty33 rfl rfl rfl (cells_base hs hx13)) (v' := .agg #[.int .i64 x13.who, .int .i64 x13.reg, .bool x13.write, .int .i64 x13.val, .int .i64 x13.fr, .int .i64 x13.to]) rfl) ?_
        refine Gx.eff rfl rfl rfl (eff_alloc rfl Try.ty33 (vs := [.int .i64 0, .int .i64 0, .bool false, .int .i64 0, .int .i64 0, .int .i64 0]) rfl) ?_
        rintro _ _ ⟨b14, rfl, rfl⟩
        refine Gx.val rfl rfl rfl (val_assign rfl rfl) ?_
        refine Gx.eff0 rfl rfl (eff_store rfl Try.ty33 rfl rfl (us := [.int .i64 x13.who, .int .i64 x13.reg, .bool x13.write, .int .i64 x13.val, .int .i64 x13.fr, .int .i64 x13.to]) rfl rfl rfl (k := 0) rfl (rfl) (vs' := [.int .i64 x13.who, .int .i64 x13.reg, .bool x13.write, .int .i64 x13.val, .int .i64 x13.fr, .int .i64 x13.to]) (rfl) (l' := [Hp.rec_ b14 [.int .i64 x13.who, .int .i64 x13.reg, .bool x13.write, .int .i64 x13.val, .int .i64 x13.fr, .int .i64 x13.to], Hp.rec_ b2 [.int .i64 x1.who, .int .i64 x1.reg, .bool x1.write, .int .i64 x1.val, .int .i64 x1.fr, .int .i64 x1.to]]) rfl) ?_
        rintro _ _ rfl
        refine Gx.done ?_
        refine Gx.thenN ?_
        refine Gx.seq ?_
        refine Gx.region ?_
        refine Gx.val rfl rfl rfl (val_move rfl rfl) ?_
        refine Gx.val rfl rfl rfl (val_nilCheck rfl rfl) ?_
        refine Gx.val rfl rfl rfl (Val.cast (val_fieldAddr rfl Try.underlying59 rfl Try.ty52 rfl rfl) (v' := ptr S 1) rfl) ?_
        refine Gx.val rfl rfl rfl (val_load rfl Try.ty52 rfl rfl (cell_old hb hc1)) ?_
        refine Gx.val rfl rfl rfl (val_move rfl rfl) ?_
        refine Gx.val rfl rfl rfl (val_shr (b := k) rfl rfl rfl rfl (by show k ≤ 32; omega) (shr32 _ _)) ?_
        refine Gx.val rfl rfl rfl (val_and rfl rfl rfl (and_mk k hmk)) ?_
        refine Gx.val rfl rfl rfl (Val.cast (val_eql rfl rfl rfl) (v' := .bool (decide (¬ k ∈ l))) (mem0 k l)) ?_
        refine Gx.val rfl rfl rfl (val_move rfl rfl) ?_
        refine Gx.cases (t := 63) rfl (fun h15 => ?_) (fun h15 => ?_)
        · refine Gx.valg rfl rfl rfl rfl rfl (Val.cast (val_loadA rfl Try.ty33 rfl rfl rfl (cells_rec (k := 0) rfl)) (v' := .agg #[.int .i64 x13.who, .int .i64 x13.reg, .bool x13.write, .int .i64 x13.val, .int .i64 x13.fr, .int .i64 x13.to]) rfl) ?_
          refine Gx.valg rfl rfl rfl rfl rfl (Val.cast (val_loadA rfl Try.ty33 rfl rfl rfl (cells_rec (k := 1) rfl)) (v' := .agg #[.int .i64 x1.who, .int .i64 x1.reg, .bool x1.write, .int .i64 x1.val, .int .i64 x1.fr, .int .i64 x1.to]) rfl) ?_
          refine Gx.valg rfl rfl rfl rfl rfl (val_call (vs := [.agg #[.int .i64 x13.who, .int .i64 x13.reg, .bool x13.write, .int .i64 x13.val, .int .i64 x13.fr, .int .i64 x13.to], .agg #[.int .i64 x1.who, .int .i64 x1.reg, .bool x1.write, .int .i64 x1.val, .int .i64 x1.fr, .int .i64 x1.to]]) rfl Try.fn17 rfl (fun w H => ahead17 x13 x1 _)) ?_
          refine Gx.val rfl rfl rfl (val_pickT rfl rfl rfl) ?_
          refine Gx.done ?_
          refine Gx.thenN ?_
          refine Gx.bool rfl (fun h16 => ?_) (fun h16 => ?_)
          · refine Gx.seq ?_
            refine Gx.region ?_
            refine Gx.val rfl rfl rfl (val_assign rfl rfl) ?_
            refine Gx.done ?_
            refine Gx.thenN ?_
            refine Gx.ret ?_
            refine Gx.blkR ?_
            refine Gx.thenR ?_
            refine Gx.thenR ?_
            refine Gx.blkR ?_
            refine Gx.thenR ?_
            refine Gx.ret1 Try.results19 rfl ?_
            exact congrArg Value.bool (Bool.eq_false_iff.2 fun hm => by have q := (mayB_iff hx1).1 hm; rcases q with ⟨q1, q2, q3⟩; exact q3 _ _ hx13 (by assumption) (by assumption)).symm
          · refine Gx.skip ?_
            refine Gx.blkN ?_
            refine Gx.thenN ?_
            refine Gx.region ?_
            refine Gx.val rfl rfl rfl (val_add rfl rfl rfl (r := ((k + 1 : Nat) : Int)) (w64 (by omega) (by omega))) ?_
            refine Gx.val rfl rfl rfl (val_move rfl rfl) ?_
            refine Gx.done ?_
            refine Gx.thenN ?_
            refine Gx.drop 0 rfl ?_
            exact Gx.round (k + 1) ⟨by first | omega | (dsimp only; omega), fun j b hj hb' hm => by rcases Nat.lt_or_eq_of_le (Nat.le_of_lt_succ hj) with hj | rfl; (exact hn j b hj hb' hm); (have e := hx13.symm.trans hb'; cases e; simp_all)⟩ (by first | omega | (dsimp only; omega)) ((.cons rfl (.cons rfl (.cons rfl (.cons rfl (.cons rfl (.cons rfl .nil))))))) rfl
        · refine Gx.skipg rfl rfl rfl rfl rfl rfl ?_
          refine Gx.skipg rfl rfl rfl rfl rfl rfl ?_
          refine Gx.skipg rfl rfl rfl rfl rfl rfl ?_
          refine Gx.val rfl rfl rfl (val_pickF rfl rfl rfl) ?_
          refine Gx.done ?_
          refine Gx.thenN ?_
          refine Gx.f rfl ?_
          refine Gx.skip ?_
          refine Gx.blkN ?_
          refine Gx.thenN ?_
          refine Gx.region ?_
          refine Gx.val rfl rfl rfl (val_add rfl rfl rfl (r := ((k + 1 : Nat) : Int)) (w64 (by omega) (by omega))) ?_
          refine Gx.val rfl rfl rfl (val_move rfl rfl) ?_
          refine Gx.done ?_
          refine Gx.thenN ?_
          refine Gx.drop 0 rfl ?_
          exact Gx.round (k + 1) ⟨by first | omega | (dsimp only; omega), fun j b hj hb' hm => by rcases Nat.lt_or_eq_of_le (Nat.le_of_lt_succ hj) with hj | rfl; (exact hn j b hj hb' hm); (have e := hx13.symm.trans hb'; cases e; simp_all)⟩ (by first | omega | (dsimp only; omega)) ((.cons rfl (.cons rfl (.cons rfl (.cons rfl (.cons rfl (.cons rfl .nil))))))) rfl
      · refine Gx.exit ?_
        refine Gx.thenE ?_
        refine Gx.thenE ?_
        refine Gx.blkE ?_
        refine Gx.thenN ?_
        refine Gx.seq ?_
        refine Gx.region ?_
        refine Gx.val rfl rfl rfl (val_assign rfl rfl) ?_
        refine Gx.done ?_
        refine Gx.thenN ?_
        refine Gx.ret ?_
        refine Gx.ret1 Try.results19 rfl ?_
        exact congrArg Value.bool ((mayB_iff hx1).2 ⟨by assumption, by first | (exact .inl (by simpa using (by assumption : (!x1.write) = false))) | (exact .inr ⟨by omega, by omega⟩), fun j b hb' hm => hn j b (by have := (List.getElem?_eq_some_iff.1 hb').1; omega) hb' hm⟩).symm

end Go.Proofs.Ytjiefamdpbnngaa.Lin
