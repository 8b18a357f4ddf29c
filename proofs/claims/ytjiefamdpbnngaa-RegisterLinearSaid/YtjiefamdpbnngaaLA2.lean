/- May ops be a history? The walks. No condition. -/
import Derived.Test.YtjiefamdpbnngaaLA1
namespace Go.Proofs.Ytjiefamdpbnngaa.Lin
open Go.RowKit
set_option linter.unusedVariables false
set_option linter.unusedSimpArgs false
set_option maxRecDepth 100000

theorem check12 {W : World} {hv : Value} {h : List Op} (hs : SlS FO 6 W hv h) :
    Calls Try.prog 12 #[hv] W fun e w' => ∃ v, e = .returned v ∧ (∃ c : Int, v = .int .i64 c ∧ (c = 0 ↔ OkH h)) ∧ Below W.heap.size W w' := by
  have hlen := sls_bd hs
  refine calls_rel (R := fun v => ∃ c : Int, v = .int .i64 c ∧ (c = 0 ↔ OkH h)) (Gx.enter (l := []) Try.func12 rfl Try.ntmps12 rfl (Sat.start W) ?_)
  refine Gx.know (m' := [(0, hv)]) (.cons rfl .nil) ?_
  refine Gx.seq ?_
  refine Gx.region ?_
  refine Gx.val rfl rfl rfl (val_assign rfl rfl) ?_
  refine Gx.done ?_
  refine Gx.thenN ?_
  refine Gx.seq ?_
  refine Gx.seq ?_
  refine Gx.region ?_
  refine Gx.val rfl rfl rfl (val_move rfl rfl) ?_
  refine Gx.val rfl rfl rfl (val_len rfl Try.underlying26 rfl (len_base hs)) ?_
  refine Gx.val rfl rfl rfl (val_gtr rfl rfl rfl) ?_
  refine Gx.done ?_
  refine Gx.thenN ?_
  refine Gx.dec rfl (fun h1 => ?_) (fun h1 => ?_)
  · refine Gx.seq ?_
    refine Gx.region ?_
    refine Gx.val rfl rfl rfl (val_assign rfl rfl) ?_
    refine Gx.done ?_
    refine Gx.thenN ?_
    refine Gx.ret ?_
    refine Gx.thenR ?_
    refine Gx.ret1 Try.results12 rfl ?_
    exact ⟨_, rfl, fun e => absurd e (by decide), fun hk => by exfalso; have := hk.len; omega⟩
  · refine Gx.skip ?_
    refine Gx.thenN ?_
    refine Gx.seq ?_
    refine Gx.seq ?_
    refine Gx.region ?_
    refine Gx.val rfl rfl rfl (val_move rfl rfl) ?_
    refine Gx.val rfl rfl rfl (val_len rfl Try.underlying26 rfl (len_base hs)) ?_
    refine Gx.val rfl rfl rfl (val_move rfl rfl) ?_
    refine Gx.done ?_
    refine Gx.thenN ?_
    refine Gx.block ?_
    refine Gx.loop (ι := Nat) (fun ξ => (ξ ≤ h.length) ∧ (∀ (i : Nat) (a : Op), i < ξ → h[i]? = some a → 0 ≤ a.reg ∧ a.reg < 4 ∧ 0 ≤ a.fr ∧ (a.to = -1 ∨ a.fr < a.to)) ∧ (∀ (i j : Nat) (a b : Op), i < ξ → h[i]? = some a → h[j]? = some b → i ≠ j → a.who = b.who → aheadB a b = true ∨ aheadB b a = true)) (fun ξ => [(0, hv), (10, hv), (11, .int .i64 ((h.length : Nat) : Int)), (12, .int .i64 ((ξ : Nat) : Int))]) (fun ξ => []) (fun ξ => h.length - ξ) 0 ⟨by first | omega | (dsimp only; omega), fun i a hi => by omega, fun i j a b hi => by omega⟩ ((.cons rfl (.cons rfl (.cons rfl (.cons rfl .nil))))) rfl ?_
    rintro k ⟨hk, hr, ht⟩
    refine Gx.know (m' := [(0, hv), (10, hv), (11, .int .i64 ((h.length : Nat) : Int)), (12, .int .i64 ((k : Nat) : Int))]) (.cons rfl (.cons rfl (.cons rfl (.cons rfl .nil)))) (Gx.norm (l' := []) rfl ?_)
    refine Gx.seq ?_
    refine Gx.region ?_
    refine Gx.val rfl rfl rfl (val_lss rfl rfl rfl) ?_
    refine Gx.done ?_
    refine Gx.thenN ?_
    refine Gx.seq ?_
    refine Gx.dec rfl (fun h2 => ?_) (fun h2 => ?_)
    · refine Gx.skip ?_
      refine Gx.thenN ?_
      refine Gx.seq ?_
      refine Gx.block ?_
      refine Gx.seq ?_
      refine Gx.region ?_
      refine Gx.val rfl rfl rfl (val_move rfl rfl) ?_
      obtain ⟨x3, hx3⟩ := get_of_lt (xs := h) (k := k) (by omega)
      refine Gx.val rfl rfl rfl (val_ixa rfl Try.underlying26 Try.ty33 rfl rfl (j := k) (rfl) (reach_base hs hx3)) ?_
      refine Gx.val rfl rfl rfl (Val.cast (val_loadA rfl Try.ty33 rfl rfl rfl (cells_base hs hx3)) (v' := .agg #[.int .i64 x3.who, .int .i64 x3.reg, .bool x3.write, .int .i64 x3.val, .int .i64 x3.fr, .int .i64 x3.to]) rfl) ?_
      refine Gx.eff rfl rfl rfl (eff_alloc rfl Try.ty33 (vs := [.int .i64 0, .int .i64 0, .bool false, .int .i64 0, .int .i64 0, .int .i64 0]) rfl) ?_
      rintro _ _ ⟨b4, rfl, rfl⟩
      refine Gx.val rfl rfl rfl (val_assign rfl rfl) ?_
      refine Gx.eff0 rfl rfl (eff_store rfl Try.ty33 rfl rfl (us := [.int .i64 x3.who, .int .i64 x3.reg, .bool x3.write, .int .i64 x3.val, .int .i64 x3.fr, .int .i64 x3.to]) rfl rfl rfl (k := 0) rfl (rfl) (vs' := [.int .i64 x3.who, .int .i64 x3.reg, .bool x3.write, .int .i64 x3.val, .int .i64 x3.fr, .int .i64 x3.to]) (rfl) (l' := [Hp.rec_ b4 [.int .i64 x3.who, .int .i64 x3.reg, .bool x3.write, .int .i64 x3.val, .int .i64 x3.fr, .int .i64 x3.to]]) rfl) ?_
      rintro _ _ rfl
      refine Gx.done ?_
      refine Gx.thenN ?_
      refine Gx.seq ?_
      refine Gx.seq ?_
      refine Gx.region ?_
      refine Gx.val rfl rfl rfl (Val.cast (val_fieldAddr rfl Try.underlying33 rfl Try.ty3 rfl rfl) (v' := ptr b4 1) rfl) ?_
      refine Gx.val rfl rfl rfl (val_load rfl Try.ty3 rfl rfl (cell_rec (k := 0) rfl rfl)) ?_
      refine Gx.val rfl rfl rfl (val_lss rfl rfl rfl) ?_
      refine Gx.val rfl rfl rfl (val_move rfl rfl) ?_
      refine Gx.cases (t := 20) rfl (fun h5 => ?_) (fun h5 => ?_)
      · refine Gx.skipg rfl rfl rfl rfl rfl rfl ?_
        refine Gx.skipg rfl rfl rfl rfl rfl rfl ?_
        refine Gx.skipg rfl rfl rfl rfl rfl rfl ?_
        refine Gx.val rfl rfl rfl (val_pickT rfl rfl rfl) ?_
        refine Gx.val rfl rfl rfl (val_move rfl rfl) ?_
        refine Gx.skipg rfl rfl rfl rfl rfl rfl ?_
        refine Gx.skipg rfl rfl rfl rfl rfl rfl ?_
        refine Gx.skipg rfl rfl rfl rfl rfl rfl ?_
        refine Gx.val rfl rfl rfl (val_pickT rfl rfl rfl) ?_
        refine Gx.val rfl rfl rfl (val_move rfl rfl) ?_
        refine Gx.skipg rfl rfl rfl rfl rfl rfl ?_
        refine Gx.skipg rfl rfl rfl rfl rfl rfl ?_
        refine Gx.skipg rfl rfl rfl rfl rfl rfl ?_
        refine Gx.skipg rfl rfl rfl rfl rfl rfl ?_
        refine Gx.skipu rfl rfl rfl rfl rfl ?_
        refine Gx.skipu rfl rfl rfl rfl rfl ?_
        refine Gx.skipu rfl rfl rfl rfl rfl ?_
        refine Gx.skipu rfl rfl rfl rfl rfl ?_
        refine Gx.skipu rfl rfl rfl rfl rfl ?_
        refine Gx.skipg rfl rfl rfl rfl rfl rfl ?_
        refine Gx.val rfl rfl rfl (val_pickT rfl rfl rfl) ?_
        refine Gx.done ?_
        refine Gx.thenN ?_
        refine Gx.t rfl ?_
        refine Gx.seq ?_
        refine Gx.region ?_
        refine Gx.val rfl rfl rfl (val_assign rfl rfl) ?_
        refine Gx.done ?_
        refine Gx.thenN ?_
        refine Gx.ret ?_
        refine Gx.thenR ?_
        refine Gx.blkR ?_
        refine Gx.thenR ?_
        refine Gx.thenR ?_
        refine Gx.blkR ?_
        refine Gx.thenR ?_
        refine Gx.ret1 Try.results12 rfl ?_
        exact ⟨_, rfl, fun e => absurd e (by decide), fun hk => by exfalso; have := hk.reg _ _ hx3; omega⟩
      · refine Gx.valg rfl rfl rfl rfl rfl (Val.cast (val_fieldAddr rfl Try.underlying33 rfl Try.ty3 rfl rfl) (v' := ptr b4 1) rfl) ?_
        refine Gx.valg rfl rfl rfl rfl rfl (val_load rfl Try.ty3 rfl rfl (cell_rec (k := 0) rfl rfl)) ?_
        refine Gx.valg rfl rfl rfl rfl rfl (val_geq rfl rfl rfl) ?_
        refine Gx.val rfl rfl rfl (val_pickF rfl rfl rfl) ?_
        refine Gx.val rfl rfl rfl (val_move rfl rfl) ?_
        refine Gx.cases (t := 25) rfl (fun h6 => ?_) (fun h6 => ?_)
        · refine Gx.skipg rfl rfl rfl rfl rfl rfl ?_
          refine Gx.skipg rfl rfl rfl rfl rfl rfl ?_
          refine Gx.skipg rfl rfl rfl rfl rfl rfl ?_
          refine Gx.val rfl rfl rfl (val_pickT rfl rfl rfl) ?_
          refine Gx.val rfl rfl rfl (val_move rfl rfl) ?_
          refine Gx.skipg rfl rfl rfl rfl rfl rfl ?_
          refine Gx.skipg rfl rfl rfl rfl rfl rfl ?_
          refine Gx.skipg rfl rfl rfl rfl rfl rfl ?_
          refine Gx.skipg rfl rfl rfl rfl rfl rfl ?_
          refine Gx.skipu rfl rfl rfl rfl rfl ?_
          refine Gx.skipu rfl rfl rfl rfl rfl ?_
          refine Gx.skipu rfl rfl rfl rfl rfl ?_
          refine Gx.skipu rfl rfl rfl rfl rfl ?_
          refine Gx.skipu rfl rfl rfl rfl rfl ?_
          refine Gx.skipg rfl rfl rfl rfl rfl rfl ?_
          refine Gx.val rfl rfl rfl (val_pickT rfl rfl rfl) ?_
          refine Gx.done ?_
          refine Gx.thenN ?_
          refine Gx.t rfl ?_
          refine Gx.seq ?_
          refine Gx.region ?_
          refine Gx.val rfl rfl rfl (val_assign rfl rfl) ?_
          refine Gx.done ?_
          refine Gx.thenN ?_
          refine Gx.ret ?_
          refine Gx.thenR ?_
          refine Gx.blkR ?_
          refine Gx.thenR ?_
          refine Gx.thenR ?_
          refine Gx.blkR ?_
          refine Gx.thenR ?_
          refine Gx.ret1 Try.results12 rfl ?_
          exact ⟨_, rfl, fun e => absurd e (by decide), fun hk => by exfalso; have := hk.reg _ _ hx3; omega⟩
        · refine Gx.valg rfl rfl rfl rfl rfl (Val.cast (val_fieldAddr rfl Try.underlying33 rfl Try.ty3 rfl rfl) (v' := ptr b4 4) rfl) ?_
          refine Gx.valg rfl rfl rfl rfl rfl (val_load rfl Try.ty3 rfl rfl (cell_rec (k := 0) rfl rfl)) ?_
          refine Gx.valg rfl rfl rfl rfl rfl (val_lss rfl rfl rfl) ?_
          refine Gx.val rfl rfl rfl (val_pickF rfl rfl rfl) ?_
          refine Gx.val rfl rfl rfl (val_move rfl rfl) ?_
          refine Gx.cases (t := 30) rfl (fun h7 => ?_) (fun h7 => ?_)
          · refine Gx.skipg rfl rfl rfl rfl rfl rfl ?_
            refine Gx.skipg rfl rfl rfl rfl rfl rfl ?_
            refine Gx.skipg rfl rfl rfl rfl rfl rfl ?_
            refine Gx.skipg rfl rfl rfl rfl rfl rfl ?_
            refine Gx.skipu rfl rfl rfl rfl rfl ?_
            refine Gx.skipu rfl rfl rfl rfl rfl ?_
            refine Gx.skipu rfl rfl rfl rfl rfl ?_
            refine Gx.skipu rfl rfl rfl rfl rfl ?_
            refine Gx.skipu rfl rfl rfl rfl rfl ?_
            refine Gx.skipg rfl rfl rfl rfl rfl rfl ?_
            refine Gx.val rfl rfl rfl (val_pickT rfl rfl rfl) ?_
            refine Gx.done ?_
            refine Gx.thenN ?_
            refine Gx.t rfl ?_
            refine Gx.seq ?_
            refine Gx.region ?_
            refine Gx.val rfl rfl rfl (val_assign rfl rfl) ?_
            refine Gx.done ?_
            refine Gx.thenN ?_
            refine Gx.ret ?_
            refine Gx.thenR ?_
            refine Gx.blkR ?_
            refine Gx.thenR ?_
            refine Gx.thenR ?_
            refine Gx.blkR ?_
            refine Gx.thenR ?_
            refine Gx.ret1 Try.results12 rfl ?_
            exact ⟨_, rfl, fun e => absurd e (by decide), fun hk => by exfalso; have := hk.reg _ _ hx3; omega⟩
          · refine Gx.valg rfl rfl rfl rfl rfl (Val.cast (val_fieldAddr rfl Try.underlying33 rfl Try.ty3 rfl rfl) (v' := ptr b4 5) rfl) ?_
            refine Gx.valg rfl rfl rfl rfl rfl (val_load rfl Try.ty3 rfl rfl (cell_rec (k := 0) rfl rfl)) ?_
            refine Gx.valg rfl rfl rfl rfl rfl (val_neq rfl rfl rfl) ?_
            refine Gx.valg rfl rfl rfl rfl rfl (val_move rfl rfl) ?_
            refine Gx.cases (t := 34) rfl (fun h8 => ?_) (fun h8 => ?_)
            · refine Gx.valg rfl rfl rfl rfl rfl (Val.cast (val_fieldAddr rfl Try.underlying33 rfl Try.ty3 rfl rfl) (v' := ptr b4 5) rfl) ?_
              refine Gx.valg rfl rfl rfl rfl rfl (val_load rfl Try.ty3 rfl rfl (cell_rec (k := 0) rfl rfl)) ?_
              refine Gx.valg rfl rfl rfl rfl rfl (Val.cast (val_fieldAddr rfl Try.underlying33 rfl Try.ty3 rfl rfl) (v' := ptr b4 4) rfl) ?_
              refine Gx.valg rfl rfl rfl rfl rfl (val_load rfl Try.ty3 rfl rfl (cell_rec (k := 0) rfl rfl)) ?_
              refine Gx.valg rfl rfl rfl rfl rfl (val_leq rfl rfl rfl) ?_
              refine Gx.valg rfl rfl rfl rfl rfl (val_pickT rfl rfl rfl) ?_
              refine Gx.val rfl rfl rfl (val_pickF rfl rfl rfl) ?_
              refine Gx.done ?_
              refine Gx.thenN ?_
              refine Gx.dec rfl (fun h9 => ?_) (fun h9 => ?_)
              · refine Gx.seq ?_
                refine Gx.region ?_
                refine Gx.val rfl rfl rfl (val_assign rfl rfl) ?_
                refine Gx.done ?_
                refine Gx.thenN ?_
                refine Gx.ret ?_
                refine Gx.thenR ?_
                refine Gx.blkR ?_
                refine Gx.thenR ?_
                refine Gx.thenR ?_
                refine Gx.blkR ?_
                refine Gx.thenR ?_
                refine Gx.ret1 Try.results12 rfl ?_
                exact ⟨_, rfl, fun e => absurd e (by decide), fun hk => by exfalso; have := hk.reg _ _ hx3; omega⟩
              · refine Gx.skip ?_
                refine Gx.thenN ?_
                refine Gx.seq ?_
                refine Gx.region ?_
                refine Gx.val rfl rfl rfl (val_move rfl rfl) ?_
                refine Gx.val rfl rfl rfl (val_len rfl Try.underlying26 rfl (len_base hs)) ?_
                refine Gx.val rfl rfl rfl (val_move rfl rfl) ?_
                refine Gx.done ?_
                refine Gx.thenN ?_
                refine Gx.block ?_
                have hxk := hx3
                refine Gx.loop (ι := Nat) (fun ξ => (ξ ≤ h.length) ∧ (∀ (j : Nat) (b : Op), j < ξ → h[j]? = some b → k ≠ j → x3.who = b.who → aheadB x3 b = true ∨ aheadB b x3 = true)) (fun ξ => [(0, hv), (3, .int .i64 ((k : Nat) : Int)), (4, ptr b4 0), (10, hv), (11, .int .i64 ((h.length : Nat) : Int)), (12, .int .i64 ((k : Nat) : Int)), (42, hv), (43, .int .i64 ((h.length : Nat) : Int)), (44, .int .i64 ((ξ : Nat) : Int))]) (fun ξ => [Hp.rec_ b4 [.int .i64 x3.who, .int .i64 x3.reg, .bool x3.write, .int .i64 x3.val, .int .i64 x3.fr, .int .i64 x3.to]]) (fun ξ => h.length - ξ) 0 ⟨by first | omega | (dsimp only; omega), fun j b hj => by omega⟩ ((.cons rfl (.cons rfl (.cons rfl (.cons rfl (.cons rfl (.cons rfl (.cons rfl (.cons rfl (.cons rfl .nil)))))))))) rfl ?_
                rintro q ⟨hqk, hq⟩
                refine Gx.know (m' := [(0, hv), (3, .int .i64 ((k : Nat) : Int)), (4, ptr b4 0), (10, hv), (11, .int .i64 ((h.length : Nat) : Int)), (12, .int .i64 ((k : Nat) : Int)), (42, hv), (43, .int .i64 ((h.length : Nat) : Int)), (44, .int .i64 ((q : Nat) : Int))]) (.cons rfl (.cons rfl (.cons rfl (.cons rfl (.cons rfl (.cons rfl (.cons rfl (.cons rfl (.cons rfl .nil))))))))) (Gx.norm (l' := [Hp.rec_ b4 [.int .i64 x3.who, .int .i64 x3.reg, .bool x3.write, .int .i64 x3.val, .int .i64 x3.fr, .int .i64 x3.to]]) rfl ?_)
                refine Gx.seq ?_
                refine Gx.region ?_
                refine Gx.val rfl rfl rfl (val_lss rfl rfl rfl) ?_
                refine Gx.done ?_
                refine Gx.thenN ?_
                refine Gx.seq ?_
                refine Gx.dec rfl (fun h10 => ?_) (fun h10 => ?_)
                · refine Gx.skip ?_
                  refine Gx.thenN ?_
                  refine Gx.seq ?_
                  refine Gx.block ?_
                  refine Gx.seq ?_
                  refine Gx.region ?_
                  refine Gx.val rfl rfl rfl (val_move rfl rfl) ?_
                  obtain ⟨x11, hx11⟩ := get_of_lt (xs := h) (k := q) (by omega)
                  refine Gx.val rfl rfl rfl (val_ixa rfl Try.underlying26 Try.ty33 rfl rfl (j := q) (rfl) (reach_base hs hx11)) ?_
                  refine Gx.val rfl rfl rfl (Val.cast (val_loadA rfl Try.ty33 rfl rfl rfl (cells_base hs hx11)) (v' := .agg #[.int .i64 x11.who, .int .i64 x11.reg, .bool x11.write, .int .i64 x11.val, .int .i64 x11.fr, .int .i64 x11.to]) rfl) ?_
                  refine Gx.eff rfl rfl rfl (eff_alloc rfl Try.ty33 (vs := [.int .i64 0, .int .i64 0, .bool false, .int .i64 0, .int .i64 0, .int .i64 0]) rfl) ?_
                  rintro _ _ ⟨b12, rfl, rfl⟩
                  refine Gx.val rfl rfl rfl (val_assign rfl rfl) ?_
                  refine Gx.eff0 rfl rfl (eff_store rfl Try.ty33 rfl rfl (us := [.int .i64 x11.who, .int .i64 x11.reg, .bool x11.write, .int .i64 x11.val, .int .i64 x11.fr, .int .i64 x11.to]) rfl rfl rfl (k := 0) rfl (rfl) (vs' := [.int .i64 x11.who, .int .i64 x11.reg, .bool x11.write, .int .i64 x11.val, .int .i64 x11.fr, .int .i64 x11.to]) (rfl) (l' := [Hp.rec_ b12 [.int .i64 x11.who, .int .i64 x11.reg, .bool x11.write, .int .i64 x11.val, .int .i64 x11.fr, .int .i64 x11.to], Hp.rec_ b4 [.int .i64 x3.who, .int .i64 x3.reg, .bool x3.write, .int .i64 x3.val, .int .i64 x3.fr, .int .i64 x3.to]]) rfl) ?_
                  rintro _ _ rfl
                  refine Gx.done ?_
                  refine Gx.thenN ?_
                  refine Gx.seq ?_
                  refine Gx.region ?_
                  refine Gx.val rfl rfl rfl (val_move rfl rfl) ?_
                  refine Gx.val rfl rfl rfl (val_move rfl rfl) ?_
                  refine Gx.val rfl rfl rfl (val_neq rfl rfl rfl) ?_
                  refine Gx.val rfl rfl rfl (val_move rfl rfl) ?_
                  refine Gx.cases (t := 52) rfl (fun h13 => ?_) (fun h13 => ?_)
                  · refine Gx.valg rfl rfl rfl rfl rfl (Val.cast (val_fieldAddr rfl Try.underlying33 rfl Try.ty3 rfl rfl) (v' := ptr b4 0) rfl) ?_
                    refine Gx.valg rfl rfl rfl rfl rfl (val_load rfl Try.ty3 rfl rfl (cell_rec (k := 1) rfl rfl)) ?_
                    refine Gx.valg rfl rfl rfl rfl rfl (Val.cast (val_fieldAddr rfl Try.underlying33 rfl Try.ty3 rfl rfl) (v' := ptr b12 0) rfl) ?_
                    refine Gx.valg rfl rfl rfl rfl rfl (val_load rfl Try.ty3 rfl rfl (cell_rec (k := 0) rfl rfl)) ?_
                    refine Gx.valg rfl rfl rfl rfl rfl (val_eql rfl rfl rfl) ?_
                    refine Gx.val rfl rfl rfl (val_pickT rfl rfl rfl) ?_
                    refine Gx.val rfl rfl rfl (val_move rfl rfl) ?_
                    refine Gx.cases (t := 59) rfl (fun h14 => ?_) (fun h14 => ?_)
                    · refine Gx.valg rfl rfl rfl rfl rfl (Val.cast (val_loadA rfl Try.ty33 rfl rfl rfl (cells_rec (k := 1) rfl)) (v' := .agg #[.int .i64 x3.who, .int .i64 x3.reg, .bool x3.write, .int .i64 x3.val, .int .i64 x3.fr, .int .i64 x3.to]) rfl) ?_
                      refine Gx.valg rfl rfl rfl rfl rfl (Val.cast (val_loadA rfl Try.ty33 rfl rfl rfl (cells_rec (k := 0) rfl)) (v' := .agg #[.int .i64 x11.who, .int .i64 x11.reg, .bool x11.write, .int .i64 x11.val, .int .i64 x11.fr, .int .i64 x11.to]) rfl) ?_
                      refine Gx.valg rfl rfl rfl rfl rfl (val_call (vs := [.agg #[.int .i64 x3.who, .int .i64 x3.reg, .bool x3.write, .int .i64 x3.val, .int .i64 x3.fr, .int .i64 x3.to], .agg #[.int .i64 x11.who, .int .i64 x11.reg, .bool x11.write, .int .i64 x11.val, .int .i64 x11.fr, .int .i64 x11.to]]) rfl Try.fn17 rfl (fun w H => ahead17 x3 x11 _)) ?_
                      refine Gx.valg rfl rfl rfl rfl rfl (val_not rfl rfl) ?_
                      refine Gx.val rfl rfl rfl (val_pickT rfl rfl rfl) ?_
                      refine Gx.val rfl rfl rfl (val_move rfl rfl) ?_
                      refine Gx.casesB (t := 65) rfl (fun h15 => ?_) (fun h15 => ?_)
                      · refine Gx.valg rfl rfl rfl rfl rfl (Val.cast (val_loadA rfl Try.ty33 rfl rfl rfl (cells_rec (k := 0) rfl)) (v' := .agg #[.int .i64 x11.who, .int .i64 x11.reg, .bool x11.write, .int .i64 x11.val, .int .i64 x11.fr, .int .i64 x11.to]) rfl) ?_
                        refine Gx.valg rfl rfl rfl rfl rfl (Val.cast (val_loadA rfl Try.ty33 rfl rfl rfl (cells_rec (k := 1) rfl)) (v' := .agg #[.int .i64 x3.who, .int .i64 x3.reg, .bool x3.write, .int .i64 x3.val, .int .i64 x3.fr, .int .i64 x3.to]) rfl) ?_
                        refine Gx.valg rfl rfl rfl rfl rfl (val_call (vs := [.agg #[.int .i64 x11.who, .int .i64 x11.reg, .bool x11.write, .int .i64 x11.val, .int .i64 x11.fr, .int .i64 x11.to], .agg #[.int .i64 x3.who, .int .i64 x3.reg, .bool x3.write, .int .i64 x3.val, .int .i64 x3.fr, .int .i64 x3.to]]) rfl Try.fn17 rfl (fun w H => ahead17 x11 x3 _)) ?_
                        refine Gx.valg rfl rfl rfl rfl rfl (val_not rfl rfl) ?_
                        refine Gx.val rfl rfl rfl (val_pickT rfl rfl rfl) ?_
                        refine Gx.done ?_
                        refine Gx.thenN ?_
                        refine Gx.bool rfl (fun h16 => ?_) (fun h16 => ?_)
                        · refine Gx.seq ?_
                          refine Gx.region ?_
                          refine Gx.val rfl rfl rfl (val_assign rfl rfl) ?_
                          refine Gx.done ?_
                          refine Gx.thenN ?_
                          refine Gx.ret ?_
                          refine Gx.blkR ?_
                          refine Gx.thenR ?_
                          refine Gx.thenR ?_
                          refine Gx.blkR ?_
                          refine Gx.blkR ?_
                          refine Gx.thenR ?_
                          refine Gx.thenR ?_
                          refine Gx.blkR ?_
                          refine Gx.thenR ?_
                          refine Gx.ret1 Try.results12 rfl ?_
                          exact ⟨_, rfl, fun e => absurd e (by decide), fun hk => by exfalso; have := hk.two _ _ _ _ hx3 hx11 (by omega) (by omega); simp_all⟩
                        · refine Gx.skip ?_
                          refine Gx.blkN ?_
                          refine Gx.thenN ?_
                          refine Gx.region ?_
                          refine Gx.val rfl rfl rfl (val_add rfl rfl rfl (r := ((q + 1 : Nat) : Int)) (w64 (by omega) (by omega))) ?_
                          refine Gx.val rfl rfl rfl (val_move rfl rfl) ?_
                          refine Gx.done ?_
                          refine Gx.thenN ?_
                          refine Gx.drop 0 rfl ?_
                          exact Gx.round (q + 1) ⟨by first | omega | (dsimp only; omega), fun j b hj hb' hne hw => by rcases Nat.lt_or_eq_of_le (Nat.le_of_lt_succ hj) with hj | rfl; (exact hq j b hj hb' hne hw); (have e := hx11.symm.trans hb'; cases e; first | omega | simp_all)⟩ (by first | omega | (dsimp only; omega)) ((.cons rfl (.cons rfl (.cons rfl (.cons rfl (.cons rfl (.cons rfl (.cons rfl (.cons rfl (.cons rfl .nil)))))))))) rfl
                      · refine Gx.skipg rfl rfl rfl rfl rfl rfl ?_
                        refine Gx.skipg rfl rfl rfl rfl rfl rfl ?_
                        refine Gx.skipg rfl rfl rfl rfl rfl rfl ?_
                        refine Gx.skipg rfl rfl rfl rfl rfl rfl ?_
                        refine Gx.val rfl rfl rfl (val_pickF rfl rfl rfl) ?_
                        refine Gx.done ?_
                        refine Gx.thenN ?_
                        refine Gx.f rfl ?_
                        refine Gx.skip ?_
                        refine Gx.blkN ?_
                        refine Gx.thenN ?_
                        refine Gx.region ?_
                        refine Gx.val rfl rfl rfl (val_add rfl rfl rfl (r := ((q + 1 : Nat) : Int)) (w64 (by omega) (by omega))) ?_
                        refine Gx.val rfl rfl rfl (val_move rfl rfl) ?_
                        refine Gx.done ?_
                        refine Gx.thenN ?_
                        refine Gx.drop 0 rfl ?_
                        exact Gx.round (q + 1) ⟨by first | omega | (dsimp only; omega), fun j b hj hb' hne hw => by rcases Nat.lt_or_eq_of_le (Nat.le_of_lt_succ hj) with hj | rfl; (exact hq j b hj hb' hne hw); (have e := hx11.symm.trans hb'; cases e; first | omega | simp_all)⟩ (by first | omega | (dsimp only; omega)) ((.cons rfl (.cons rfl (.cons rfl (.cons rfl (.cons rfl (.cons rfl (.cons rfl (.cons rfl (.cons rfl .nil)))))))))) rfl
                    · refine Gx.skipg rfl rfl rfl rfl rfl rfl ?_
                      refine Gx.skipg rfl rfl rfl rfl rfl rfl ?_
                      refine Gx.skipg rfl rfl rfl rfl rfl rfl ?_
                      refine Gx.skipg rfl rfl rfl rfl rfl rfl ?_
                      refine Gx.val rfl rfl rfl (val_pickF rfl rfl rfl) ?_
                      refine Gx.val rfl rfl rfl (val_move rfl rfl) ?_
                      refine Gx.skipg rfl rfl rfl rfl rfl rfl ?_
                      refine Gx.skipg rfl rfl rfl rfl rfl rfl ?_
                      refine Gx.skipg rfl rfl rfl rfl rfl rfl ?_
                      refine Gx.skipg rfl rfl rfl rfl rfl rfl ?_
                      refine Gx.val rfl rfl rfl (val_pickF rfl rfl rfl) ?_
                      refine Gx.done ?_
                      refine Gx.thenN ?_
                      refine Gx.f rfl ?_
                      refine Gx.skip ?_
                      refine Gx.blkN ?_
                      refine Gx.thenN ?_
                      refine Gx.region ?_
                      refine Gx.val rfl rfl rfl (val_add rfl rfl rfl (r := ((q + 1 : Nat) : Int)) (w64 (by omega) (by omega))) ?_
                      refine Gx.val rfl rfl rfl (val_move rfl rfl) ?_
                      refine Gx.done ?_
                      refine Gx.thenN ?_
                      refine Gx.drop 0 rfl ?_
                      exact Gx.round (q + 1) ⟨by first | omega | (dsimp only; omega), fun j b hj hb' hne hw => by rcases Nat.lt_or_eq_of_le (Nat.le_of_lt_succ hj) with hj | rfl; (exact hq j b hj hb' hne hw); (have e := hx11.symm.trans hb'; cases e; first | omega | simp_all)⟩ (by first | omega | (dsimp only; omega)) ((.cons rfl (.cons rfl (.cons rfl (.cons rfl (.cons rfl (.cons rfl (.cons rfl (.cons rfl (.cons rfl .nil)))))))))) rfl
                  · refine Gx.skipg rfl rfl rfl rfl rfl rfl ?_
                    refine Gx.skipg rfl rfl rfl rfl rfl rfl ?_
                    refine Gx.skipg rfl rfl rfl rfl rfl rfl ?_
                    refine Gx.skipg rfl rfl rfl rfl rfl rfl ?_
                    refine Gx.skipg rfl rfl rfl rfl rfl rfl ?_
                    refine Gx.val rfl rfl rfl (val_pickF rfl rfl rfl) ?_
                    refine Gx.val rfl rfl rfl (val_move rfl rfl) ?_
                    refine Gx.skipg rfl rfl rfl rfl rfl rfl ?_
                    refine Gx.skipg rfl rfl rfl rfl rfl rfl ?_
                    refine Gx.skipg rfl rfl rfl rfl rfl rfl ?_
                    refine Gx.skipg rfl rfl rfl rfl rfl rfl ?_
                    refine Gx.val rfl rfl rfl (val_pickF rfl rfl rfl) ?_
                    refine Gx.val rfl rfl rfl (val_move rfl rfl) ?_
                    refine Gx.skipg rfl rfl rfl rfl rfl rfl ?_
                    refine Gx.skipg rfl rfl rfl rfl rfl rfl ?_
                    refine Gx.skipg rfl rfl rfl rfl rfl rfl ?_
                    refine Gx.skipg rfl rfl rfl rfl rfl rfl ?_
                    refine Gx.val rfl rfl rfl (val_pickF rfl rfl rfl) ?_
                    refine Gx.done ?_
                    refine Gx.thenN ?_
                    refine Gx.f rfl ?_
                    refine Gx.skip ?_
                    refine Gx.blkN ?_
                    refine Gx.thenN ?_
                    refine Gx.region ?_
                    refine Gx.val rfl rfl rfl (val_add rfl rfl rfl (r := ((q + 1 : Nat) : Int)) (w64 (by omega) (by omega))) ?_
                    refine Gx.val rfl rfl rfl (val_move rfl rfl) ?_
                    refine Gx.done ?_
                    refine Gx.thenN ?_
                    refine Gx.drop 0 rfl ?_
                    exact Gx.round (q + 1) ⟨by first | omega | (dsimp only; omega), fun j b hj hb' hne hw => by rcases Nat.lt_or_eq_of_le (Nat.le_of_lt_succ hj) with hj | rfl; (exact hq j b hj hb' hne hw); (have e := hx11.symm.trans hb'; cases e; first | omega | simp_all)⟩ (by first | omega | (dsimp only; omega)) ((.cons rfl (.cons rfl (.cons rfl (.cons rfl (.cons rfl (.cons rfl (.cons rfl (.cons rfl (.cons rfl .nil)))))))))) rfl
                · refine Gx.exit ?_
                  refine Gx.thenE ?_
                  refine Gx.thenE ?_
                  refine Gx.blkE ?_
                  refine Gx.blkN ?_
                  refine Gx.thenN ?_
                  refine Gx.region ?_
                  refine Gx.val rfl rfl rfl (val_add rfl rfl rfl (r := ((k + 1 : Nat) : Int)) (w64 (by omega) (by omega))) ?_
                  refine Gx.val rfl rfl rfl (val_move rfl rfl) ?_
                  refine Gx.done ?_
                  refine Gx.thenN ?_
                  refine Gx.drop 0 rfl ?_
                  exact Gx.round (k + 1) ⟨by first | omega | (dsimp only; omega), fun i a hi ha => by rcases Nat.lt_or_eq_of_le (Nat.le_of_lt_succ hi) with hi | rfl; (exact hr i a hi ha); (have e := hxk.symm.trans ha; cases e; omega), fun i j a b hi ha hb => by rcases Nat.lt_or_eq_of_le (Nat.le_of_lt_succ hi) with hi | rfl; (exact ht i j a b hi ha hb); (have e := hxk.symm.trans ha; cases e; exact hq j b (by have := (List.getElem?_eq_some_iff.1 hb).1; omega) hb)⟩ (by first | omega | (dsimp only; omega)) ((.cons rfl (.cons rfl (.cons rfl (.cons rfl .nil))))) rfl
            · refine Gx.skipg rfl rfl rfl rfl rfl rfl ?_
              refine Gx.skipg rfl rfl rfl rfl rfl rfl ?_
              refine Gx.skipg rfl rfl rfl rfl rfl rfl ?_
              refine Gx.skipg rfl rfl rfl rfl rfl rfl ?_
              refine Gx.skipg rfl rfl rfl rfl rfl rfl ?_
              refine Gx.valg rfl rfl rfl rfl rfl (val_pickF rfl rfl rfl) ?_
              refine Gx.val rfl rfl rfl (val_pickF rfl rfl rfl) ?_
              refine Gx.done ?_
              refine Gx.thenN ?_
              refine Gx.f rfl ?_
              refine Gx.skip ?_
              refine Gx.thenN ?_
              refine Gx.seq ?_
              refine Gx.region ?_
              refine Gx.val rfl rfl rfl (val_move rfl rfl) ?_
              refine Gx.val rfl rfl rfl (val_len rfl Try.underlying26 rfl (len_base hs)) ?_
              refine Gx.val rfl rfl rfl (val_move rfl rfl) ?_
              refine Gx.done ?_
              refine Gx.thenN ?_
              refine Gx.block ?_
              have hxk := hx3
              refine Gx.loop (ι := Nat) (fun ξ => (ξ ≤ h.length) ∧ (∀ (j : Nat) (b : Op), j < ξ → h[j]? = some b → k ≠ j → x3.who = b.who → aheadB x3 b = true ∨ aheadB b x3 = true)) (fun ξ => [(0, hv), (3, .int .i64 ((k : Nat) : Int)), (4, ptr b4 0), (10, hv), (11, .int .i64 ((h.length : Nat) : Int)), (12, .int .i64 ((k : Nat) : Int)), (42, hv), (43, .int .i64 ((h.length : Nat) : Int)), (44, .int .i64 ((ξ : Nat) : Int))]) (fun ξ => [Hp.rec_ b4 [.int .i64 x3.who, .int .i64 x3.reg, .bool x3.write, .int .i64 x3.val, .int .i64 x3.fr, .int .i64 x3.to]]) (fun ξ => h.length - ξ) 0 ⟨by first | omega | (dsimp only; omega), fun j b hj => by omega⟩ ((.cons rfl (.cons rfl (.cons rfl (.cons rfl (.cons rfl (.cons rfl (.cons rfl (.cons rfl (.cons rfl .nil)))))))))) rfl ?_
              rintro q ⟨hqk, hq⟩
              refine Gx.know (m' := [(0, hv), (3, .int .i64 ((k : Nat) : Int)), (4, ptr b4 0), (10, hv), (11, .int .i64 ((h.length : Nat) : Int)), (12, .int .i64 ((k : Nat) : Int)), (42, hv), (43, .int .i64 ((h.length : Nat) : Int)), (44, .int .i64 ((q : Nat) : Int))]) (.cons rfl (.cons rfl (.cons rfl (.cons rfl (.cons rfl (.cons rfl (.cons rfl (.cons rfl (.cons rfl .nil))))))))) (Gx.norm (l' := [Hp.rec_ b4 [.int .i64 x3.who, .int .i64 x3.reg, .bool x3.write, .int .i64 x3.val, .int .i64 x3.fr, .int .i64 x3.to]]) rfl ?_)
              refine Gx.seq ?_
              refine Gx.region ?_
              refine Gx.val rfl rfl rfl (val_lss rfl rfl rfl) ?_
              refine Gx.done ?_
              refine Gx.thenN ?_
              refine Gx.seq ?_
              refine Gx.dec rfl (fun h17 => ?_) (fun h17 => ?_)
              · refine Gx.skip ?_
                refine Gx.thenN ?_
                refine Gx.seq ?_
                refine Gx.block ?_
                refine Gx.seq ?_
                refine Gx.region ?_
                refine Gx.val rfl rfl rfl (val_move rfl rfl) ?_
                obtain ⟨x18, hx18⟩ := get_of_lt (xs := h) (k := q) (by omega)
                refine Gx.val rfl rfl rfl (val_ixa rfl Try.underlying26 Try.ty33 rfl rfl (j := q) (rfl) (reach_base hs hx18)) ?_
                refine Gx.val rfl rfl rfl (Val.cast (val_loadA rfl Try.ty33 rfl rfl rfl (cells_base hs hx18)) (v' := .agg #[.int .i64 x18.who, .int .i64 x18.reg, .bool x18.write, .int .i64 x18.val, .int .i64 x18.fr, .int .i64 x18.to]) rfl) ?_
                refine Gx.eff rfl rfl rfl (eff_alloc rfl Try.ty33 (vs := [.int .i64 0, .int .i64 0, .bool false, .int .i64 0, .int .i64 0, .int .i64 0]) rfl) ?_
                rintro _ _ ⟨b19, rfl, rfl⟩
                refine Gx.val rfl rfl rfl (val_assign rfl rfl) ?_
                refine Gx.eff0 rfl rfl (eff_store rfl Try.ty33 rfl rfl (us := [.int .i64 x18.who, .int .i64 x18.reg, .bool x18.write, .int .i64 x18.val, .int .i64 x18.fr, .int .i64 x18.to]) rfl rfl rfl (k := 0) rfl (rfl) (vs' := [.int .i64 x18.who, .int .i64 x18.reg, .bool x18.write, .int .i64 x18.val, .int .i64 x18.fr, .int .i64 x18.to]) (rfl) (l' := [Hp.rec_ b19 [.int .i64 x18.who, .int .i64 x18.reg, .bool x18.write, .int .i64 x18.val, .int .i64 x18.fr, .int .i64 x18.to], Hp.rec_ b4 [.int .i64 x3.who, .int .i64 x3.reg, .bool x3.write, .int .i64 x3.val, .int .i64 x3.fr, .int .i64 x3.to]]) rfl) ?_
                rintro _ _ rfl
                refine Gx.done ?_
                refine Gx.thenN ?_
                refine Gx.seq ?_
                refine Gx.region ?_
                refine Gx.val rfl rfl rfl (val_move rfl rfl) ?_
                refine Gx.val rfl rfl rfl (val_move rfl rfl) ?_
                refine Gx.val rfl rfl rfl (val_neq rfl rfl rfl) ?_
                refine Gx.val rfl rfl rfl (val_move rfl rfl) ?_
                refine Gx.cases (t := 52) rfl (fun h20 => ?_) (fun h20 => ?_)
                · refine Gx.valg rfl rfl rfl rfl rfl (Val.cast (val_fieldAddr rfl Try.underlying33 rfl Try.ty3 rfl rfl) (v' := ptr b4 0) rfl) ?_
                  refine Gx.valg rfl rfl rfl rfl rfl (val_load rfl Try.ty3 rfl rfl (cell_rec (k := 1) rfl rfl)) ?_
                  refine Gx.valg rfl rfl rfl rfl rfl (Val.cast (val_fieldAddr rfl Try.underlying33 rfl Try.ty3 rfl rfl) (v' := ptr b19 0) rfl) ?_
                  refine Gx.valg rfl rfl rfl rfl rfl (val_load rfl Try.ty3 rfl rfl (cell_rec (k := 0) rfl rfl)) ?_
                  refine Gx.valg rfl rfl rfl rfl rfl (val_eql rfl rfl rfl) ?_
                  refine Gx.val rfl rfl rfl (val_pickT rfl rfl rfl) ?_
                  refine Gx.val rfl rfl rfl (val_move rfl rfl) ?_
                  refine Gx.cases (t := 59) rfl (fun h21 => ?_) (fun h21 => ?_)
                  · refine Gx.valg rfl rfl rfl rfl rfl (Val.cast (val_loadA rfl Try.ty33 rfl rfl rfl (cells_rec (k := 1) rfl)) (v' := .agg #[.int .i64 x3.who, .int .i64 x3.reg, .bool x3.write, .int .i64 x3.val, .int .i64 x3.fr, .int .i64 x3.to]) rfl) ?_
                    refine Gx.valg rfl rfl rfl rfl rfl (Val.cast (val_loadA rfl Try.ty33 rfl rfl rfl (cells_rec (k := 0) rfl)) (v' := .agg #[.int .i64 x18.who, .int .i64 x18.reg, .bool x18.write, .int .i64 x18.val, .int .i64 x18.fr, .int .i64 x18.to]) rfl) ?_
                    refine Gx.valg rfl rfl rfl rfl rfl (val_call (vs := [.agg #[.int .i64 x3.who, .int .i64 x3.reg, .bool x3.write, .int .i64 x3.val, .int .i64 x3.fr, .int .i64 x3.to], .agg #[.int .i64 x18.who, .int .i64 x18.reg, .bool x18.write, .int .i64 x18.val, .int .i64 x18.fr, .int .i64 x18.to]]) rfl Try.fn17 rfl (fun w H => ahead17 x3 x18 _)) ?_
                    refine Gx.valg rfl rfl rfl rfl rfl (val_not rfl rfl) ?_
                    refine Gx.val rfl rfl rfl (val_pickT rfl rfl rfl) ?_
                    refine Gx.val rfl rfl rfl (val_move rfl rfl) ?_
                    refine Gx.casesB (t := 65) rfl (fun h22 => ?_) (fun h22 => ?_)
                    · refine Gx.valg rfl rfl rfl rfl rfl (Val.cast (val_loadA rfl Try.ty33 rfl rfl rfl (cells_rec (k := 0) rfl)) (v' := .agg #[.int .i64 x18.who, .int .i64 x18.reg, .bool x18.write, .int .i64 x18.val, .int .i64 x18.fr, .int .i64 x18.to]) rfl) ?_
                      refine Gx.valg rfl rfl rfl rfl rfl (Val.cast (val_loadA rfl Try.ty33 rfl rfl rfl (cells_rec (k := 1) rfl)) (v' := .agg #[.int .i64 x3.who, .int .i64 x3.reg, .bool x3.write, .int .i64 x3.val, .int .i64 x3.fr, .int .i64 x3.to]) rfl) ?_
                      refine Gx.valg rfl rfl rfl rfl rfl (val_call (vs := [.agg #[.int .i64 x18.who, .int .i64 x18.reg, .bool x18.write, .int .i64 x18.val, .int .i64 x18.fr, .int .i64 x18.to], .agg #[.int .i64 x3.who, .int .i64 x3.reg, .bool x3.write, .int .i64 x3.val, .int .i64 x3.fr, .int .i64 x3.to]]) rfl Try.fn17 rfl (fun w H => ahead17 x18 x3 _)) ?_
                      refine Gx.valg rfl rfl rfl rfl rfl (val_not rfl rfl) ?_
                      refine Gx.val rfl rfl rfl (val_pickT rfl rfl rfl) ?_
                      refine Gx.done ?_
                      refine Gx.thenN ?_
                      refine Gx.bool rfl (fun h23 => ?_) (fun h23 => ?_)
                      · refine Gx.seq ?_
                        refine Gx.region ?_
                        refine Gx.val rfl rfl rfl (val_assign rfl rfl) ?_
                        refine Gx.done ?_
                        refine Gx.thenN ?_
                        refine Gx.ret ?_
                        refine Gx.blkR ?_
                        refine Gx.thenR ?_
                        refine Gx.thenR ?_
                        refine Gx.blkR ?_
                        refine Gx.blkR ?_
                        refine Gx.thenR ?_
                        refine Gx.thenR ?_
                        refine Gx.blkR ?_
                        refine Gx.thenR ?_
                        refine Gx.ret1 Try.results12 rfl ?_
                        exact ⟨_, rfl, fun e => absurd e (by decide), fun hk => by exfalso; have := hk.two _ _ _ _ hx3 hx18 (by omega) (by omega); simp_all⟩
                      · refine Gx.skip ?_
                        refine Gx.blkN ?_
                        refine Gx.thenN ?_
                        refine Gx.region ?_
                        refine Gx.val rfl rfl rfl (val_add rfl rfl rfl (r := ((q + 1 : Nat) : Int)) (w64 (by omega) (by omega))) ?_
                        refine Gx.val rfl rfl rfl (val_move rfl rfl) ?_
                        refine Gx.done ?_
                        refine Gx.thenN ?_
                        refine Gx.drop 0 rfl ?_
                        exact Gx.round (q + 1) ⟨by first | omega | (dsimp only; omega), fun j b hj hb' hne hw => by rcases Nat.lt_or_eq_of_le (Nat.le_of_lt_succ hj) with hj | rfl; (exact hq j b hj hb' hne hw); (have e := hx18.symm.trans hb'; cases e; first | omega | simp_all)⟩ (by first | omega | (dsimp only; omega)) ((.cons rfl (.cons rfl (.cons rfl (.cons rfl (.cons rfl (.cons rfl (.cons rfl (.cons rfl (.cons rfl .nil)))))))))) rfl
                    · refine Gx.skipg rfl rfl rfl rfl rfl rfl ?_
                      refine Gx.skipg rfl rfl rfl rfl rfl rfl ?_
                      refine Gx.skipg rfl rfl rfl rfl rfl rfl ?_
                      refine Gx.skipg rfl rfl rfl rfl rfl rfl ?_
                      refine Gx.val rfl rfl rfl (val_pickF rfl rfl rfl) ?_
                      refine Gx.done ?_
                      refine Gx.thenN ?_
                      refine Gx.f rfl ?_
                      refine Gx.skip ?_
                      refine Gx.blkN ?_
                      refine Gx.thenN ?_
                      refine Gx.region ?_
                      refine Gx.val rfl rfl rfl (val_add rfl rfl rfl (r := ((q + 1 : Nat) : Int)) (w64 (by omega) (by omega))) ?_
                      refine Gx.val rfl rfl rfl (val_move rfl rfl) ?_
                      refine Gx.done ?_
                      refine Gx.thenN ?_
                      refine Gx.drop 0 rfl ?_
                      exact Gx.round (q + 1) ⟨by first | omega | (dsimp only; omega), fun j b hj hb' hne hw => by rcases Nat.lt_or_eq_of_le (Nat.le_of_lt_succ hj) with hj | rfl; (exact hq j b hj hb' hne hw); (have e := hx18.symm.trans hb'; cases e; first | omega | simp_all)⟩ (by first | omega | (dsimp only; omega)) ((.cons rfl (.cons rfl (.cons rfl (.cons rfl (.cons rfl (.cons rfl (.cons rfl (.cons rfl (.cons rfl .nil)))))))))) rfl
                  · refine Gx.skipg rfl rfl rfl rfl rfl rfl ?_
                    refine Gx.skipg rfl rfl rfl rfl rfl rfl ?_
                    refine Gx.skipg rfl rfl rfl rfl rfl rfl ?_
                    refine Gx.skipg rfl rfl rfl rfl rfl rfl ?_
                    refine Gx.val rfl rfl rfl (val_pickF rfl rfl rfl) ?_
                    refine Gx.val rfl rfl rfl (val_move rfl rfl) ?_
                    refine Gx.skipg rfl rfl rfl rfl rfl rfl ?_
                    refine Gx.skipg rfl rfl rfl rfl rfl rfl ?_
                    refine Gx.skipg rfl rfl rfl rfl rfl rfl ?_
                    refine Gx.skipg rfl rfl rfl rfl rfl rfl ?_
                    refine Gx.val rfl rfl rfl (val_pickF rfl rfl rfl) ?_
                    refine Gx.done ?_
                    refine Gx.thenN ?_
                    refine Gx.f rfl ?_
                    refine Gx.skip ?_
                    refine Gx.blkN ?_
                    refine Gx.thenN ?_
                    refine Gx.region ?_
                    refine Gx.val rfl rfl rfl (val_add rfl rfl rfl (r := ((q + 1 : Nat) : Int)) (w64 (by omega) (by omega))) ?_
                    refine Gx.val rfl rfl rfl (val_move rfl rfl) ?_
                    refine Gx.done ?_
                    refine Gx.thenN ?_
                    refine Gx.drop 0 rfl ?_
                    exact Gx.round (q + 1) ⟨by first | omega | (dsimp only; omega), fun j b hj hb' hne hw => by rcases Nat.lt_or_eq_of_le (Nat.le_of_lt_succ hj) with hj | rfl; (exact hq j b hj hb' hne hw); (have e := hx18.symm.trans hb'; cases e; first | omega | simp_all)⟩ (by first | omega | (dsimp only; omega)) ((.cons rfl (.cons rfl (.cons rfl (.cons rfl (.cons rfl (.cons rfl (.cons rfl (.cons rfl (.cons rfl .nil)))))))))) rfl
                · refine Gx.skipg rfl rfl rfl rfl rfl rfl ?_
                  refine Gx.skipg rfl rfl rfl rfl rfl rfl ?_
                  refine Gx.skipg rfl rfl rfl rfl rfl rfl ?_
                  refine Gx.skipg rfl rfl rfl rfl rfl rfl ?_
                  refine Gx.skipg rfl rfl rfl rfl rfl rfl ?_
                  refine Gx.val rfl rfl rfl (val_pickF rfl rfl rfl) ?_
                  refine Gx.val rfl rfl rfl (val_move rfl rfl) ?_
                  refine Gx.skipg rfl rfl rfl rfl rfl rfl ?_
                  refine Gx.skipg rfl rfl rfl rfl rfl rfl ?_
                  refine Gx.skipg rfl rfl rfl rfl rfl rfl ?_
                  refine Gx.skipg rfl rfl rfl rfl rfl rfl ?_
                  refine Gx.val rfl rfl rfl (val_pickF rfl rfl rfl) ?_
                  refine Gx.val rfl rfl rfl (val_move rfl rfl) ?_
                  refine Gx.skipg rfl rfl rfl rfl rfl rfl ?_
                  refine Gx.skipg rfl rfl rfl rfl rfl rfl ?_
                  refine Gx.skipg rfl rfl rfl rfl rfl rfl ?_
                  refine Gx.skipg rfl rfl rfl rfl rfl rfl ?_
                  refine Gx.val rfl rfl rfl (val_pickF rfl rfl rfl) ?_
                  refine Gx.done ?_
                  refine Gx.thenN ?_
                  refine Gx.f rfl ?_
                  refine Gx.skip ?_
                  refine Gx.blkN ?_
                  refine Gx.thenN ?_
                  refine Gx.region ?_
                  refine Gx.val rfl rfl rfl (val_add rfl rfl rfl (r := ((q + 1 : Nat) : Int)) (w64 (by omega) (by omega))) ?_
                  refine Gx.val rfl rfl rfl (val_move rfl rfl) ?_
                  refine Gx.done ?_
                  refine Gx.thenN ?_
                  refine Gx.drop 0 rfl ?_
                  exact Gx.round (q + 1) ⟨by first | omega | (dsimp only; omega), fun j b hj hb' hne hw => by rcases Nat.lt_or_eq_of_le (Nat.le_of_lt_succ hj) with hj | rfl; (exact hq j b hj hb' hne hw); (have e := hx18.symm.trans hb'; cases e; first | omega | simp_all)⟩ (by first | omega | (dsimp only; omega)) ((.cons rfl (.cons rfl (.cons rfl (.cons rfl (.cons rfl (.cons rfl (.cons rfl (.cons rfl (.cons rfl .nil)))))))))) rfl
              · refine Gx.exit ?_
                refine Gx.thenE ?_
                refine Gx.thenE ?_
                refine Gx.blkE ?_
                refine Gx.blkN ?_
                refine Gx.thenN ?_
                refine Gx.region ?_
                refine Gx.val rfl rfl rfl (val_add rfl rfl rfl (r := ((k + 1 : Nat) : Int)) (w64 (by omega) (by omega))) ?_
                refine Gx.val rfl rfl rfl (val_move rfl rfl) ?_
                refine Gx.done ?_
                refine Gx.thenN ?_
                refine Gx.drop 0 rfl ?_
                exact Gx.round (k + 1) ⟨by first | omega | (dsimp only; omega), fun i a hi ha => by rcases Nat.lt_or_eq_of_le (Nat.le_of_lt_succ hi) with hi | rfl; (exact hr i a hi ha); (have e := hxk.symm.trans ha; cases e; omega), fun i j a b hi ha hb => by rcases Nat.lt_or_eq_of_le (Nat.le_of_lt_succ hi) with hi | rfl; (exact ht i j a b hi ha hb); (have e := hxk.symm.trans ha; cases e; exact hq j b (by have := (List.getElem?_eq_some_iff.1 hb).1; omega) hb)⟩ (by first | omega | (dsimp only; omega)) ((.cons rfl (.cons rfl (.cons rfl (.cons rfl .nil))))) rfl
    · refine Gx.exit ?_
      refine Gx.thenE ?_
      refine Gx.thenE ?_
      refine Gx.blkE ?_
      refine Gx.thenN ?_
      refine Gx.seq ?_
      refine Gx.region ?_
      refine Gx.val rfl rfl rfl (val_assign rfl rfl) ?_
      refine Gx.done ?_
      refine Gx.thenN ?_
      refine Gx.ret ?_
      refine Gx.ret1 Try.results12 rfl ?_
      exact ⟨0, rfl, fun _ => ⟨by omega, fun i a ha => hr i a (by have := (List.getElem?_eq_some_iff.1 ha).1; omega) ha, fun i j a b ha hb hne hw => ht i j a b (by have := (List.getElem?_eq_some_iff.1 ha).1; omega) ha hb hne hw⟩, fun _ => rfl⟩

theorem check12_ok {W : World} {hv : Value} {h : List Op} (hs : SlS FO 6 W hv h) (hok : OkH h) : Calls Try.prog 12 #[hv] W fun e w' => e = .returned (.int .i64 0) ∧ Below W.heap.size W w' :=
  (check12 hs).mono fun e w' ⟨v, he, ⟨c, hv, hc⟩, hb⟩ => ⟨by rw [he, hv, hc.2 hok], hb⟩
theorem check12_no {W : World} {hv : Value} {h : List Op} (hs : SlS FO 6 W hv h) (hok : ¬ OkH h) : Calls Try.prog 12 #[hv] W fun e w' => ∃ v, e = .returned v ∧ (∃ c : Int, v = .int .i64 c ∧ c ≠ 0) ∧ Below W.heap.size W w' :=
  (check12 hs).mono fun e w' ⟨v, he, ⟨c, hv, hc⟩, hb⟩ => ⟨v, he, ⟨c, hv, fun e => hok (hc.1 e)⟩, hb⟩
end Go.Proofs.Ytjiefamdpbnngaa.Lin
