/- The world at first. The walk. No condition. -/
import Derived.Test.YtanipkddfngnnaaA4
namespace Go.Proofs.Ytanipkddfngnnaa
open Go.RowKit
set_option linter.unusedVariables false
set_option linter.unusedSimpArgs false
set_option maxRecDepth 100000

def mkP (x : Int) : Pr := ⟨x, -1⟩
def zW : Wm := ⟨[], [], false⟩
structure OpOk (n i j : Nat) (ks : Ks) (rs : List Rm) : Prop where
  len : ks.length ≤ i * 6 + j
  keys : ∀ a : Sm × Sm, a ∈ ks.map (·.1) ↔ a.2.val < n ∧ a.1 ≠ a.2 ∧ (a.1.val < i ∨ (a.1.val = i ∧ a.2.val < j))
  nodup : ks.Pairwise (fun p q => p.1 ≠ q.1)
  bl : rs.map Rm.b = ks.map (·.2)
  val : ∀ r ∈ rs, r.w = zW
theorem OpOk.zero (n : Nat) : OpOk n 0 0 [] [] := ⟨Nat.le_refl _, fun a => ⟨fun h => (by cases h), fun h => by omega⟩, List.Pairwise.nil, rfl, fun r h => (by cases h)⟩
theorem OpOk.turn {n i : Nat} {ks : Ks} {rs : List Rm} (h : OpOk n i n ks rs) (hn : n ≤ 6) : OpOk n (i + 1) 0 ks rs :=
  ⟨by have := h.len; omega, fun a => (h.keys a).trans ⟨fun ⟨h1, h2, h3⟩ => ⟨h1, h2, by omega⟩, fun ⟨h1, h2, h3⟩ => ⟨h1, h2, by omega⟩⟩, h.nodup, h.bl, h.val⟩
theorem OpOk.skip {n i : Nat} {ks : Ks} {rs : List Rm} (h : OpOk n i i ks rs) : OpOk n i (i + 1) ks rs :=
  ⟨by have := h.len; omega, fun a => (h.keys a).trans ⟨fun ⟨h1, h2, h3⟩ => ⟨h1, h2, by omega⟩, fun ⟨h1, h2, h3⟩ => ⟨h1, h2, by
    have : a.1.val ≠ a.2.val := fun e => h2 (Fin.ext e)
    omega⟩⟩, h.nodup, h.bl, h.val⟩
theorem OpOk.new {n i j : Nat} {ks : Ks} {rs : List Rm} (h : OpOk n i j ks rs) (hj : j < n) (hi : i < n) (hn : n ≤ 6) : ∀ p ∈ ks, p.1 ≠ (smN i, smN j) := fun p hp e => by
  have := ((h.keys p.1).1 (List.mem_map_of_mem hp)).2.2
  rw [e] at this; dsimp only at this
  rw [smN_val (by omega), smN_val (by omega)] at this; omega
theorem OpOk.add {n i j b : Nat} {qv nv : Value} {ks : Ks} {rs : List Rm} (h : OpOk n i j ks rs) (hj : j < n) (hi : i < n) (hn : n ≤ 6) (hne : i ≠ j) : OpOk n i (j + 1) (ks ++ [((smN i, smN j), b)]) (rs ++ [⟨b, qv, nv, zW⟩]) := by
  refine ⟨by have := h.len; simp; omega, fun a => ?_, ?_, by simp [h.bl], fun r hr => ?_⟩
  · rw [List.map_append, List.mem_append, h.keys a]
    simp only [List.map_cons, List.map_nil, List.mem_singleton]
    have e1 := smN_val (show i < 2048 by omega)
    have e2 := smN_val (show j < 2048 by omega)
    constructor
    · rintro (⟨h1, h2, h3⟩ | rfl)
      · exact ⟨h1, h2, by omega⟩
      · exact ⟨by dsimp only; omega, fun e => hne (by have := congrArg Fin.val e; dsimp only at this; omega), by dsimp only; omega⟩
    · rintro ⟨h1, h2, h3⟩
      by_cases q : a.1.val = i ∧ a.2.val = j
      · right; exact Prod.ext (Fin.ext (by dsimp only; omega)) (Fin.ext (by dsimp only; omega))
      · left; exact ⟨h1, h2, by omega⟩
  · refine List.pairwise_append.2 ⟨h.nodup, List.pairwise_singleton _ _, fun p hp q hq => ?_⟩
    rw [List.mem_singleton.1 hq]; exact h.new hj hi hn p hp
  · rcases List.mem_append.1 hr with g | g
    · exact h.val r g
    · rw [List.mem_singleton.1 g]
theorem OpOk.all {n : Nat} {ks : Ks} {rs : List Rm} (h : OpOk n n 0 ks rs) (hn : n ≤ 6) : ROk n ks rs (fun _ => zW) :=
  ⟨by have := h.len; omega, fun a => (h.keys a).trans ⟨fun ⟨h1, h2, h3⟩ => ⟨by omega, h1, h2⟩, fun ⟨h1, h2, h3⟩ => ⟨h2, h3, by omega⟩⟩, h.nodup, h.bl, fun k p r _ hr => h.val r (List.mem_of_getElem? hr)⟩
theorem mk_succ {money : List Int} {i : Nat} {x : Int} (h : money[i]? = some x) : (money.take (i + 1)).map mkP = (money.take i).map mkP ++ [mkP x] := by rw [take_of h, List.map_append]; rfl
theorem open_any {W w : World} {mv : Value} {money : List Int} {R : Hp} (h6 : money.length ≤ 6) (hs : SlS FI 1 W mv money) (H : Sat W w R) :
    Calls Try.prog 11 #[mv] w (Ret W fun v l => ∃ S, v = ptr S 0 ∧ sep l = worldH S money.length (ss0 money) * R) := by
  refine Gx.enter (l := [R]) Try.func11 rfl Try.ntmps11 rfl ((H.cast (Hp.mul_one _).symm)) ?_
  refine Gx.know (m' := [(0, mv)]) (.cons rfl .nil) ?_
  refine Gx.seq ?_
  refine Gx.region ?_
  refine Gx.val rfl rfl rfl (val_assign rfl rfl) ?_
  refine Gx.done ?_
  refine Gx.thenN ?_
  refine Gx.seq ?_
  refine Gx.region ?_
  refine Gx.eff rfl rfl rfl (eff_makeMap 47 pairL vB rfl) ?_
  rintro _ _ ⟨b1, rfl, rfl⟩
  refine Gx.val rfl rfl rfl (val_build rfl (qs := [(1, .map (some b1))]) rfl rfl (fun w => by go_simp) (v := .agg #[.slice none 0 0, .map (some b1)])) ?_
  refine Gx.eff rfl rfl rfl (eff_box rfl rfl (vs := [.slice none 0 0, .map (some b1)]) rfl) ?_
  rintro _ _ ⟨b2, rfl, rfl⟩
  refine Gx.val rfl rfl rfl (val_assign rfl rfl) ?_
  refine Gx.done ?_
  refine Gx.thenN ?_
  refine Gx.seq ?_
  refine Gx.seq ?_
  refine Gx.ownNil FP 2 ?_
  refine Gx.front 3 rfl ?_
  refine Gx.front 3 rfl ?_
  refine Gx.front 2 rfl ?_
  refine Gx.front 3 rfl ?_
  refine Gx.sepEq (l' := [Hp.rec_ b2 [.slice none 0 0, .map (some b1)], Hp.own FP 2 (.slice none 0 0) ((money.take 0).map mkP), Hp.map Try.prog 47 pairL vB b1 ([] : Ks), Hp.big rowH ([] : List Rm), R]) (by show _ * (_ * (_ * (R * 1))) = _ * (_ * (_ * (1 * (R * 1)))); rw [Hp.one_mul] <;> rfl) ?_
  refine Gx.region ?_
  refine Gx.val rfl rfl rfl (val_move rfl rfl) ?_
  refine Gx.val rfl rfl rfl (val_len rfl Try.underlying22 rfl (len_base hs)) ?_
  refine Gx.val rfl rfl rfl (val_move rfl rfl) ?_
  refine Gx.done ?_
  refine Gx.thenN ?_
  refine Gx.block ?_
  refine Gx.loop (ι := Nat × Value × Ks × (List Rm)) (fun ξ => (ξ.1 ≤ money.length) ∧ (IsS ξ.2.1) ∧ (OpOk money.length ξ.1 0 ξ.2.2.1 ξ.2.2.2)) (fun ξ => [(3, ptr b2 0), (0, mv), (10, mv), (11, .int .i64 ((money.length : Nat) : Int)), (12, .int .i64 ((ξ.1 : Nat) : Int))]) (fun ξ => [Hp.rec_ b2 [ξ.2.1, .map (some b1)], Hp.own FP 2 ξ.2.1 ((money.take ξ.1).map mkP), Hp.map Try.prog 47 pairL vB b1 ξ.2.2.1, Hp.big rowH ξ.2.2.2, R]) (fun ξ => money.length - ξ.1) (0, .slice none 0 0, [], []) ⟨by first | omega | (dsimp only; omega), ⟨none, 0, 0, rfl⟩, OpOk.zero _⟩ ((.cons rfl (.cons rfl (.cons rfl (.cons rfl (.cons rfl .nil)))))) rfl ?_
  rintro ⟨i, pv, ks, rs⟩ ⟨hi, hiv, hop⟩
  dsimp only at hi hiv hop
  refine Gx.know (m' := [(3, ptr b2 0), (0, mv), (10, mv), (11, .int .i64 ((money.length : Nat) : Int)), (12, .int .i64 ((i : Nat) : Int))]) (.cons rfl (.cons rfl (.cons rfl (.cons rfl (.cons rfl .nil))))) (Gx.norm (l' := [Hp.rec_ b2 [pv, .map (some b1)], Hp.own FP 2 pv ((money.take i).map mkP), Hp.map Try.prog 47 pairL vB b1 ks, Hp.big rowH rs, R]) rfl ?_)
  refine Gx.seq ?_
  refine Gx.region ?_
  refine Gx.val rfl rfl rfl (val_lss rfl rfl rfl) ?_
  refine Gx.done ?_
  refine Gx.thenN ?_
  refine Gx.seq ?_
  refine Gx.dec rfl (fun h3 => ?_) (fun h3 => ?_)
  · refine Gx.skip ?_
    refine Gx.thenN ?_
    refine Gx.seq ?_
    refine Gx.block ?_
    refine Gx.seq ?_
    refine Gx.region ?_
    refine Gx.val rfl rfl rfl (val_move rfl rfl) ?_
    obtain ⟨x4, hx4⟩ := get_of_lt (xs := money) (k := i) (by omega)
    refine Gx.val rfl rfl rfl (val_ixa rfl Try.underlying22 Try.ty3 rfl rfl (j := i) (rfl) (reach_base hs hx4)) ?_
    refine Gx.val rfl rfl rfl (val_load rfl Try.ty3 rfl rfl (cell_base (i := 0) hs hx4 rfl)) ?_
    refine Gx.val rfl rfl rfl (val_assign rfl rfl) ?_
    refine Gx.val rfl rfl rfl (val_assign rfl rfl) ?_
    refine Gx.done ?_
    refine Gx.thenN ?_
    refine Gx.seq ?_
    refine Gx.region ?_
    refine Gx.val rfl rfl rfl (val_move rfl rfl) ?_
    refine Gx.val rfl rfl rfl (val_move rfl rfl) ?_
    refine Gx.val rfl rfl rfl (val_nilCheck rfl rfl) ?_
    refine Gx.val rfl rfl rfl (Val.cast (val_fieldAddr rfl Try.underlying44 rfl Try.ty41 rfl rfl) (v' := ptr b2 0) rfl) ?_
    refine Gx.val rfl rfl rfl (val_load rfl Try.ty41 rfl rfl (cell_rec (k := 0) rfl rfl)) ?_
    refine Gx.val rfl rfl rfl (val_move rfl rfl) ?_
    refine Gx.val rfl rfl rfl (val_build rfl (qs := [(0, .int .i64 x4), (1, .int .i64 (-1))]) rfl rfl (fun w => by go_simp) (v := .agg #[.int .i64 x4, .int .i64 (-1)])) ?_
    refine Gx.eff rfl rfl rfl (eff_buildSlice rfl (qs := [(0, .agg #[.int .i64 x4, .int .i64 (-1)])]) rfl rfl (cs := #[.int .i64 x4, .int .i64 (-1)]) (vs := [.int .i64 x4, .int .i64 (-1)]) (E := 46) rfl (fun w => by first | (go_simp; done) | (go_simp; rfl))) ?_
    rintro _ _ ⟨b5, rfl, rfl⟩
    refine Gx.eff rfl rfl rfl (eff_push (r := (mkP x4)) rfl Try.eP FP_len FP_one rfl rfl (k := 0) rfl rfl (k' := 1) rfl (by rw [List.length_map, List.length_take]; omega) (by rw [List.length_map, List.length_take]; omega)) ?_
    rintro v6 _ ⟨hiv6, rfl⟩
    refine Gx.norm (l' := [Hp.rec_ b2 [pv, .map (some b1)], Hp.own FP 2 v6 (((money.take i).map mkP) ++ [(mkP x4)]), Hp.map Try.prog 47 pairL vB b1 ks, Hp.big rowH rs, R]) rfl ?_
    refine Gx.val rfl rfl rfl (val_nilCheck rfl rfl) ?_
    refine Gx.val rfl rfl rfl (Val.cast (val_fieldAddr rfl Try.underlying44 rfl Try.ty41 rfl rfl) (v' := ptr b2 0) rfl) ?_
    refine Gx.eff0 rfl rfl (eff_store rfl Try.ty41 rfl rfl (us := [v6]) hiv6.cellsL rfl hiv6.all (k := 0) rfl (rfl) (vs' := [v6, .map (some b1)]) (rfl) (l' := [Hp.rec_ b2 [v6, .map (some b1)], Hp.own FP 2 v6 (((money.take i).map mkP) ++ [(mkP x4)]), Hp.map Try.prog 47 pairL vB b1 ks, Hp.big rowH rs, R]) rfl) ?_
    rintro _ _ rfl
    refine Gx.done ?_
    refine Gx.thenN ?_
    refine Gx.seq ?_
    refine Gx.region ?_
    refine Gx.val rfl rfl rfl (val_move rfl rfl) ?_
    refine Gx.val rfl rfl rfl (val_len rfl Try.underlying22 rfl (len_base hs)) ?_
    refine Gx.val rfl rfl rfl (val_move rfl rfl) ?_
    refine Gx.done ?_
    refine Gx.thenN ?_
    refine Gx.block ?_
    refine Gx.loop (ι := Nat × Ks × (List Rm)) (fun ξ => (ξ.1 ≤ money.length) ∧ (OpOk money.length i ξ.1 ξ.2.1 ξ.2.2)) (fun ξ => [(0, mv), (3, ptr b2 0), (4, .int .i64 ((i : Nat) : Int)), (10, mv), (11, .int .i64 ((money.length : Nat) : Int)), (12, .int .i64 ((i : Nat) : Int)), (28, mv), (29, .int .i64 ((money.length : Nat) : Int)), (30, .int .i64 ((ξ.1 : Nat) : Int))]) (fun ξ => [Hp.rec_ b2 [v6, .map (some b1)], Hp.own FP 2 v6 (((money.take i).map mkP) ++ [(mkP x4)]), Hp.map Try.prog 47 pairL vB b1 ξ.2.1, Hp.big rowH ξ.2.2, R]) (fun ξ => money.length - ξ.1) (0, ks, rs) ⟨by first | omega | (dsimp only; omega), hop⟩ ((.cons rfl (.cons rfl (.cons rfl (.cons rfl (.cons rfl (.cons rfl (.cons rfl (.cons rfl (.cons rfl .nil)))))))))) rfl ?_
    rintro ⟨j, ks2, rs2⟩ ⟨hj, hop2⟩
    dsimp only at hj hop2
    refine Gx.know (m' := [(0, mv), (3, ptr b2 0), (4, .int .i64 ((i : Nat) : Int)), (10, mv), (11, .int .i64 ((money.length : Nat) : Int)), (12, .int .i64 ((i : Nat) : Int)), (28, mv), (29, .int .i64 ((money.length : Nat) : Int)), (30, .int .i64 ((j : Nat) : Int))]) (.cons rfl (.cons rfl (.cons rfl (.cons rfl (.cons rfl (.cons rfl (.cons rfl (.cons rfl (.cons rfl .nil))))))))) (Gx.norm (l' := [Hp.rec_ b2 [v6, .map (some b1)], Hp.own FP 2 v6 (((money.take i).map mkP) ++ [(mkP x4)]), Hp.map Try.prog 47 pairL vB b1 ks2, Hp.big rowH rs2, R]) rfl ?_)
    refine Gx.seq ?_
    refine Gx.region ?_
    refine Gx.val rfl rfl rfl (val_lss rfl rfl rfl) ?_
    refine Gx.done ?_
    refine Gx.thenN ?_
    refine Gx.seq ?_
    refine Gx.dec rfl (fun h7 => ?_) (fun h7 => ?_)
    · refine Gx.skip ?_
      refine Gx.thenN ?_
      refine Gx.seq ?_
      refine Gx.block ?_
      refine Gx.seq ?_
      refine Gx.region ?_
      refine Gx.val rfl rfl rfl (val_move rfl rfl) ?_
      refine Gx.val rfl rfl rfl (val_assign rfl rfl) ?_
      refine Gx.done ?_
      refine Gx.thenN ?_
      refine Gx.seq ?_
      refine Gx.region ?_
      refine Gx.val rfl rfl rfl (val_move rfl rfl) ?_
      refine Gx.val rfl rfl rfl (val_move rfl rfl) ?_
      refine Gx.val rfl rfl rfl (val_neq rfl rfl rfl) ?_
      refine Gx.done ?_
      refine Gx.thenN ?_
      refine Gx.dec rfl (fun h8 => ?_) (fun h8 => ?_)
      · refine Gx.slot (t := 4) (v := .int .i64 (((smN i).val : Nat) : Int)) (by rw [smN_val (i := i) (by omega)] <;> rfl) ?_
        refine Gx.slot (t := 6) (v := .int .i64 (((smN j).val : Nat) : Int)) (by rw [smN_val (i := j) (by omega)] <;> rfl) ?_
        refine Gx.region ?_
        refine Gx.val rfl rfl rfl (val_move rfl rfl) ?_
        refine Gx.val rfl rfl rfl (val_nilCheck rfl rfl) ?_
        refine Gx.val rfl rfl rfl (Val.cast (val_fieldAddr rfl Try.underlying44 rfl Try.ty42 rfl rfl) (v' := ptr b2 1) rfl) ?_
        refine Gx.val rfl rfl rfl (val_load rfl Try.ty42 rfl rfl (cell_rec (k := 0) rfl rfl)) ?_
        refine Gx.val rfl rfl rfl (val_move rfl rfl) ?_
        refine Gx.val rfl rfl rfl (val_move rfl rfl) ?_
        refine Gx.val rfl rfl rfl (val_build rfl (qs := [(0, .int .i64 (((smN i).val : Nat) : Int)), (1, .int .i64 (((smN j).val : Nat) : Int))]) rfl rfl (fun w => by go_simp) (v := .agg #[.int .i64 (((smN i).val : Nat) : Int), .int .i64 (((smN j).val : Nat) : Int)])) ?_
        refine Gx.val rfl rfl rfl (val_build rfl (qs := []) rfl rfl (fun w => by go_simp) (v := .agg #[.slice none 0 0, .slice none 0 0, .bool false])) ?_
        refine Gx.eff rfl rfl rfl (eff_box rfl rfl (vs := [.slice none 0 0, .slice none 0 0, .bool false]) rfl) ?_
        rintro _ _ ⟨b9, rfl, rfl⟩
        refine Gx.eff0 rfl rfl (eff_mapUpdate (vf := vB) rfl Try.underlying42 Try.kL pairK rfl rfl rfl (i := (smN i, smN j)) (r := b9) (trivial) (k := 3) rfl (by have := hop2.len; unfold maxLen; omega) (l' := [Hp.rec_ b9 [.slice none 0 0, .slice none 0 0, .bool false], Hp.rec_ b2 [v6, .map (some b1)], Hp.own FP 2 v6 (((money.take i).map mkP) ++ [(mkP x4)]), Hp.map Try.prog 47 pairL vB b1 (putM ks2 (smN i, smN j) b9), Hp.big rowH rs2, R]) rfl) ?_
        rintro _ _ rfl
        refine Gx.done ?_
        refine Gx.blkN ?_
        refine Gx.thenN ?_
        refine Gx.slot (t := 4) (v := .int .i64 ((i : Nat) : Int)) (by rw [smN_val (i := i) (by omega)] <;> rfl) ?_
        refine Gx.ownNil FI 1 ?_
        refine Gx.ownNil FI 1 ?_
        refine Gx.front 6 rfl ?_
        refine Gx.front 2 rfl ?_
        refine Gx.front 2 rfl ?_
        refine Gx.front 3 rfl ?_
        refine Gx.sepEq (l' := [Hp.big rowH (rs2 ++ [(⟨b9, .slice none 0 0, .slice none 0 0, zW⟩ : Rm)]), Hp.rec_ b2 [v6, .map (some b1)], Hp.own FP 2 v6 (((money.take i).map mkP) ++ [(mkP x4)]), Hp.map Try.prog 47 pairL vB b1 (ks2 ++ [((smN i, smN j), b9)]), R]) (by rw [← putM_new b9 (hop2.new (by omega) (by omega) h6), Hp.big_append]; show Hp.rec_ b9 [.slice none 0 0, .slice none 0 0, .bool false] * (Hp.own FI 1 (.slice none 0 0) ([]) * (Hp.own FI 1 (.slice none 0 0) ([]) * (Hp.big rowH rs2 * _))) = (Hp.big rowH rs2 * ((Hp.rec_ b9 [.slice none 0 0, .slice none 0 0, .bool false] * (Hp.own FI 1 (.slice none 0 0) ([]) * Hp.own FI 1 (.slice none 0 0) ([]))) * 1)) * _; rw [Hp.mul_one]; ac_rfl) ?_
        refine Gx.region ?_
        refine Gx.val rfl rfl rfl (val_add rfl rfl rfl (r := ((j + 1 : Nat) : Int)) (w64 (by omega) (by omega))) ?_
        refine Gx.val rfl rfl rfl (val_move rfl rfl) ?_
        refine Gx.done ?_
        refine Gx.thenN ?_
        refine Gx.front 4 rfl ?_
        refine Gx.front 1 rfl ?_
        refine Gx.front 4 rfl ?_
        refine Gx.front 4 rfl ?_
        refine Gx.front 4 rfl ?_
        exact Gx.round (j + 1, (ks2 ++ [((smN i, smN j), b9)]), (rs2 ++ [(⟨b9, .slice none 0 0, .slice none 0 0, zW⟩ : Rm)])) ⟨by first | omega | (dsimp only; omega), hop2.add (by omega) (by omega) h6 (by omega)⟩ (by first | omega | (dsimp only; omega)) ((.cons rfl (.cons rfl (.cons rfl (.cons rfl (.cons rfl (.cons rfl (.cons rfl (.cons rfl (.cons rfl .nil)))))))))) rfl
      · refine Gx.skip ?_
        refine Gx.blkN ?_
        refine Gx.thenN ?_
        refine Gx.region ?_
        refine Gx.val rfl rfl rfl (val_add rfl rfl rfl (r := ((j + 1 : Nat) : Int)) (w64 (by omega) (by omega))) ?_
        refine Gx.val rfl rfl rfl (val_move rfl rfl) ?_
        refine Gx.done ?_
        refine Gx.thenN ?_
        exact Gx.round (j + 1, ks2, rs2) ⟨by first | omega | (dsimp only; omega), (by obtain rfl : i = j := (by omega); exact hop2.skip)⟩ (by first | omega | (dsimp only; omega)) ((.cons rfl (.cons rfl (.cons rfl (.cons rfl (.cons rfl (.cons rfl (.cons rfl (.cons rfl (.cons rfl .nil)))))))))) rfl
    · refine Gx.exit ?_
      refine Gx.thenE ?_
      refine Gx.thenE ?_
      refine Gx.blkE ?_
      refine Gx.blkN ?_
      refine Gx.thenN ?_
      refine Gx.region ?_
      refine Gx.val rfl rfl rfl (val_add rfl rfl rfl (r := ((i + 1 : Nat) : Int)) (w64 (by omega) (by omega))) ?_
      refine Gx.val rfl rfl rfl (val_move rfl rfl) ?_
      refine Gx.done ?_
      refine Gx.thenN ?_
      refine Gx.norm (l' := [Hp.rec_ b2 [v6, .map (some b1)], Hp.own FP 2 v6 ((money.take (i + 1)).map mkP), Hp.map Try.prog 47 pairL vB b1 ks2, Hp.big rowH rs2, R]) (by rw [mk_succ hx4] <;> rfl) ?_
      exact Gx.round (i + 1, v6, ks2, rs2) ⟨by first | omega | (dsimp only; omega), hiv6, (by obtain rfl : money.length = j := (by omega); exact hop2.turn h6)⟩ (by first | omega | (dsimp only; omega)) ((.cons rfl (.cons rfl (.cons rfl (.cons rfl (.cons rfl .nil)))))) rfl
  · refine Gx.exit ?_
    refine Gx.thenE ?_
    refine Gx.thenE ?_
    refine Gx.blkE ?_
    refine Gx.thenN ?_
    refine Gx.seq ?_
    refine Gx.region ?_
    refine Gx.val rfl rfl rfl (val_move rfl rfl) ?_
    refine Gx.val rfl rfl rfl (val_assign rfl rfl) ?_
    refine Gx.done ?_
    refine Gx.thenN ?_
    refine Gx.ret ?_
    obtain rfl : i = money.length := by omega
    refine Gx.norm (l' := [Hp.rec_ b2 [pv, .map (some b1)], Hp.own FP 2 pv ((ss0 money).ps), Hp.map Try.prog 47 pairL vB b1 ks, Hp.big rowH rs, R]) (by rw [List.take_length] <;> rfl) ?_
    refine Gx.sat (l' := [worldH b2 money.length (ss0 money), R]) (fun w H => worldH.shut (s := ss0 money) (hop.all h6) H) ?_
    refine Gx.ret1 Try.results11 rfl ?_
    exact ⟨b2, rfl, sep1 _ _⟩

end Go.Proofs.Ytanipkddfngnnaa
