/- May the money be? All pays. The walks. No condition. -/
import Derived.Test.YtfeeociajllbhaaDoorLA1
import Derived.Test.YtfeeociajllbhaaDoorW2
namespace Go.Proofs.YtfeeociajllbhaaDoor.Lg
open Go.RowKit
set_option linter.unusedVariables false
set_option linter.unusedSimpArgs false
set_option maxRecDepth 100000

def OkM (l : List Int) : Prop := ∀ x ∈ l, 0 ≤ x ∧ x ≤ 1099511627776
structure OkL (money : List Int) (many : Int) : Prop where
  low : 1 ≤ money.length
  high : money.length ≤ 12
  few : many ≤ 60
  all : OkM money
theorem codes_bd {c : Int} : errV c = errV c := rfl
theorem len_bd {W : World} {v : Value} {α : Type} {f : α → List Value} {sz : Nat} {xs : List α} (h : SlS f sz W v xs) : xs.length ≤ 140737488355328 := by obtain ⟨_, _, _, hm, _⟩ := h; exact hm
theorem index_any {W : World} {v : Value} {l : List Int} (hs : SlS FM 1 W v l) :
    Calls Tryd.prog 35 #[v, .func (.func 27) #[] #[]] W fun e w' => ∃ u, e = .returned u ∧ (∃ z : Int, u = .int .i64 z ∧ (0 ≤ z ↔ ¬ OkM l)) ∧ Below W.heap.size W w' := by
  have hm := len_bd hs
  refine calls_rel (R := fun v => ∃ z : Int, v = .int .i64 z ∧ (0 ≤ z ↔ ¬ OkM l)) (Gx.enter (l := []) Tryd.func35 rfl Tryd.ntmps35 rfl (Sat.start W) ?_)
  refine Gx.know (m' := [(0, v), (1, .func (.func 27) #[] #[])]) (.cons rfl (.cons rfl .nil)) ?_
  refine Gx.seq ?_
  refine Gx.region ?_
  refine Gx.val rfl rfl rfl (val_assign rfl rfl) ?_
  refine Gx.done ?_
  refine Gx.thenN ?_
  refine Gx.seq ?_
  refine Gx.seq ?_
  refine Gx.region ?_
  refine Gx.val rfl rfl rfl (val_move rfl rfl) ?_
  refine Gx.val rfl rfl rfl (val_len rfl Tryd.underlying24 rfl (len_base hs)) ?_
  refine Gx.val rfl rfl rfl (val_move rfl rfl) ?_
  refine Gx.done ?_
  refine Gx.thenN ?_
  refine Gx.block ?_
  refine Gx.loop (ι := Nat) (fun ξ => (ξ ≤ l.length) ∧ (∀ (q : Nat) (y : Int), q < ξ → l[q]? = some y → 0 ≤ y ∧ y ≤ 1099511627776)) (fun ξ => [(0, v), (1, .func (.func 27) #[] #[]), (7, .int .i64 ((l.length : Nat) : Int)), (8, .int .i64 ((ξ : Nat) : Int))]) (fun ξ => []) (fun ξ => l.length - ξ) 0 ⟨by first | omega | (dsimp only; omega), fun q y hq => by omega⟩ ((.cons rfl (.cons rfl (.cons rfl (.cons rfl .nil))))) rfl ?_
  rintro k ⟨hk, hn⟩
  refine Gx.know (m' := [(0, v), (1, .func (.func 27) #[] #[]), (7, .int .i64 ((l.length : Nat) : Int)), (8, .int .i64 ((k : Nat) : Int))]) (.cons rfl (.cons rfl (.cons rfl (.cons rfl .nil)))) (Gx.norm (l' := []) rfl ?_)
  refine Gx.seq ?_
  refine Gx.region ?_
  refine Gx.val rfl rfl rfl (val_lss rfl rfl rfl) ?_
  refine Gx.done ?_
  refine Gx.thenN ?_
  refine Gx.seq ?_
  refine Gx.dec rfl (fun h1 => ?_) (fun h1 => ?_)
  · refine Gx.skip ?_
    refine Gx.thenN ?_
    refine Gx.seq ?_
    refine Gx.block ?_
    refine Gx.seq ?_
    refine Gx.region ?_
    refine Gx.val rfl rfl rfl (val_move rfl rfl) ?_
    refine Gx.val rfl rfl rfl (val_assign rfl rfl) ?_
    refine Gx.done ?_
    refine Gx.thenN ?_
    refine Gx.seq ?_
    refine Gx.region ?_
    refine Gx.val rfl rfl rfl (val_move rfl rfl) ?_
    refine Gx.val rfl rfl rfl (val_move rfl rfl) ?_
    refine Gx.val rfl rfl rfl (val_move rfl rfl) ?_
    obtain ⟨x2, hx2⟩ := get_of_lt (xs := l) (k := k) (by omega)
    refine Gx.val rfl rfl rfl (val_ixa rfl Tryd.underlying24 Tryd.ty2 rfl rfl (j := k) (rfl) (reach_base hs hx2)) ?_
    refine Gx.val rfl rfl rfl (val_load rfl Tryd.ty2 rfl rfl (cell_base (i := 0) hs hx2 rfl)) ?_
    refine Gx.val rfl rfl rfl (val_callV (vs := [.int .i64 x2]) (fs := []) (cs := []) rfl Tryd.fn27 rfl rfl (fun w H => bad12_any x2 _)) ?_
    refine Gx.done ?_
    refine Gx.thenN ?_
    refine Gx.dec rfl (fun h3 => ?_) (fun h3 => ?_)
    · refine Gx.seq ?_
      refine Gx.region ?_
      refine Gx.val rfl rfl rfl (val_move rfl rfl) ?_
      refine Gx.val rfl rfl rfl (val_assign rfl rfl) ?_
      refine Gx.done ?_
      refine Gx.thenN ?_
      refine Gx.ret ?_
      refine Gx.blkR ?_
      refine Gx.thenR ?_
      refine Gx.thenR ?_
      refine Gx.blkR ?_
      refine Gx.thenR ?_
      refine Gx.ret1 Tryd.results35 rfl ?_
      exact ⟨_, rfl, iff_of_true (by omega) (fun h => by have := h x2 (List.mem_of_getElem? hx2); omega)⟩
    · refine Gx.skip ?_
      refine Gx.blkN ?_
      refine Gx.thenN ?_
      refine Gx.region ?_
      refine Gx.val rfl rfl rfl (val_add rfl rfl rfl (r := ((k + 1 : Nat) : Int)) (w64 (by omega) (by omega))) ?_
      refine Gx.val rfl rfl rfl (val_move rfl rfl) ?_
      refine Gx.done ?_
      refine Gx.thenN ?_
      exact Gx.round (k + 1) ⟨by first | omega | (dsimp only; omega), fun q y hq hy => by rcases Nat.lt_or_eq_of_le (Nat.le_of_lt_succ hq) with h | rfl; (exact hn q y h hy); (cases hx2.symm.trans hy; omega)⟩ (by first | omega | (dsimp only; omega)) ((.cons rfl (.cons rfl (.cons rfl (.cons rfl .nil))))) rfl
  · refine Gx.exit ?_
    refine Gx.thenE ?_
    refine Gx.thenE ?_
    refine Gx.blkE ?_
    refine Gx.thenN ?_
    refine Gx.seq ?_
    refine Gx.region ?_
    refine Gx.val rfl rfl rfl (val_assign rfl rfl) ?_
    refine Gx.done ?_
    refine Gx.thenN ?_
    refine Gx.ret ?_
    refine Gx.ret1 Tryd.results35 rfl ?_
    refine ⟨_, rfl, iff_of_false (by decide) (fun h => h fun x hx => ?_)⟩
    obtain ⟨q, hq⟩ := List.getElem?_of_mem hx
    exact hn q x (by have := (List.getElem?_eq_some_iff.1 hq).1; omega) hq

theorem contains_any {W : World} {v : Value} {l : List Int} (hs : SlS FM 1 W v l) :
    Calls Tryd.prog 26 #[v, .func (.func 27) #[] #[]] W fun e w' => ∃ u, e = .returned u ∧ (∃ b : Bool, u = .bool b ∧ (b = true ↔ ¬ OkM l)) ∧ Below W.heap.size W w' := by
  refine calls_rel (R := fun v => ∃ b : Bool, v = .bool b ∧ (b = true ↔ ¬ OkM l)) (Gx.enter (l := []) Tryd.func26 rfl Tryd.ntmps26 rfl (Sat.start W) ?_)
  refine Gx.know (m' := [(0, v), (1, .func (.func 27) #[] #[])]) (.cons rfl (.cons rfl .nil)) ?_
  refine Gx.seq ?_
  refine Gx.region ?_
  refine Gx.val rfl rfl rfl (val_assign rfl rfl) ?_
  refine Gx.done ?_
  refine Gx.thenN ?_
  refine Gx.seq ?_
  refine Gx.region ?_
  refine Gx.val rfl rfl rfl (val_move rfl rfl) ?_
  refine Gx.val rfl rfl rfl (val_move rfl rfl) ?_
  refine Gx.eff rfl rfl rfl (eff_callE (vs := [v, .func (.func 27) #[] #[]]) rfl Tryd.fn35 rfl (R := fun v => ∃ z : Int, v = .int .i64 z ∧ (0 ≤ z ↔ ¬ OkM l)) (fun w H => index_any (hs.below H.below))) ?_
  rintro _ _ ⟨⟨z, rfl, hz⟩, rfl⟩
  refine Gx.val rfl rfl rfl (val_geq rfl rfl rfl) ?_
  refine Gx.val rfl rfl rfl (val_assign rfl rfl) ?_
  refine Gx.done ?_
  refine Gx.thenN ?_
  refine Gx.ret ?_
  refine Gx.ret1 Tryd.results26 rfl ?_
  exact ⟨_, rfl, decide_eq_true_iff.trans hz⟩

theorem lcheck_any {W : World} {v : Value} {l : List Int} (many : Int) (hs : SlS FM 1 W v l) :
    Calls Tryd.prog 6 #[v, .int .i64 many] W fun e w' => ∃ u, e = .returned u ∧ (∃ c : Int, u = .int .i64 c ∧ (c = 0 ↔ OkL l many)) ∧ Below W.heap.size W w' := by
  have hm := len_bd hs
  refine calls_rel (R := fun v => ∃ c : Int, v = .int .i64 c ∧ (c = 0 ↔ OkL l many)) (Gx.enter (l := []) Tryd.func6 rfl Tryd.ntmps6 rfl (Sat.start W) ?_)
  refine Gx.know (m' := [(0, v), (1, .int .i64 many)]) (.cons rfl (.cons rfl .nil)) ?_
  refine Gx.seq ?_
  refine Gx.region ?_
  refine Gx.val rfl rfl rfl (val_assign rfl rfl) ?_
  refine Gx.done ?_
  refine Gx.thenN ?_
  refine Gx.seq ?_
  refine Gx.seq ?_
  refine Gx.region ?_
  refine Gx.val rfl rfl rfl (val_move rfl rfl) ?_
  refine Gx.val rfl rfl rfl (val_len rfl Tryd.underlying24 rfl (len_base hs)) ?_
  refine Gx.val rfl rfl rfl (val_eql rfl rfl rfl) ?_
  refine Gx.val rfl rfl rfl (val_move rfl rfl) ?_
  refine Gx.cases (t := 10) rfl (fun h1 => ?_) (fun h1 => ?_)
  · refine Gx.skipg rfl rfl rfl rfl rfl rfl ?_
    refine Gx.skipg rfl rfl rfl rfl rfl rfl ?_
    refine Gx.skipg rfl rfl rfl rfl rfl rfl ?_
    refine Gx.val rfl rfl rfl (val_pickT rfl rfl rfl) ?_
    refine Gx.val rfl rfl rfl (val_move rfl rfl) ?_
    refine Gx.skipg rfl rfl rfl rfl rfl rfl ?_
    refine Gx.skipg rfl rfl rfl rfl rfl rfl ?_
    refine Gx.val rfl rfl rfl (val_pickT rfl rfl rfl) ?_
    refine Gx.done ?_
    refine Gx.thenN ?_
    refine Gx.t rfl ?_
    refine Gx.seq ?_
    refine Gx.region ?_
    refine Gx.val rfl rfl rfl (val_assign rfl rfl) ?_
    refine Gx.done ?_
    refine Gx.thenN ?_
    refine Gx.ret ?_
    refine Gx.thenR ?_
    refine Gx.ret1 Tryd.results6 rfl ?_
    exact ⟨1, rfl, fun h => absurd h (by decide), fun h => by have h1 := h.low; have h2 := h.high; have h3 := h.few; omega⟩
  · refine Gx.valg rfl rfl rfl rfl rfl (val_move rfl rfl) ?_
    refine Gx.valg rfl rfl rfl rfl rfl (val_len rfl Tryd.underlying24 rfl (len_base hs)) ?_
    refine Gx.valg rfl rfl rfl rfl rfl (val_gtr rfl rfl rfl) ?_
    refine Gx.val rfl rfl rfl (val_pickF rfl rfl rfl) ?_
    refine Gx.val rfl rfl rfl (val_move rfl rfl) ?_
    refine Gx.cases (t := 15) rfl (fun h2 => ?_) (fun h2 => ?_)
    · refine Gx.skipg rfl rfl rfl rfl rfl rfl ?_
      refine Gx.skipg rfl rfl rfl rfl rfl rfl ?_
      refine Gx.val rfl rfl rfl (val_pickT rfl rfl rfl) ?_
      refine Gx.done ?_
      refine Gx.thenN ?_
      refine Gx.t rfl ?_
      refine Gx.seq ?_
      refine Gx.region ?_
      refine Gx.val rfl rfl rfl (val_assign rfl rfl) ?_
      refine Gx.done ?_
      refine Gx.thenN ?_
      refine Gx.ret ?_
      refine Gx.thenR ?_
      refine Gx.ret1 Tryd.results6 rfl ?_
      exact ⟨1, rfl, fun h => absurd h (by decide), fun h => by have h1 := h.low; have h2 := h.high; have h3 := h.few; omega⟩
    · refine Gx.valg rfl rfl rfl rfl rfl (val_move rfl rfl) ?_
      refine Gx.valg rfl rfl rfl rfl rfl (val_gtr rfl rfl rfl) ?_
      refine Gx.val rfl rfl rfl (val_pickF rfl rfl rfl) ?_
      refine Gx.done ?_
      refine Gx.thenN ?_
      refine Gx.dec rfl (fun h3 => ?_) (fun h3 => ?_)
      · refine Gx.seq ?_
        refine Gx.region ?_
        refine Gx.val rfl rfl rfl (val_assign rfl rfl) ?_
        refine Gx.done ?_
        refine Gx.thenN ?_
        refine Gx.ret ?_
        refine Gx.thenR ?_
        refine Gx.ret1 Tryd.results6 rfl ?_
        exact ⟨1, rfl, fun h => absurd h (by decide), fun h => by have h1 := h.low; have h2 := h.high; have h3 := h.few; omega⟩
      · refine Gx.skip ?_
        refine Gx.thenN ?_
        refine Gx.seq ?_
        refine Gx.seq ?_
        refine Gx.region ?_
        refine Gx.val rfl rfl rfl (val_move rfl rfl) ?_
        refine Gx.val rfl rfl rfl (val_len rfl Tryd.underlying24 rfl (len_base hs)) ?_
        refine Gx.val rfl rfl rfl (val_move rfl rfl) ?_
        refine Gx.done ?_
        refine Gx.thenN ?_
        refine Gx.block ?_
        refine Gx.loop (ι := Nat) (fun ξ => (ξ ≤ l.length) ∧ (∀ (q : Nat) (y : Int), q < ξ → l[q]? = some y → 0 ≤ y ∧ y ≤ 1099511627776)) (fun ξ => [(0, v), (1, .int .i64 many), (19, v), (20, .int .i64 ((l.length : Nat) : Int)), (21, .int .i64 ((ξ : Nat) : Int))]) (fun ξ => []) (fun ξ => l.length - ξ) 0 ⟨by first | omega | (dsimp only; omega), fun q y hq => by omega⟩ ((.cons rfl (.cons rfl (.cons rfl (.cons rfl (.cons rfl .nil)))))) rfl ?_
        rintro k ⟨hk, hn⟩
        refine Gx.know (m' := [(0, v), (1, .int .i64 many), (19, v), (20, .int .i64 ((l.length : Nat) : Int)), (21, .int .i64 ((k : Nat) : Int))]) (.cons rfl (.cons rfl (.cons rfl (.cons rfl (.cons rfl .nil))))) (Gx.norm (l' := []) rfl ?_)
        refine Gx.seq ?_
        refine Gx.region ?_
        refine Gx.val rfl rfl rfl (val_lss rfl rfl rfl) ?_
        refine Gx.done ?_
        refine Gx.thenN ?_
        refine Gx.seq ?_
        refine Gx.dec rfl (fun h4 => ?_) (fun h4 => ?_)
        · refine Gx.skip ?_
          refine Gx.thenN ?_
          refine Gx.seq ?_
          refine Gx.block ?_
          refine Gx.seq ?_
          refine Gx.region ?_
          obtain ⟨x5, hx5⟩ := get_of_lt (xs := l) (k := k) (by omega)
          refine Gx.val rfl rfl rfl (val_ixa rfl Tryd.underlying24 Tryd.ty2 rfl rfl (j := k) (rfl) (reach_base hs hx5)) ?_
          refine Gx.val rfl rfl rfl (val_load rfl Tryd.ty2 rfl rfl (cell_base (i := 0) hs hx5 rfl)) ?_
          refine Gx.val rfl rfl rfl (val_assign rfl rfl) ?_
          refine Gx.done ?_
          refine Gx.thenN ?_
          refine Gx.seq ?_
          refine Gx.region ?_
          refine Gx.val rfl rfl rfl (val_move rfl rfl) ?_
          refine Gx.val rfl rfl rfl (val_lss rfl rfl rfl) ?_
          refine Gx.val rfl rfl rfl (val_move rfl rfl) ?_
          refine Gx.cases (t := 27) rfl (fun h6 => ?_) (fun h6 => ?_)
          · refine Gx.skipg rfl rfl rfl rfl rfl rfl ?_
            refine Gx.skipg rfl rfl rfl rfl rfl rfl ?_
            refine Gx.val rfl rfl rfl (val_pickT rfl rfl rfl) ?_
            refine Gx.done ?_
            refine Gx.thenN ?_
            refine Gx.t rfl ?_
            refine Gx.seq ?_
            refine Gx.region ?_
            refine Gx.val rfl rfl rfl (val_assign rfl rfl) ?_
            refine Gx.done ?_
            refine Gx.thenN ?_
            refine Gx.ret ?_
            refine Gx.blkR ?_
            refine Gx.thenR ?_
            refine Gx.thenR ?_
            refine Gx.blkR ?_
            refine Gx.thenR ?_
            refine Gx.ret1 Tryd.results6 rfl ?_
            exact ⟨2, rfl, fun h => absurd h (by decide), fun h => by have := h.all x5 (List.mem_of_getElem? hx5); omega⟩
          · refine Gx.valg rfl rfl rfl rfl rfl (val_move rfl rfl) ?_
            refine Gx.valg rfl rfl rfl rfl rfl (val_gtr rfl rfl rfl) ?_
            refine Gx.val rfl rfl rfl (val_pickF rfl rfl rfl) ?_
            refine Gx.done ?_
            refine Gx.thenN ?_
            refine Gx.dec rfl (fun h7 => ?_) (fun h7 => ?_)
            · refine Gx.seq ?_
              refine Gx.region ?_
              refine Gx.val rfl rfl rfl (val_assign rfl rfl) ?_
              refine Gx.done ?_
              refine Gx.thenN ?_
              refine Gx.ret ?_
              refine Gx.blkR ?_
              refine Gx.thenR ?_
              refine Gx.thenR ?_
              refine Gx.blkR ?_
              refine Gx.thenR ?_
              refine Gx.ret1 Tryd.results6 rfl ?_
              exact ⟨2, rfl, fun h => absurd h (by decide), fun h => by have := h.all x5 (List.mem_of_getElem? hx5); omega⟩
            · refine Gx.skip ?_
              refine Gx.blkN ?_
              refine Gx.thenN ?_
              refine Gx.region ?_
              refine Gx.val rfl rfl rfl (val_add rfl rfl rfl (r := ((k + 1 : Nat) : Int)) (w64 (by omega) (by omega))) ?_
              refine Gx.val rfl rfl rfl (val_move rfl rfl) ?_
              refine Gx.done ?_
              refine Gx.thenN ?_
              exact Gx.round (k + 1) ⟨by first | omega | (dsimp only; omega), fun q y hq hy => by rcases Nat.lt_or_eq_of_le (Nat.le_of_lt_succ hq) with h | rfl; (exact hn q y h hy); (cases hx5.symm.trans hy; omega)⟩ (by first | omega | (dsimp only; omega)) ((.cons rfl (.cons rfl (.cons rfl (.cons rfl (.cons rfl .nil)))))) rfl
        · refine Gx.exit ?_
          refine Gx.thenE ?_
          refine Gx.thenE ?_
          refine Gx.blkE ?_
          refine Gx.thenN ?_
          refine Gx.seq ?_
          refine Gx.region ?_
          refine Gx.val rfl rfl rfl (val_assign rfl rfl) ?_
          refine Gx.done ?_
          refine Gx.thenN ?_
          refine Gx.ret ?_
          refine Gx.ret1 Tryd.results6 rfl ?_
          refine ⟨0, rfl, fun _ => ⟨by omega, by omega, by omega, fun x hx => ?_⟩, fun _ => rfl⟩
          obtain ⟨q, hq⟩ := List.getElem?_of_mem hx
          exact hn q x (by have := (List.getElem?_eq_some_iff.1 hq).1; omega) hq

theorem play_no {W : World} {mv pv : Value} {money : List Int} {pays : List Py} (hm : SlS FM 1 W mv money) (hp : SlS FP 4 W pv pays) (hno : ¬ OkL money pays.length) :
    Calls Tryd.prog 13 #[mv, pv] W fun e w' => ∃ u, e = .returned u ∧ (∃ c : Int, u = .tuple #[.slice none 0 0, .slice none 0 0, .int .i64 c] ∧ c ≠ 0) ∧ Below W.heap.size W w' := by
  have hm1 := len_bd hm
  have hp1 := len_bd hp
  refine calls_rel (R := fun v => ∃ c : Int, v = .tuple #[.slice none 0 0, .slice none 0 0, .int .i64 c] ∧ c ≠ 0) (Gx.enter (l := []) Tryd.func13 rfl Tryd.ntmps13 rfl (Sat.start W) ?_)
  refine Gx.know (m' := [(0, mv), (1, pv)]) (.cons rfl (.cons rfl .nil)) ?_
  refine Gx.seq ?_
  refine Gx.region ?_
  refine Gx.val rfl rfl rfl (val_assign rfl rfl) ?_
  refine Gx.val rfl rfl rfl (val_assign rfl rfl) ?_
  refine Gx.val rfl rfl rfl (val_assign rfl rfl) ?_
  refine Gx.done ?_
  refine Gx.thenN ?_
  refine Gx.seq ?_
  refine Gx.seq ?_
  refine Gx.region ?_
  refine Gx.val rfl rfl rfl (val_move rfl rfl) ?_
  refine Gx.val rfl rfl rfl (val_len rfl Tryd.underlying24 rfl (len_base hm)) ?_
  refine Gx.val rfl rfl rfl (val_eql rfl rfl rfl) ?_
  refine Gx.val rfl rfl rfl (val_move rfl rfl) ?_
  refine Gx.cases (t := 16) rfl (fun h1 => ?_) (fun h1 => ?_)
  · refine Gx.skipg rfl rfl rfl rfl rfl rfl ?_
    refine Gx.skipg rfl rfl rfl rfl rfl rfl ?_
    refine Gx.skipg rfl rfl rfl rfl rfl rfl ?_
    refine Gx.val rfl rfl rfl (val_pickT rfl rfl rfl) ?_
    refine Gx.val rfl rfl rfl (val_move rfl rfl) ?_
    refine Gx.skipg rfl rfl rfl rfl rfl rfl ?_
    refine Gx.skipg rfl rfl rfl rfl rfl rfl ?_
    refine Gx.skipg rfl rfl rfl rfl rfl rfl ?_
    refine Gx.val rfl rfl rfl (val_pickT rfl rfl rfl) ?_
    refine Gx.done ?_
    refine Gx.thenN ?_
    refine Gx.t rfl ?_
    refine Gx.seq ?_
    refine Gx.region ?_
    refine Gx.val rfl rfl rfl (val_assign rfl rfl) ?_
    refine Gx.val rfl rfl rfl (val_assign rfl rfl) ?_
    refine Gx.val rfl rfl rfl (val_assign rfl rfl) ?_
    refine Gx.done ?_
    refine Gx.thenN ?_
    refine Gx.ret ?_
    refine Gx.thenR ?_
    refine Gx.ret3 Tryd.results13 rfl rfl rfl ?_
    exact ⟨_, rfl, by decide⟩
  · refine Gx.valg rfl rfl rfl rfl rfl (val_move rfl rfl) ?_
    refine Gx.valg rfl rfl rfl rfl rfl (val_len rfl Tryd.underlying24 rfl (len_base hm)) ?_
    refine Gx.valg rfl rfl rfl rfl rfl (val_gtr rfl rfl rfl) ?_
    refine Gx.val rfl rfl rfl (val_pickF rfl rfl rfl) ?_
    refine Gx.val rfl rfl rfl (val_move rfl rfl) ?_
    refine Gx.cases (t := 21) rfl (fun h2 => ?_) (fun h2 => ?_)
    · refine Gx.skipg rfl rfl rfl rfl rfl rfl ?_
      refine Gx.skipg rfl rfl rfl rfl rfl rfl ?_
      refine Gx.skipg rfl rfl rfl rfl rfl rfl ?_
      refine Gx.val rfl rfl rfl (val_pickT rfl rfl rfl) ?_
      refine Gx.done ?_
      refine Gx.thenN ?_
      refine Gx.t rfl ?_
      refine Gx.seq ?_
      refine Gx.region ?_
      refine Gx.val rfl rfl rfl (val_assign rfl rfl) ?_
      refine Gx.val rfl rfl rfl (val_assign rfl rfl) ?_
      refine Gx.val rfl rfl rfl (val_assign rfl rfl) ?_
      refine Gx.done ?_
      refine Gx.thenN ?_
      refine Gx.ret ?_
      refine Gx.thenR ?_
      refine Gx.ret3 Tryd.results13 rfl rfl rfl ?_
      exact ⟨_, rfl, by decide⟩
    · refine Gx.valg rfl rfl rfl rfl rfl (val_move rfl rfl) ?_
      refine Gx.valg rfl rfl rfl rfl rfl (val_len rfl Tryd.underlying34 rfl (len_base hp)) ?_
      refine Gx.valg rfl rfl rfl rfl rfl (val_gtr rfl rfl rfl) ?_
      refine Gx.val rfl rfl rfl (val_pickF rfl rfl rfl) ?_
      refine Gx.done ?_
      refine Gx.thenN ?_
      refine Gx.dec rfl (fun h3 => ?_) (fun h3 => ?_)
      · refine Gx.seq ?_
        refine Gx.region ?_
        refine Gx.val rfl rfl rfl (val_assign rfl rfl) ?_
        refine Gx.val rfl rfl rfl (val_assign rfl rfl) ?_
        refine Gx.val rfl rfl rfl (val_assign rfl rfl) ?_
        refine Gx.done ?_
        refine Gx.thenN ?_
        refine Gx.ret ?_
        refine Gx.thenR ?_
        refine Gx.ret3 Tryd.results13 rfl rfl rfl ?_
        exact ⟨_, rfl, by decide⟩
      · refine Gx.skip ?_
        refine Gx.thenN ?_
        refine Gx.seq ?_
        refine Gx.seq ?_
        refine Gx.region ?_
        refine Gx.val rfl rfl rfl (val_move rfl rfl) ?_
        refine Gx.eff rfl rfl rfl (eff_callE (vs := [mv, .func (.func 27) #[] #[]]) rfl Tryd.fn26 rfl (R := fun v => ∃ b : Bool, v = .bool b ∧ (b = true ↔ ¬ OkM money)) (fun w H => contains_any (hm.below H.below))) ?_
        rintro _ _ ⟨⟨b4, rfl, hb4⟩, rfl⟩
        refine Gx.done ?_
        refine Gx.thenN ?_
        refine Gx.bool rfl (fun h5 => ?_) (fun h5 => ?_)
        · refine Gx.seq ?_
          refine Gx.region ?_
          refine Gx.val rfl rfl rfl (val_assign rfl rfl) ?_
          refine Gx.val rfl rfl rfl (val_assign rfl rfl) ?_
          refine Gx.val rfl rfl rfl (val_assign rfl rfl) ?_
          refine Gx.done ?_
          refine Gx.thenN ?_
          refine Gx.ret ?_
          refine Gx.thenR ?_
          refine Gx.ret3 Tryd.results13 rfl rfl rfl ?_
          exact ⟨_, rfl, by decide⟩
        · exfalso
          refine hno ⟨by omega, by omega, by omega, Classical.byContradiction fun q => ?_⟩
          have := hb4.2 q
          simp_all

end Go.Proofs.YtfeeociajllbhaaDoor.Lg
