/- The first that; is there one; may needs be. The walks. No condition. -/
import Derived.Test.YtplcflifofomjaaD1
namespace Go.Proofs.Ytplcflifofomjaa
open Go.RowKit
set_option linter.unusedVariables false
set_option linter.unusedSimpArgs false
set_option maxRecDepth 100000

def idxI (q : Int → Bool) (xs : List Int) : Int := if fst q xs < xs.length then ((fst q xs : Nat) : Int) else -1
abbrev idxV (q : Int → Bool) (xs : List Int) : Value := .int .i64 (idxI q xs)
theorem index_any19 {W : World} {wv : Value} {xs : List Int} {q : Int → Bool} {b1 : Nat} (hx : SlS FZ 1 W wv xs) (hq : ∀ w', Below W.heap.size W w' → ∀ x ∈ xs, Calls Try.prog 19 #[.int .i64 x, ptr b1 0] w' fun e w2 => e = .returned (.bool (q x)) ∧ Below w'.heap.size w' w2) :
    Calls Try.prog 27 #[wv, .func (.func 19) #[] #[ptr b1 0]] W fun e w' => e = .returned (idxV q xs) ∧ Below W.heap.size W w' := by
  have m1 := sls_bd hx
  refine calls_pure (Gx.enter (l := []) Try.func27 rfl Try.ntmps27 rfl (Sat.start W) ?_)
  refine Gx.know (m' := [(0, wv), (1, .func (.func 19) #[] #[ptr b1 0])]) (.cons rfl (.cons rfl .nil)) ?_
  refine Gx.seq ?_
  refine Gx.region ?_
  refine Gx.val rfl rfl rfl (val_assign rfl rfl) ?_
  refine Gx.done ?_
  refine Gx.thenN ?_
  refine Gx.seq ?_
  refine Gx.seq ?_
  refine Gx.region ?_
  refine Gx.val rfl rfl rfl (val_move rfl rfl) ?_
  refine Gx.val rfl rfl rfl (val_len rfl Try.underlying24 rfl (len_base hx)) ?_
  refine Gx.val rfl rfl rfl (val_move rfl rfl) ?_
  refine Gx.done ?_
  refine Gx.thenN ?_
  refine Gx.block ?_
  refine Gx.loop (ι := Nat) (fun ξ => (ξ ≤ fst q xs)) (fun ξ => [(0, wv), (1, .func (.func 19) #[] #[ptr b1 0]), (6, wv), (7, .int .i64 ((xs.length : Nat) : Int)), (8, .int .i64 ((ξ : Nat) : Int))]) (fun ξ => []) (fun ξ => xs.length - ξ) 0 (Nat.zero_le _) ((.cons rfl (.cons rfl (.cons rfl (.cons rfl (.cons rfl .nil)))))) rfl ?_
  rintro k hk
  refine Gx.know (m' := [(0, wv), (1, .func (.func 19) #[] #[ptr b1 0]), (6, wv), (7, .int .i64 ((xs.length : Nat) : Int)), (8, .int .i64 ((k : Nat) : Int))]) (.cons rfl (.cons rfl (.cons rfl (.cons rfl (.cons rfl .nil))))) (Gx.norm (l' := []) rfl ?_)
  refine Gx.seq ?_
  refine Gx.region ?_
  refine Gx.val rfl rfl rfl (val_lss rfl rfl rfl) ?_
  refine Gx.done ?_
  refine Gx.thenN ?_
  refine Gx.seq ?_
  refine Gx.dec rfl (fun h1 => ?_) (fun h1 => ?_)
  · refine Gx.skip ?_
    refine Gx.thenN ?_
    refine Gx.seq ?_
    refine Gx.block ?_
    refine Gx.seq ?_
    refine Gx.region ?_
    refine Gx.val rfl rfl rfl (val_move rfl rfl) ?_
    refine Gx.val rfl rfl rfl (val_assign rfl rfl) ?_
    refine Gx.done ?_
    refine Gx.thenN ?_
    refine Gx.seq ?_
    refine Gx.region ?_
    refine Gx.val rfl rfl rfl (val_move rfl rfl) ?_
    refine Gx.val rfl rfl rfl (val_move rfl rfl) ?_
    refine Gx.val rfl rfl rfl (val_move rfl rfl) ?_
    obtain ⟨x2, hx2⟩ := get_of_lt (xs := xs) (k := k) (by omega)
    refine Gx.val rfl rfl rfl (val_ixa rfl Try.underlying24 Try.ty3 rfl rfl (j := k) (rfl) (reach_base hx hx2)) ?_
    refine Gx.val rfl rfl rfl (val_load rfl Try.ty3 rfl rfl (cell_base (i := 0) hx hx2 rfl)) ?_
    refine Gx.val rfl rfl rfl (val_callV (vs := [.int .i64 x2]) (fs := []) (cs := [ptr b1 0]) rfl Try.fn19 rfl rfl (fun w H => hq w H.below x2 (List.mem_of_getElem? hx2))) ?_
    refine Gx.done ?_
    refine Gx.thenN ?_
    refine Gx.bool rfl (fun h3 => ?_) (fun h3 => ?_)
    · refine Gx.seq ?_
      refine Gx.region ?_
      refine Gx.val rfl rfl rfl (val_move rfl rfl) ?_
      refine Gx.val rfl rfl rfl (val_assign rfl rfl) ?_
      refine Gx.done ?_
      refine Gx.thenN ?_
      refine Gx.ret ?_
      refine Gx.blkR ?_
      refine Gx.thenR ?_
      refine Gx.thenR ?_
      refine Gx.blkR ?_
      refine Gx.thenR ?_
      refine Gx.ret1 Try.results27 rfl ?_
      have h9 := (fst_at hx2 hk).1 h3
      have h8 := (List.getElem?_eq_some_iff.1 hx2).1
      exact (by unfold idxV idxI; rw [if_pos (by omega), h9])
    · refine Gx.skip ?_
      refine Gx.blkN ?_
      refine Gx.thenN ?_
      refine Gx.region ?_
      refine Gx.val rfl rfl rfl (val_add rfl rfl rfl (r := ((k + 1 : Nat) : Int)) (w64 (by omega) (by omega))) ?_
      refine Gx.val rfl rfl rfl (val_move rfl rfl) ?_
      refine Gx.done ?_
      refine Gx.thenN ?_
      exact Gx.round (k + 1) ((fst_at hx2 hk).2 (by simpa using h3)) (by first | omega | (dsimp only; omega)) ((.cons rfl (.cons rfl (.cons rfl (.cons rfl (.cons rfl .nil)))))) rfl
  · refine Gx.exit ?_
    refine Gx.thenE ?_
    refine Gx.thenE ?_
    refine Gx.blkE ?_
    refine Gx.thenN ?_
    refine Gx.seq ?_
    refine Gx.region ?_
    refine Gx.val rfl rfl rfl (val_assign rfl rfl) ?_
    refine Gx.done ?_
    refine Gx.thenN ?_
    refine Gx.ret ?_
    refine Gx.ret1 Try.results27 rfl ?_
    have h9 := fst_le q xs
    exact (by unfold idxV idxI; rw [if_neg (by omega)])

theorem contains_any19 {W : World} {wv : Value} {xs : List Int} {q : Int → Bool} {b1 : Nat} (hx : SlS FZ 1 W wv xs) (hq : ∀ w', Below W.heap.size W w' → ∀ x ∈ xs, Calls Try.prog 19 #[.int .i64 x, ptr b1 0] w' fun e w2 => e = .returned (.bool (q x)) ∧ Below w'.heap.size w' w2) :
    Calls Try.prog 21 #[wv, .func (.func 19) #[] #[ptr b1 0]] W fun e w' => e = .returned (.bool (xs.any q)) ∧ Below W.heap.size W w' := by
  refine calls_pure (Gx.enter (l := []) Try.func21 rfl Try.ntmps21 rfl (Sat.start W) ?_)
  refine Gx.know (m' := [(0, wv), (1, .func (.func 19) #[] #[ptr b1 0])]) (.cons rfl (.cons rfl .nil)) ?_
  refine Gx.seq ?_
  refine Gx.region ?_
  refine Gx.val rfl rfl rfl (val_assign rfl rfl) ?_
  refine Gx.done ?_
  refine Gx.thenN ?_
  refine Gx.seq ?_
  refine Gx.region ?_
  refine Gx.val rfl rfl rfl (val_move rfl rfl) ?_
  refine Gx.val rfl rfl rfl (val_move rfl rfl) ?_
  refine Gx.val rfl rfl rfl (val_call (vs := [wv, .func (.func 19) #[] #[ptr b1 0]]) rfl Try.fn27 rfl (fun w H => index_any19 (hx.below H.below) (fun w' hb x hx' => hq w' (H.below.trans (hb.mono H.size)) x hx'))) ?_
  refine Gx.val rfl rfl rfl (val_geq rfl rfl rfl) ?_
  refine Gx.val rfl rfl rfl (val_assign rfl rfl) ?_
  refine Gx.done ?_
  refine Gx.thenN ?_
  refine Gx.ret ?_
  refine Gx.ret1 Try.results21 rfl ?_
  exact congrArg Value.bool (by rw [← fst_any, decide_eq_decide]; unfold idxI; split <;> omega)

theorem index_any20 {W : World} {wv : Value} {xs : List Int} {q : Int → Bool} {b1 : Nat} (hx : SlS FZ 1 W wv xs) (hq : ∀ w', Below W.heap.size W w' → ∀ x ∈ xs, Calls Try.prog 20 #[.int .i64 x, ptr b1 0] w' fun e w2 => e = .returned (.bool (q x)) ∧ Below w'.heap.size w' w2) :
    Calls Try.prog 27 #[wv, .func (.func 20) #[] #[ptr b1 0]] W fun e w' => e = .returned (idxV q xs) ∧ Below W.heap.size W w' := by
  have m1 := sls_bd hx
  refine calls_pure (Gx.enter (l := []) Try.func27 rfl Try.ntmps27 rfl (Sat.start W) ?_)
  refine Gx.know (m' := [(0, wv), (1, .func (.func 20) #[] #[ptr b1 0])]) (.cons rfl (.cons rfl .nil)) ?_
  refine Gx.seq ?_
  refine Gx.region ?_
  refine Gx.val rfl rfl rfl (val_assign rfl rfl) ?_
  refine Gx.done ?_
  refine Gx.thenN ?_
  refine Gx.seq ?_
  refine Gx.seq ?_
  refine Gx.region ?_
  refine Gx.val rfl rfl rfl (val_move rfl rfl) ?_
  refine Gx.val rfl rfl rfl (val_len rfl Try.underlying24 rfl (len_base hx)) ?_
  refine Gx.val rfl rfl rfl (val_move rfl rfl) ?_
  refine Gx.done ?_
  refine Gx.thenN ?_
  refine Gx.block ?_
  refine Gx.loop (ι := Nat) (fun ξ => (ξ ≤ fst q xs)) (fun ξ => [(0, wv), (1, .func (.func 20) #[] #[ptr b1 0]), (6, wv), (7, .int .i64 ((xs.length : Nat) : Int)), (8, .int .i64 ((ξ : Nat) : Int))]) (fun ξ => []) (fun ξ => xs.length - ξ) 0 (Nat.zero_le _) ((.cons rfl (.cons rfl (.cons rfl (.cons rfl (.cons rfl .nil)))))) rfl ?_
  rintro k hk
  refine Gx.know (m' := [(0, wv), (1, .func (.func 20) #[] #[ptr b1 0]), (6, wv), (7, .int .i64 ((xs.length : Nat) : Int)), (8, .int .i64 ((k : Nat) : Int))]) (.cons rfl (.cons rfl (.cons rfl (.cons rfl (.cons rfl .nil))))) (Gx.norm (l' := []) rfl ?_)
  refine Gx.seq ?_
  refine Gx.region ?_
  refine Gx.val rfl rfl rfl (val_lss rfl rfl rfl) ?_
  refine Gx.done ?_
  refine Gx.thenN ?_
  refine Gx.seq ?_
  refine Gx.dec rfl (fun h1 => ?_) (fun h1 => ?_)
  · refine Gx.skip ?_
    refine Gx.thenN ?_
    refine Gx.seq ?_
    refine Gx.block ?_
    refine Gx.seq ?_
    refine Gx.region ?_
    refine Gx.val rfl rfl rfl (val_move rfl rfl) ?_
    refine Gx.val rfl rfl rfl (val_assign rfl rfl) ?_
    refine Gx.done ?_
    refine Gx.thenN ?_
    refine Gx.seq ?_
    refine Gx.region ?_
    refine Gx.val rfl rfl rfl (val_move rfl rfl) ?_
    refine Gx.val rfl rfl rfl (val_move rfl rfl) ?_
    refine Gx.val rfl rfl rfl (val_move rfl rfl) ?_
    obtain ⟨x2, hx2⟩ := get_of_lt (xs := xs) (k := k) (by omega)
    refine Gx.val rfl rfl rfl (val_ixa rfl Try.underlying24 Try.ty3 rfl rfl (j := k) (rfl) (reach_base hx hx2)) ?_
    refine Gx.val rfl rfl rfl (val_load rfl Try.ty3 rfl rfl (cell_base (i := 0) hx hx2 rfl)) ?_
    refine Gx.val rfl rfl rfl (val_callV (vs := [.int .i64 x2]) (fs := []) (cs := [ptr b1 0]) rfl Try.fn20 rfl rfl (fun w H => hq w H.below x2 (List.mem_of_getElem? hx2))) ?_
    refine Gx.done ?_
    refine Gx.thenN ?_
    refine Gx.bool rfl (fun h3 => ?_) (fun h3 => ?_)
    · refine Gx.seq ?_
      refine Gx.region ?_
      refine Gx.val rfl rfl rfl (val_move rfl rfl) ?_
      refine Gx.val rfl rfl rfl (val_assign rfl rfl) ?_
      refine Gx.done ?_
      refine Gx.thenN ?_
      refine Gx.ret ?_
      refine Gx.blkR ?_
      refine Gx.thenR ?_
      refine Gx.thenR ?_
      refine Gx.blkR ?_
      refine Gx.thenR ?_
      refine Gx.ret1 Try.results27 rfl ?_
      have h9 := (fst_at hx2 hk).1 h3
      have h8 := (List.getElem?_eq_some_iff.1 hx2).1
      exact (by unfold idxV idxI; rw [if_pos (by omega), h9])
    · refine Gx.skip ?_
      refine Gx.blkN ?_
      refine Gx.thenN ?_
      refine Gx.region ?_
      refine Gx.val rfl rfl rfl (val_add rfl rfl rfl (r := ((k + 1 : Nat) : Int)) (w64 (by omega) (by omega))) ?_
      refine Gx.val rfl rfl rfl (val_move rfl rfl) ?_
      refine Gx.done ?_
      refine Gx.thenN ?_
      exact Gx.round (k + 1) ((fst_at hx2 hk).2 (by simpa using h3)) (by first | omega | (dsimp only; omega)) ((.cons rfl (.cons rfl (.cons rfl (.cons rfl (.cons rfl .nil)))))) rfl
  · refine Gx.exit ?_
    refine Gx.thenE ?_
    refine Gx.thenE ?_
    refine Gx.blkE ?_
    refine Gx.thenN ?_
    refine Gx.seq ?_
    refine Gx.region ?_
    refine Gx.val rfl rfl rfl (val_assign rfl rfl) ?_
    refine Gx.done ?_
    refine Gx.thenN ?_
    refine Gx.ret ?_
    refine Gx.ret1 Try.results27 rfl ?_
    have h9 := fst_le q xs
    exact (by unfold idxV idxI; rw [if_neg (by omega)])

theorem contains_any20 {W : World} {wv : Value} {xs : List Int} {q : Int → Bool} {b1 : Nat} (hx : SlS FZ 1 W wv xs) (hq : ∀ w', Below W.heap.size W w' → ∀ x ∈ xs, Calls Try.prog 20 #[.int .i64 x, ptr b1 0] w' fun e w2 => e = .returned (.bool (q x)) ∧ Below w'.heap.size w' w2) :
    Calls Try.prog 21 #[wv, .func (.func 20) #[] #[ptr b1 0]] W fun e w' => e = .returned (.bool (xs.any q)) ∧ Below W.heap.size W w' := by
  refine calls_pure (Gx.enter (l := []) Try.func21 rfl Try.ntmps21 rfl (Sat.start W) ?_)
  refine Gx.know (m' := [(0, wv), (1, .func (.func 20) #[] #[ptr b1 0])]) (.cons rfl (.cons rfl .nil)) ?_
  refine Gx.seq ?_
  refine Gx.region ?_
  refine Gx.val rfl rfl rfl (val_assign rfl rfl) ?_
  refine Gx.done ?_
  refine Gx.thenN ?_
  refine Gx.seq ?_
  refine Gx.region ?_
  refine Gx.val rfl rfl rfl (val_move rfl rfl) ?_
  refine Gx.val rfl rfl rfl (val_move rfl rfl) ?_
  refine Gx.val rfl rfl rfl (val_call (vs := [wv, .func (.func 20) #[] #[ptr b1 0]]) rfl Try.fn27 rfl (fun w H => index_any20 (hx.below H.below) (fun w' hb x hx' => hq w' (H.below.trans (hb.mono H.size)) x hx'))) ?_
  refine Gx.val rfl rfl rfl (val_geq rfl rfl rfl) ?_
  refine Gx.val rfl rfl rfl (val_assign rfl rfl) ?_
  refine Gx.done ?_
  refine Gx.thenN ?_
  refine Gx.ret ?_
  refine Gx.ret1 Try.results21 rfl ?_
  exact congrArg Value.bool (by rw [← fst_any, decide_eq_decide]; unfold idxI; split <;> omega)

theorem index_any25 {W : World} {wv : Value} {xs : List Int} {q : Int → Bool} {b1 : Nat} (hx : SlS FZ 1 W wv xs) (hq : ∀ w', Below W.heap.size W w' → ∀ x ∈ xs, Calls Try.prog 25 #[.int .i64 x, ptr b1 0] w' fun e w2 => e = .returned (.bool (q x)) ∧ Below w'.heap.size w' w2) :
    Calls Try.prog 27 #[wv, .func (.func 25) #[] #[ptr b1 0]] W fun e w' => e = .returned (idxV q xs) ∧ Below W.heap.size W w' := by
  have m1 := sls_bd hx
  refine calls_pure (Gx.enter (l := []) Try.func27 rfl Try.ntmps27 rfl (Sat.start W) ?_)
  refine Gx.know (m' := [(0, wv), (1, .func (.func 25) #[] #[ptr b1 0])]) (.cons rfl (.cons rfl .nil)) ?_
  refine Gx.seq ?_
  refine Gx.region ?_
  refine Gx.val rfl rfl rfl (val_assign rfl rfl) ?_
  refine Gx.done ?_
  refine Gx.thenN ?_
  refine Gx.seq ?_
  refine Gx.seq ?_
  refine Gx.region ?_
  refine Gx.val rfl rfl rfl (val_move rfl rfl) ?_
  refine Gx.val rfl rfl rfl (val_len rfl Try.underlying24 rfl (len_base hx)) ?_
  refine Gx.val rfl rfl rfl (val_move rfl rfl) ?_
  refine Gx.done ?_
  refine Gx.thenN ?_
  refine Gx.block ?_
  refine Gx.loop (ι := Nat) (fun ξ => (ξ ≤ fst q xs)) (fun ξ => [(0, wv), (1, .func (.func 25) #[] #[ptr b1 0]), (6, wv), (7, .int .i64 ((xs.length : Nat) : Int)), (8, .int .i64 ((ξ : Nat) : Int))]) (fun ξ => []) (fun ξ => xs.length - ξ) 0 (Nat.zero_le _) ((.cons rfl (.cons rfl (.cons rfl (.cons rfl (.cons rfl .nil)))))) rfl ?_
  rintro k hk
  refine Gx.know (m' := [(0, wv), (1, .func (.func 25) #[] #[ptr b1 0]), (6, wv), (7, .int .i64 ((xs.length : Nat) : Int)), (8, .int .i64 ((k : Nat) : Int))]) (.cons rfl (.cons rfl (.cons rfl (.cons rfl (.cons rfl .nil))))) (Gx.norm (l' := []) rfl ?_)
  refine Gx.seq ?_
  refine Gx.region ?_
  refine Gx.val rfl rfl rfl (val_lss rfl rfl rfl) ?_
  refine Gx.done ?_
  refine Gx.thenN ?_
  refine Gx.seq ?_
  refine Gx.dec rfl (fun h1 => ?_) (fun h1 => ?_)
  · refine Gx.skip ?_
    refine Gx.thenN ?_
    refine Gx.seq ?_
    refine Gx.block ?_
    refine Gx.seq ?_
    refine Gx.region ?_
    refine Gx.val rfl rfl rfl (val_move rfl rfl) ?_
    refine Gx.val rfl rfl rfl (val_assign rfl rfl) ?_
    refine Gx.done ?_
    refine Gx.thenN ?_
    refine Gx.seq ?_
    refine Gx.region ?_
    refine Gx.val rfl rfl rfl (val_move rfl rfl) ?_
    refine Gx.val rfl rfl rfl (val_move rfl rfl) ?_
    refine Gx.val rfl rfl rfl (val_move rfl rfl) ?_
    obtain ⟨x2, hx2⟩ := get_of_lt (xs := xs) (k := k) (by omega)
    refine Gx.val rfl rfl rfl (val_ixa rfl Try.underlying24 Try.ty3 rfl rfl (j := k) (rfl) (reach_base hx hx2)) ?_
    refine Gx.val rfl rfl rfl (val_load rfl Try.ty3 rfl rfl (cell_base (i := 0) hx hx2 rfl)) ?_
    refine Gx.val rfl rfl rfl (val_callV (vs := [.int .i64 x2]) (fs := []) (cs := [ptr b1 0]) rfl Try.fn25 rfl rfl (fun w H => hq w H.below x2 (List.mem_of_getElem? hx2))) ?_
    refine Gx.done ?_
    refine Gx.thenN ?_
    refine Gx.bool rfl (fun h3 => ?_) (fun h3 => ?_)
    · refine Gx.seq ?_
      refine Gx.region ?_
      refine Gx.val rfl rfl rfl (val_move rfl rfl) ?_
      refine Gx.val rfl rfl rfl (val_assign rfl rfl) ?_
      refine Gx.done ?_
      refine Gx.thenN ?_
      refine Gx.ret ?_
      refine Gx.blkR ?_
      refine Gx.thenR ?_
      refine Gx.thenR ?_
      refine Gx.blkR ?_
      refine Gx.thenR ?_
      refine Gx.ret1 Try.results27 rfl ?_
      have h9 := (fst_at hx2 hk).1 h3
      have h8 := (List.getElem?_eq_some_iff.1 hx2).1
      exact (by unfold idxV idxI; rw [if_pos (by omega), h9])
    · refine Gx.skip ?_
      refine Gx.blkN ?_
      refine Gx.thenN ?_
      refine Gx.region ?_
      refine Gx.val rfl rfl rfl (val_add rfl rfl rfl (r := ((k + 1 : Nat) : Int)) (w64 (by omega) (by omega))) ?_
      refine Gx.val rfl rfl rfl (val_move rfl rfl) ?_
      refine Gx.done ?_
      refine Gx.thenN ?_
      exact Gx.round (k + 1) ((fst_at hx2 hk).2 (by simpa using h3)) (by first | omega | (dsimp only; omega)) ((.cons rfl (.cons rfl (.cons rfl (.cons rfl (.cons rfl .nil)))))) rfl
  · refine Gx.exit ?_
    refine Gx.thenE ?_
    refine Gx.thenE ?_
    refine Gx.blkE ?_
    refine Gx.thenN ?_
    refine Gx.seq ?_
    refine Gx.region ?_
    refine Gx.val rfl rfl rfl (val_assign rfl rfl) ?_
    refine Gx.done ?_
    refine Gx.thenN ?_
    refine Gx.ret ?_
    refine Gx.ret1 Try.results27 rfl ?_
    have h9 := fst_le q xs
    exact (by unfold idxV idxI; rw [if_neg (by omega)])

theorem contains_any25 {W : World} {wv : Value} {xs : List Int} {q : Int → Bool} {b1 : Nat} (hx : SlS FZ 1 W wv xs) (hq : ∀ w', Below W.heap.size W w' → ∀ x ∈ xs, Calls Try.prog 25 #[.int .i64 x, ptr b1 0] w' fun e w2 => e = .returned (.bool (q x)) ∧ Below w'.heap.size w' w2) :
    Calls Try.prog 21 #[wv, .func (.func 25) #[] #[ptr b1 0]] W fun e w' => e = .returned (.bool (xs.any q)) ∧ Below W.heap.size W w' := by
  refine calls_pure (Gx.enter (l := []) Try.func21 rfl Try.ntmps21 rfl (Sat.start W) ?_)
  refine Gx.know (m' := [(0, wv), (1, .func (.func 25) #[] #[ptr b1 0])]) (.cons rfl (.cons rfl .nil)) ?_
  refine Gx.seq ?_
  refine Gx.region ?_
  refine Gx.val rfl rfl rfl (val_assign rfl rfl) ?_
  refine Gx.done ?_
  refine Gx.thenN ?_
  refine Gx.seq ?_
  refine Gx.region ?_
  refine Gx.val rfl rfl rfl (val_move rfl rfl) ?_
  refine Gx.val rfl rfl rfl (val_move rfl rfl) ?_
  refine Gx.val rfl rfl rfl (val_call (vs := [wv, .func (.func 25) #[] #[ptr b1 0]]) rfl Try.fn27 rfl (fun w H => index_any25 (hx.below H.below) (fun w' hb x hx' => hq w' (H.below.trans (hb.mono H.size)) x hx'))) ?_
  refine Gx.val rfl rfl rfl (val_geq rfl rfl rfl) ?_
  refine Gx.val rfl rfl rfl (val_assign rfl rfl) ?_
  refine Gx.done ?_
  refine Gx.thenN ?_
  refine Gx.ret ?_
  refine Gx.ret1 Try.results21 rfl ?_
  exact congrArg Value.bool (by rw [← fst_any, decide_eq_decide]; unfold idxI; split <;> omega)

def isN (n x : Int) : Bool := decide (0 ≤ x ∧ x < n)
theorem is_any {W : World} {b : Nat} {n x : Int} (hb : b < W.heap.size) (hbc : W.cell? ⟨b, 0, none⟩ = some (.int .i64 n)) : Calls Try.prog 24 #[.int .i64 x, ptr b 0] W fun e w' => e = .returned (.bool (isN n x)) ∧ Below W.heap.size W w' := by
  refine calls_pure (Gx.enter (l := []) Try.func24 rfl Try.ntmps24 rfl (Sat.start W) ?_)
  refine Gx.know (m' := [(0, .int .i64 x), (1, ptr b 0)]) (.cons rfl (.cons rfl .nil)) ?_
  refine Gx.seq ?_
  refine Gx.region ?_
  refine Gx.val rfl rfl rfl (val_assign rfl rfl) ?_
  refine Gx.done ?_
  refine Gx.thenN ?_
  refine Gx.seq ?_
  refine Gx.region ?_
  refine Gx.val rfl rfl rfl (val_move rfl rfl) ?_
  refine Gx.val rfl rfl rfl (val_geq rfl rfl rfl) ?_
  refine Gx.val rfl rfl rfl (val_move rfl rfl) ?_
  refine Gx.cases (t := 6) rfl (fun h1 => ?_) (fun h1 => ?_)
  · refine Gx.valg rfl rfl rfl rfl rfl (val_move rfl rfl) ?_
    refine Gx.valg rfl rfl rfl rfl rfl (val_load rfl Try.ty3 rfl rfl (cell_old hb hbc)) ?_
    refine Gx.valg rfl rfl rfl rfl rfl (val_lss rfl rfl rfl) ?_
    refine Gx.val rfl rfl rfl (val_pickT rfl rfl rfl) ?_
    refine Gx.val rfl rfl rfl (val_assign rfl rfl) ?_
    refine Gx.done ?_
    refine Gx.thenN ?_
    refine Gx.ret ?_
    refine Gx.ret1 Try.results24 rfl ?_
    exact congrArg Value.bool (by unfold isN; first | exact (decide_eq_true ⟨by assumption, by assumption⟩).symm | exact (decide_eq_false (fun h => by omega)).symm | exact decide_eq_decide.2 ⟨fun h => ⟨by assumption, h⟩, fun h => h.2⟩)
  · refine Gx.skipg rfl rfl rfl rfl rfl rfl ?_
    refine Gx.skipg rfl rfl rfl rfl rfl rfl ?_
    refine Gx.skipg rfl rfl rfl rfl rfl rfl ?_
    refine Gx.val rfl rfl rfl (val_pickF rfl rfl rfl) ?_
    refine Gx.val rfl rfl rfl (val_assign rfl rfl) ?_
    refine Gx.done ?_
    refine Gx.thenN ?_
    refine Gx.ret ?_
    refine Gx.ret1 Try.results24 rfl ?_
    exact congrArg Value.bool (by unfold isN; first | exact (decide_eq_true ⟨by assumption, by assumption⟩).symm | exact (decide_eq_false (fun h => by omega)).symm | exact decide_eq_decide.2 ⟨fun h => ⟨by assumption, h⟩, fun h => h.2⟩)

theorem isnt_any {W : World} {b b2 : Nat} {n x : Int} (hb : b < W.heap.size) (hbc : W.cell? ⟨b, 0, none⟩ = some (.func (.func 24) #[] #[ptr b2 0])) (hb2 : b2 < W.heap.size) (hb2c : W.cell? ⟨b2, 0, none⟩ = some (.int .i64 n)) : Calls Try.prog 25 #[.int .i64 x, ptr b 0] W fun e w' => e = .returned (.bool (!isN n x)) ∧ Below W.heap.size W w' := by
  refine calls_pure (Gx.enter (l := []) Try.func25 rfl Try.ntmps25 rfl (Sat.start W) ?_)
  refine Gx.know (m' := [(0, .int .i64 x), (1, ptr b 0)]) (.cons rfl (.cons rfl .nil)) ?_
  refine Gx.seq ?_
  refine Gx.region ?_
  refine Gx.val rfl rfl rfl (val_assign rfl rfl) ?_
  refine Gx.done ?_
  refine Gx.thenN ?_
  refine Gx.seq ?_
  refine Gx.region ?_
  refine Gx.val rfl rfl rfl (val_load rfl Try.ty45 rfl rfl (cell_old hb hbc)) ?_
  refine Gx.val rfl rfl rfl (val_move rfl rfl) ?_
  refine Gx.val rfl rfl rfl (val_callV (vs := [.int .i64 x]) (fs := []) (cs := [ptr b2 0]) rfl Try.fn24 rfl rfl (fun w H => is_any (Nat.lt_of_lt_of_le hb2 H.below.size) ((H.below.cell (p := ⟨b2, 0, none⟩) hb2).trans hb2c))) ?_
  refine Gx.val rfl rfl rfl (val_not rfl rfl) ?_
  refine Gx.val rfl rfl rfl (val_assign rfl rfl) ?_
  refine Gx.done ?_
  refine Gx.thenN ?_
  refine Gx.ret ?_
  refine Gx.ret1 Try.results25 rfl ?_
  rfl

end Go.Proofs.Ytplcflifofomjaa
