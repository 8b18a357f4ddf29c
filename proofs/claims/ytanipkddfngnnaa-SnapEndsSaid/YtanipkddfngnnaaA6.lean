/- May the money be? The walks. No condition. -/
import Derived.Test.YtanipkddfngnnaaA5
import Derived.Test.YtanipkddfngnnaaX7
namespace Go.Proofs.Ytanipkddfngnnaa
open Go.RowKit
set_option linter.unusedVariables false
set_option linter.unusedSimpArgs false
set_option maxRecDepth 100000

abbrev FM (c : Mv) : List Value := [.int .i64 c.kind, .int .i64 c.who, .int .i64 c.oth, .int .i64 c.n]
theorem FM_len (c : Mv) : (FM c).length = 4 := rfl
abbrev FZ (x : Int) : List Value := [.int .i64 x]
theorem FZ_len (x : Int) : (FZ x).length = 1 := rfl
theorem FZ_one (p : Int) (u : Value) (h : u ∈ FZ p) : u.oneCell' = true := by simp [FZ] at h; subst h; rfl
theorem Try.eZ : Elem Try.prog 24 28 (.int .i64 0) 1 8 := ⟨Try.underlying24, by kernel_rfl, rfl, by decide⟩
structure Sv where
  a : Option Addr
  n : Nat
  c : Nat
abbrev FV (e : Sv) : List Value := [.slice e.a e.n e.c]
theorem FV_len (x : Sv) : (FV x).length = 1 := rfl
theorem FV_one (p : Sv) (u : Value) (h : u ∈ FV p) : u.oneCell' = true := by simp [FV] at h; subst h; rfl
def badB (x : Int) : Bool := decide (x < 0 ∨ 1000 < x)
def firstB : List Int → Int
  | [] => -1
  | a :: l => if badB a = true then 0 else if firstB l < 0 then -1 else firstB l + 1
theorem firstB_at : ∀ {l : List Int} {k : Nat} {x : Int}, (∀ q y, q < k → l[q]? = some y → badB y = false) → l[k]? = some x → badB x = true → firstB l = k
  | [], k, x, _, h, _ => by cases h
  | a :: l, 0, x, _, h, hx => by simp at h; subst h; simp [firstB, hx]
  | a :: l, k + 1, x, hn, h, hx => by
    have h0 := hn 0 a (by omega) rfl
    have ih := firstB_at (l := l) (k := k) (fun q y hq hy => hn (q + 1) y (by omega) (by simpa using hy)) (by simpa using h) hx
    simp only [firstB, h0, ih]; rw [if_neg (by decide), if_neg (by omega)]; rfl
theorem firstB_no : ∀ {l : List Int}, (∀ y ∈ l, badB y = false) → firstB l = -1
  | [], _ => rfl
  | a :: l, h => by
    have h0 := h a (by simp)
    have := firstB_no (l := l) fun y hy => h y (List.mem_cons_of_mem _ hy)
    simp only [firstB, h0, this]; rfl
theorem firstB_ok {l : List Int} (h : ¬ 0 ≤ firstB l) : ∀ x ∈ l, 0 ≤ x ∧ x ≤ 1000 := by
  intro x hx
  obtain ⟨k, hk⟩ := List.getElem?_of_mem hx
  refine Classical.byContradiction fun hb => ?_
  have hbx : badB x = true := decide_eq_true (by omega)
  have : ∀ (l : List Int) (k : Nat), l[k]? = some x → 0 ≤ firstB l := fun l => by
    induction l with
    | nil => intro k hk; cases hk
    | cons a l ih =>
      intro k hk
      simp only [firstB]
      split
      · exact Int.le_refl 0
      · rename_i ha
        cases k with
        | zero => simp at hk; subst hk; exact absurd hbx ha
        | succ k => have := ih k (by simpa using hk); rw [if_neg (by omega)]; omega
  exact h (this l k hk)
theorem cfunc {W : World} {x : Int} : True := trivial
theorem bad_any {W : World} (x : Int) : Calls Try.prog 10 #[.int .i64 x] W fun e w' => e = .returned (.bool (badB x)) ∧ Below W.heap.size W w' := by
  refine calls_pure (Gx.enter (l := []) Try.func10 rfl Try.ntmps10 rfl (Sat.start W) ?_)
  refine Gx.know (m' := [(0, .int .i64 x)]) (.cons rfl .nil) ?_
  refine Gx.seq ?_
  refine Gx.region ?_
  refine Gx.val rfl rfl rfl (val_assign rfl rfl) ?_
  refine Gx.done ?_
  refine Gx.thenN ?_
  refine Gx.seq ?_
  refine Gx.region ?_
  refine Gx.val rfl rfl rfl (val_move rfl rfl) ?_
  refine Gx.val rfl rfl rfl (val_lss rfl rfl rfl) ?_
  refine Gx.val rfl rfl rfl (val_move rfl rfl) ?_
  refine Gx.cases (t := 5) rfl (fun h1 => ?_) (fun h1 => ?_)
  · refine Gx.skipg rfl rfl rfl rfl rfl rfl ?_
    refine Gx.skipg rfl rfl rfl rfl rfl rfl ?_
    refine Gx.val rfl rfl rfl (val_pickT rfl rfl rfl) ?_
    refine Gx.val rfl rfl rfl (val_assign rfl rfl) ?_
    refine Gx.done ?_
    refine Gx.thenN ?_
    refine Gx.ret ?_
    refine Gx.ret1 Try.results10 rfl ?_
    exact congrArg Value.bool (by unfold badB; simp; try omega)
  · refine Gx.valg rfl rfl rfl rfl rfl (val_move rfl rfl) ?_
    refine Gx.valg rfl rfl rfl rfl rfl (val_gtr rfl rfl rfl) ?_
    refine Gx.val rfl rfl rfl (val_pickF rfl rfl rfl) ?_
    refine Gx.val rfl rfl rfl (val_assign rfl rfl) ?_
    refine Gx.done ?_
    refine Gx.thenN ?_
    refine Gx.ret ?_
    refine Gx.ret1 Try.results10 rfl ?_
    exact congrArg Value.bool (by unfold badB; simp; try omega)

theorem index_any {W : World} {vx : Value} {xs : List Int} (hx : SlS FI 1 W vx xs) :
    Calls Try.prog 14 #[vx, .func (.func 10) #[] #[]] W fun e w' => e = .returned (.int .i64 (firstB xs)) ∧ Below W.heap.size W w' := by
  have hm := sls_bd hx
  refine calls_pure (Gx.enter (l := []) Try.func14 rfl Try.ntmps14 rfl (Sat.start W) ?_)
  refine Gx.know (m' := [(0, vx), (1, .func (.func 10) #[] #[])]) (.cons rfl (.cons rfl .nil)) ?_
  refine Gx.seq ?_
  refine Gx.region ?_
  refine Gx.val rfl rfl rfl (val_assign rfl rfl) ?_
  refine Gx.done ?_
  refine Gx.thenN ?_
  refine Gx.seq ?_
  refine Gx.seq ?_
  refine Gx.region ?_
  refine Gx.val rfl rfl rfl (val_move rfl rfl) ?_
  refine Gx.val rfl rfl rfl (val_len rfl Try.underlying22 rfl (len_base hx)) ?_
  refine Gx.val rfl rfl rfl (val_move rfl rfl) ?_
  refine Gx.done ?_
  refine Gx.thenN ?_
  refine Gx.block ?_
  refine Gx.loop (ι := Nat) (fun ξ => (ξ ≤ xs.length) ∧ (∀ q y, q < ξ → xs[q]? = some y → badB y = false)) (fun ξ => [(0, vx), (1, .func (.func 10) #[] #[]), (7, .int .i64 ((xs.length : Nat) : Int)), (8, .int .i64 ((ξ : Nat) : Int))]) (fun ξ => []) (fun ξ => xs.length - ξ) 0 ⟨by first | omega | (dsimp only; omega), fun q y hq => by omega⟩ ((.cons rfl (.cons rfl (.cons rfl (.cons rfl .nil))))) rfl ?_
  rintro k ⟨hk, hn⟩
  refine Gx.know (m' := [(0, vx), (1, .func (.func 10) #[] #[]), (7, .int .i64 ((xs.length : Nat) : Int)), (8, .int .i64 ((k : Nat) : Int))]) (.cons rfl (.cons rfl (.cons rfl (.cons rfl .nil)))) (Gx.norm (l' := []) rfl ?_)
  refine Gx.seq ?_
  refine Gx.region ?_
  refine Gx.val rfl rfl rfl (val_lss rfl rfl rfl) ?_
  refine Gx.done ?_
  refine Gx.thenN ?_
  refine Gx.seq ?_
  refine Gx.dec rfl (fun h1 => ?_) (fun h1 => ?_)
  · refine Gx.skip ?_
    refine Gx.thenN ?_
    refine Gx.seq ?_
    refine Gx.block ?_
    refine Gx.seq ?_
    refine Gx.region ?_
    refine Gx.val rfl rfl rfl (val_move rfl rfl) ?_
    refine Gx.val rfl rfl rfl (val_assign rfl rfl) ?_
    refine Gx.done ?_
    refine Gx.thenN ?_
    refine Gx.seq ?_
    refine Gx.region ?_
    refine Gx.val rfl rfl rfl (val_move rfl rfl) ?_
    refine Gx.val rfl rfl rfl (val_move rfl rfl) ?_
    refine Gx.val rfl rfl rfl (val_move rfl rfl) ?_
    obtain ⟨x2, hx2⟩ := get_of_lt (xs := xs) (k := k) (by omega)
    refine Gx.val rfl rfl rfl (val_ixa rfl Try.underlying22 Try.ty3 rfl rfl (j := k) (rfl) (reach_base hx hx2)) ?_
    refine Gx.val rfl rfl rfl (val_load rfl Try.ty3 rfl rfl (cell_base (i := 0) hx hx2 rfl)) ?_
    refine Gx.val rfl rfl rfl (val_callV (vs := [.int .i64 x2]) (fs := []) (cs := []) rfl Try.fn10 rfl rfl (fun w H => bad_any x2)) ?_
    refine Gx.done ?_
    refine Gx.thenN ?_
    refine Gx.bool rfl (fun h3 => ?_) (fun h3 => ?_)
    · refine Gx.seq ?_
      refine Gx.region ?_
      refine Gx.val rfl rfl rfl (val_move rfl rfl) ?_
      refine Gx.val rfl rfl rfl (val_assign rfl rfl) ?_
      refine Gx.done ?_
      refine Gx.thenN ?_
      refine Gx.ret ?_
      refine Gx.blkR ?_
      refine Gx.thenR ?_
      refine Gx.thenR ?_
      refine Gx.blkR ?_
      refine Gx.thenR ?_
      refine Gx.ret1 Try.results14 rfl ?_
      exact congrArg (Value.int .i64) (firstB_at hn hx2 (by assumption)).symm
    · refine Gx.skip ?_
      refine Gx.blkN ?_
      refine Gx.thenN ?_
      refine Gx.region ?_
      refine Gx.val rfl rfl rfl (val_add rfl rfl rfl (r := ((k + 1 : Nat) : Int)) (w64 (by omega) (by omega))) ?_
      refine Gx.val rfl rfl rfl (val_move rfl rfl) ?_
      refine Gx.done ?_
      refine Gx.thenN ?_
      exact Gx.round (k + 1) ⟨by first | omega | (dsimp only; omega), fun q y hq hy => by rcases Nat.lt_or_eq_of_le (Nat.le_of_lt_succ hq) with h | rfl; (exact hn q y h hy); (cases hx2.symm.trans hy; simp_all)⟩ (by first | omega | (dsimp only; omega)) ((.cons rfl (.cons rfl (.cons rfl (.cons rfl .nil))))) rfl
  · refine Gx.exit ?_
    refine Gx.thenE ?_
    refine Gx.thenE ?_
    refine Gx.blkE ?_
    refine Gx.thenN ?_
    refine Gx.seq ?_
    refine Gx.region ?_
    refine Gx.val rfl rfl rfl (val_assign rfl rfl) ?_
    refine Gx.done ?_
    refine Gx.thenN ?_
    refine Gx.ret ?_
    refine Gx.ret1 Try.results14 rfl ?_
    refine congrArg (Value.int .i64) (firstB_no fun y hy => ?_).symm
    obtain ⟨q, hq⟩ := List.getElem?_of_mem hy
    exact hn q y (by have := (List.getElem?_eq_some_iff.1 hq).1; omega) hq

theorem contains_any {W : World} {vx : Value} {xs : List Int} (hx : SlS FI 1 W vx xs) :
    Calls Try.prog 9 #[vx, .func (.func 10) #[] #[]] W fun e w' => e = .returned (.bool (decide (0 ≤ firstB xs))) ∧ Below W.heap.size W w' := by
  refine calls_pure (Gx.enter (l := []) Try.func9 rfl Try.ntmps9 rfl (Sat.start W) ?_)
  refine Gx.know (m' := [(0, vx), (1, .func (.func 10) #[] #[])]) (.cons rfl (.cons rfl .nil)) ?_
  refine Gx.seq ?_
  refine Gx.region ?_
  refine Gx.val rfl rfl rfl (val_assign rfl rfl) ?_
  refine Gx.done ?_
  refine Gx.thenN ?_
  refine Gx.seq ?_
  refine Gx.region ?_
  refine Gx.val rfl rfl rfl (val_move rfl rfl) ?_
  refine Gx.val rfl rfl rfl (val_move rfl rfl) ?_
  refine Gx.val rfl rfl rfl (val_call (vs := [vx, .func (.func 10) #[] #[]]) rfl Try.fn14 rfl (fun w H => index_any (hx.below H.below))) ?_
  refine Gx.val rfl rfl rfl (val_geq rfl rfl rfl) ?_
  refine Gx.val rfl rfl rfl (val_assign rfl rfl) ?_
  refine Gx.done ?_
  refine Gx.thenN ?_
  refine Gx.ret ?_
  refine Gx.ret1 Try.results9 rfl ?_
  rfl

theorem play_no1 {W : World} {mv sv : Value} {money : List Int} {cs : List Mv} (hm : SlS FI 1 W mv money) (hs : SlS FM 4 W sv cs) (hbad : money.length = 0 ∨ 6 < money.length ∨ 120 < cs.length) :
    Calls Try.prog 7 #[mv, sv] W fun e w' => e = .returned (.tuple #[.agg #[.slice none 0 0, .slice none 0 0, .slice none 0 0, .slice none 0 0, .bool false], .int .i64 1]) ∧ Below W.heap.size W w' := by
  have hm1 := sls_bd hm
  have hs1 := sls_bd hs
  refine calls_pure (Gx.enter (l := []) Try.func7 rfl Try.ntmps7 rfl (Sat.start W) ?_)
  refine Gx.know (m' := [(0, mv), (1, sv)]) (.cons rfl (.cons rfl .nil)) ?_
  refine Gx.seq ?_
  refine Gx.region ?_
  refine Gx.eff rfl rfl rfl (eff_alloc rfl Try.ty27 (vs := [.slice none 0 0, .slice none 0 0, .slice none 0 0, .slice none 0 0, .bool false]) rfl) ?_
  rintro _ _ ⟨b1, rfl, rfl⟩
  refine Gx.val rfl rfl rfl (val_assign rfl rfl) ?_
  refine Gx.done ?_
  refine Gx.thenN ?_
  refine Gx.seq ?_
  refine Gx.region ?_
  refine Gx.val rfl rfl rfl (val_move rfl rfl) ?_
  refine Gx.val rfl rfl rfl (val_len rfl Try.underlying22 rfl (len_base hm)) ?_
  refine Gx.val rfl rfl rfl (val_assign rfl rfl) ?_
  refine Gx.done ?_
  refine Gx.thenN ?_
  refine Gx.seq ?_
  refine Gx.seq ?_
  refine Gx.region ?_
  refine Gx.val rfl rfl rfl (val_move rfl rfl) ?_
  refine Gx.val rfl rfl rfl (val_eql rfl rfl rfl) ?_
  refine Gx.val rfl rfl rfl (val_move rfl rfl) ?_
  refine Gx.cases (t := 19) rfl (fun h2 => ?_) (fun h2 => ?_)
  · refine Gx.skipg rfl rfl rfl rfl rfl rfl ?_
    refine Gx.skipg rfl rfl rfl rfl rfl rfl ?_
    refine Gx.val rfl rfl rfl (val_pickT rfl rfl rfl) ?_
    refine Gx.val rfl rfl rfl (val_move rfl rfl) ?_
    refine Gx.skipg rfl rfl rfl rfl rfl rfl ?_
    refine Gx.skipg rfl rfl rfl rfl rfl rfl ?_
    refine Gx.skipg rfl rfl rfl rfl rfl rfl ?_
    refine Gx.val rfl rfl rfl (val_pickT rfl rfl rfl) ?_
    refine Gx.done ?_
    refine Gx.thenN ?_
    refine Gx.t rfl ?_
    refine Gx.seq ?_
    refine Gx.region ?_
    refine Gx.val rfl rfl rfl (val_build rfl (qs := []) rfl rfl (fun w => by go_simp) (v := .agg #[.slice none 0 0, .slice none 0 0, .slice none 0 0, .slice none 0 0, .bool false])) ?_
    refine Gx.eff0 rfl rfl (eff_store rfl Try.ty27 rfl rfl (us := [.slice none 0 0, .slice none 0 0, .slice none 0 0, .slice none 0 0, .bool false]) rfl rfl rfl (k := 0) rfl (rfl) (vs' := [.slice none 0 0, .slice none 0 0, .slice none 0 0, .slice none 0 0, .bool false]) (rfl) (l' := [Hp.rec_ b1 [.slice none 0 0, .slice none 0 0, .slice none 0 0, .slice none 0 0, .bool false]]) rfl) ?_
    rintro _ _ rfl
    refine Gx.val rfl rfl rfl (val_assign rfl rfl) ?_
    refine Gx.done ?_
    refine Gx.thenN ?_
    refine Gx.ret ?_
    refine Gx.thenR ?_
    refine Gx.retC2 Try.results7 Try.ty27 rfl rfl (us := [.slice none 0 0, .slice none 0 0, .slice none 0 0, .slice none 0 0, .bool false]) rfl (k := 0) rfl rfl ?_
    rfl
  · refine Gx.valg rfl rfl rfl rfl rfl (val_move rfl rfl) ?_
    refine Gx.valg rfl rfl rfl rfl rfl (val_gtr rfl rfl rfl) ?_
    refine Gx.val rfl rfl rfl (val_pickF rfl rfl rfl) ?_
    refine Gx.val rfl rfl rfl (val_move rfl rfl) ?_
    refine Gx.cases (t := 23) rfl (fun h3 => ?_) (fun h3 => ?_)
    · refine Gx.skipg rfl rfl rfl rfl rfl rfl ?_
      refine Gx.skipg rfl rfl rfl rfl rfl rfl ?_
      refine Gx.skipg rfl rfl rfl rfl rfl rfl ?_
      refine Gx.val rfl rfl rfl (val_pickT rfl rfl rfl) ?_
      refine Gx.done ?_
      refine Gx.thenN ?_
      refine Gx.t rfl ?_
      refine Gx.seq ?_
      refine Gx.region ?_
      refine Gx.val rfl rfl rfl (val_build rfl (qs := []) rfl rfl (fun w => by go_simp) (v := .agg #[.slice none 0 0, .slice none 0 0, .slice none 0 0, .slice none 0 0, .bool false])) ?_
      refine Gx.eff0 rfl rfl (eff_store rfl Try.ty27 rfl rfl (us := [.slice none 0 0, .slice none 0 0, .slice none 0 0, .slice none 0 0, .bool false]) rfl rfl rfl (k := 0) rfl (rfl) (vs' := [.slice none 0 0, .slice none 0 0, .slice none 0 0, .slice none 0 0, .bool false]) (rfl) (l' := [Hp.rec_ b1 [.slice none 0 0, .slice none 0 0, .slice none 0 0, .slice none 0 0, .bool false]]) rfl) ?_
      rintro _ _ rfl
      refine Gx.val rfl rfl rfl (val_assign rfl rfl) ?_
      refine Gx.done ?_
      refine Gx.thenN ?_
      refine Gx.ret ?_
      refine Gx.thenR ?_
      refine Gx.retC2 Try.results7 Try.ty27 rfl rfl (us := [.slice none 0 0, .slice none 0 0, .slice none 0 0, .slice none 0 0, .bool false]) rfl (k := 0) rfl rfl ?_
      rfl
    · refine Gx.valg rfl rfl rfl rfl rfl (val_move rfl rfl) ?_
      refine Gx.valg rfl rfl rfl rfl rfl (val_len rfl Try.underlying23 rfl (len_base hs)) ?_
      refine Gx.valg rfl rfl rfl rfl rfl (val_gtr rfl rfl rfl) ?_
      refine Gx.val rfl rfl rfl (val_pickF rfl rfl rfl) ?_
      refine Gx.done ?_
      refine Gx.thenN ?_
      refine Gx.dec rfl (fun h4 => ?_) (fun h4 => ?_)
      · refine Gx.seq ?_
        refine Gx.region ?_
        refine Gx.val rfl rfl rfl (val_build rfl (qs := []) rfl rfl (fun w => by go_simp) (v := .agg #[.slice none 0 0, .slice none 0 0, .slice none 0 0, .slice none 0 0, .bool false])) ?_
        refine Gx.eff0 rfl rfl (eff_store rfl Try.ty27 rfl rfl (us := [.slice none 0 0, .slice none 0 0, .slice none 0 0, .slice none 0 0, .bool false]) rfl rfl rfl (k := 0) rfl (rfl) (vs' := [.slice none 0 0, .slice none 0 0, .slice none 0 0, .slice none 0 0, .bool false]) (rfl) (l' := [Hp.rec_ b1 [.slice none 0 0, .slice none 0 0, .slice none 0 0, .slice none 0 0, .bool false]]) rfl) ?_
        rintro _ _ rfl
        refine Gx.val rfl rfl rfl (val_assign rfl rfl) ?_
        refine Gx.done ?_
        refine Gx.thenN ?_
        refine Gx.ret ?_
        refine Gx.thenR ?_
        refine Gx.retC2 Try.results7 Try.ty27 rfl rfl (us := [.slice none 0 0, .slice none 0 0, .slice none 0 0, .slice none 0 0, .bool false]) rfl (k := 0) rfl rfl ?_
        rfl
      · exfalso; omega

theorem play_no2 {W : World} {mv sv : Value} {money : List Int} {cs : List Mv} (hm : SlS FI 1 W mv money) (hs : SlS FM 4 W sv cs) (hok : ¬ (money.length = 0 ∨ 6 < money.length ∨ 120 < cs.length)) (hbad : 0 ≤ firstB money) :
    Calls Try.prog 7 #[mv, sv] W fun e w' => e = .returned (.tuple #[.agg #[.slice none 0 0, .slice none 0 0, .slice none 0 0, .slice none 0 0, .bool false], .int .i64 2]) ∧ Below W.heap.size W w' := by
  have hm1 := sls_bd hm
  have hs1 := sls_bd hs
  refine calls_pure (Gx.enter (l := []) Try.func7 rfl Try.ntmps7 rfl (Sat.start W) ?_)
  refine Gx.know (m' := [(0, mv), (1, sv)]) (.cons rfl (.cons rfl .nil)) ?_
  refine Gx.seq ?_
  refine Gx.region ?_
  refine Gx.eff rfl rfl rfl (eff_alloc rfl Try.ty27 (vs := [.slice none 0 0, .slice none 0 0, .slice none 0 0, .slice none 0 0, .bool false]) rfl) ?_
  rintro _ _ ⟨b1, rfl, rfl⟩
  refine Gx.val rfl rfl rfl (val_assign rfl rfl) ?_
  refine Gx.done ?_
  refine Gx.thenN ?_
  refine Gx.seq ?_
  refine Gx.region ?_
  refine Gx.val rfl rfl rfl (val_move rfl rfl) ?_
  refine Gx.val rfl rfl rfl (val_len rfl Try.underlying22 rfl (len_base hm)) ?_
  refine Gx.val rfl rfl rfl (val_assign rfl rfl) ?_
  refine Gx.done ?_
  refine Gx.thenN ?_
  refine Gx.seq ?_
  refine Gx.seq ?_
  refine Gx.region ?_
  refine Gx.val rfl rfl rfl (val_move rfl rfl) ?_
  refine Gx.val rfl rfl rfl (val_eql rfl rfl rfl) ?_
  refine Gx.val rfl rfl rfl (val_move rfl rfl) ?_
  refine Gx.slot (t := 19) (v := .bool false) (look_decF rfl (by omega)) ?_
  refine Gx.valg rfl rfl rfl rfl rfl (val_move rfl rfl) ?_
  refine Gx.valg rfl rfl rfl rfl rfl (val_gtr rfl rfl rfl) ?_
  refine Gx.val rfl rfl rfl (val_pickF rfl rfl rfl) ?_
  refine Gx.val rfl rfl rfl (val_move rfl rfl) ?_
  refine Gx.slot (t := 23) (v := .bool false) (look_decF rfl (by omega)) ?_
  refine Gx.valg rfl rfl rfl rfl rfl (val_move rfl rfl) ?_
  refine Gx.valg rfl rfl rfl rfl rfl (val_len rfl Try.underlying23 rfl (len_base hs)) ?_
  refine Gx.valg rfl rfl rfl rfl rfl (val_gtr rfl rfl rfl) ?_
  refine Gx.val rfl rfl rfl (val_pickF rfl rfl rfl) ?_
  refine Gx.done ?_
  refine Gx.thenN ?_
  refine Gx.decF rfl (by omega) ?_
  refine Gx.skip ?_
  refine Gx.thenN ?_
  refine Gx.seq ?_
  refine Gx.seq ?_
  refine Gx.region ?_
  refine Gx.val rfl rfl rfl (val_move rfl rfl) ?_
  refine Gx.val rfl rfl rfl (val_call (vs := [mv, .func (.func 10) #[] #[]]) rfl Try.fn9 rfl (fun w H => contains_any (hm.below H.below))) ?_
  refine Gx.done ?_
  refine Gx.thenN ?_
  refine Gx.decT rfl (hbad) ?_
  refine Gx.seq ?_
  refine Gx.region ?_
  refine Gx.val rfl rfl rfl (val_build rfl (qs := []) rfl rfl (fun w => by go_simp) (v := .agg #[.slice none 0 0, .slice none 0 0, .slice none 0 0, .slice none 0 0, .bool false])) ?_
  refine Gx.eff0 rfl rfl (eff_store rfl Try.ty27 rfl rfl (us := [.slice none 0 0, .slice none 0 0, .slice none 0 0, .slice none 0 0, .bool false]) rfl rfl rfl (k := 0) rfl (rfl) (vs' := [.slice none 0 0, .slice none 0 0, .slice none 0 0, .slice none 0 0, .bool false]) (rfl) (l' := [Hp.rec_ b1 [.slice none 0 0, .slice none 0 0, .slice none 0 0, .slice none 0 0, .bool false]]) rfl) ?_
  rintro _ _ rfl
  refine Gx.val rfl rfl rfl (val_assign rfl rfl) ?_
  refine Gx.done ?_
  refine Gx.thenN ?_
  refine Gx.ret ?_
  refine Gx.thenR ?_
  refine Gx.retC2 Try.results7 Try.ty27 rfl rfl (us := [.slice none 0 0, .slice none 0 0, .slice none 0 0, .slice none 0 0, .bool false]) rfl (k := 0) rfl rfl ?_
  rfl

end Go.Proofs.Ytanipkddfngnnaa
