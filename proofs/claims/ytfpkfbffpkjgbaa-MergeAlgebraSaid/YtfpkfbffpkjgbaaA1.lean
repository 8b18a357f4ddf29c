/- Dots and stamps, compared. The walks. No condition. -/
import Derived.Test.YtfpkfbffpkjgbaaT
import Derived.Test.YtfpkfbffpkjgbaaCMP
import Derived.Test.YtfpkfbffpkjgbaaW2
namespace Go.Proofs.Ytfpkfbffpkjgbaa
open Go.RowKit
set_option linter.unusedVariables false
set_option linter.unusedSimpArgs false
set_option maxRecDepth 100000

/-- what was put in -/
structure Dt where
  item : Int
  who : Int
  n : Int
instance : DecidableEq Dt := fun a b => decidable_of_iff (a.item = b.item ∧ a.who = b.who ∧ a.n = b.n) (by cases a; cases b; simp only [Dt.mk.injEq])
/-- what was set -/
structure Sp where
  n : Int
  who : Int
  val : Int
instance : DecidableEq Sp := fun a b => decidable_of_iff (a.n = b.n ∧ a.who = b.who ∧ a.val = b.val) (by cases a; cases b; simp only [Sp.mk.injEq])
abbrev FD (d : Dt) : List Value := [.int .i64 d.item, .int .i64 d.who, .int .i64 d.n]
theorem FD_len (c : Dt) : (FD c).length = 3 := rfl
theorem FD_one (p : Dt) (u : Value) (h : u ∈ FD p) : u.oneCell' = true := by simp [FD] at h; rcases h with rfl | rfl | rfl <;> rfl
abbrev FI (x : Int) : List Value := [.int .i64 x]
theorem FI_len (x : Int) : (FI x).length = 1 := rfl
theorem FI_one (p : Int) (u : Value) (h : u ∈ FI p) : u.oneCell' = true := by simp [FI] at h; subst h; rfl
theorem Try.eI : Elem Try.prog 45 3 (.int .i64 0) 1 8 := ⟨Try.underlying45, by kernel_rfl, rfl, by decide⟩
theorem Try.eD : Elem Try.prog 25 59 (.agg #[.int .i64 0, .int .i64 0, .int .i64 0]) 3 24 := ⟨Try.underlying25, by kernel_rfl, rfl, by decide⟩
theorem cmp_b (a b : Int) {w : World} : Calls Try.prog 41 #[.int .i64 a, .int .i64 b] w fun e w' => e = .returned (.int .i64 (cmpI a b)) ∧ Below w.heap.size w w' := (compare_any a b w).mono fun e w' ⟨he, hw⟩ => ⟨he, by rw [← hw]; exact Below.refl _ _⟩
/-- the first that is not zero -/
def orL : List Int → Int
  | [] => 0
  | x :: l => if x = 0 then orL l else x
theorem orL_zero : ∀ {l : List Int}, (∀ (i : Nat) (x : Int), l[i]? = some x → x = 0) → orL l = 0
  | [], _ => rfl
  | x :: l, h => by
    have h0 := h 0 x rfl
    rw [orL, if_pos h0]
    exact orL_zero fun i y hy => h (i + 1) y hy
theorem orL_at : ∀ {l : List Int} {k : Nat} {x : Int}, l[k]? = some x → x ≠ 0 → (∀ (i : Nat) (y : Int), i < k → l[i]? = some y → y = 0) → orL l = x
  | [], k, x, h, _, _ => by simp at h
  | a :: l, 0, x, h, hx, _ => by simp at h; subst h; rw [orL, if_neg hx]
  | a :: l, k + 1, x, h, hx, h0 => by
    have ha := h0 0 a (by omega) rfl
    rw [orL, if_pos ha]
    exact orL_at (k := k) (by simpa using h) hx fun i y hi hy => h0 (i + 1) y (by omega) (by simpa using hy)
theorem sls_rec {W w : World} {g cap : Nat} {xs : List Int} {R : Hp} (hl : xs.length ≤ 100) (hc : xs.length ≤ cap) (H : Sat W w (Hp.rec_ g (xs.map fun x => Value.int .i64 x) * R)) : SlS FI 1 w (.slice (some ⟨g, 0, none⟩) xs.length cap) xs := by
  refine ⟨_, cap, rfl, by omega, ⟨fun h => by (cases h), hc⟩, fun j x hx => ⟨g, 0, rfl, H.rec_.1, fun i u hu => ?_⟩⟩
  have hi : i = 0 := by have := (List.getElem?_eq_some_iff.1 hu).1; simp [FI] at this; omega
  subst hi
  have e : u = .int .i64 x := by simpa [FI, eq_comm] using hu
  subst e
  rw [show 0 + (j * 1 + 0) = j by omega]
  exact H.cell j (by rw [List.getElem?_map, hx]; rfl)
/-- of two dots -/
def dotC (a b : Dt) : Int := orL [cmpI a.item b.item, cmpI a.who b.who, cmpI a.n b.n]
def spC (a b : Sp) : Int := orL [cmpI a.n b.n, cmpI a.who b.who]
theorem or_any {W : World} {v : Value} {xs : List Int} (hs : SlS FI 1 W v xs) : Calls Try.prog 40 #[v] W fun e w' => e = .returned (.int .i64 (orL xs)) ∧ Below W.heap.size W w' := by
  have hm9 := sls_bd hs
  refine calls_pure (Gx.enter (l := []) Try.func40 rfl Try.ntmps40 rfl (Sat.start W) ?_)
  refine Gx.know (m' := [(0, v)]) (.cons rfl .nil) ?_
  refine Gx.seq ?_
  refine Gx.region ?_
  refine Gx.val rfl rfl rfl (val_assign rfl rfl) ?_
  refine Gx.done ?_
  refine Gx.thenN ?_
  refine Gx.seq ?_
  refine Gx.region ?_
  refine Gx.val rfl rfl rfl (val_assign rfl rfl) ?_
  refine Gx.done ?_
  refine Gx.thenN ?_
  refine Gx.seq ?_
  refine Gx.seq ?_
  refine Gx.region ?_
  refine Gx.val rfl rfl rfl (val_move rfl rfl) ?_
  refine Gx.val rfl rfl rfl (val_len rfl Try.underlying45 rfl (len_base hs)) ?_
  refine Gx.val rfl rfl rfl (val_move rfl rfl) ?_
  refine Gx.done ?_
  refine Gx.thenN ?_
  refine Gx.block ?_
  refine Gx.loop (ι := Nat) (fun ξ => (ξ ≤ xs.length) ∧ (∀ (i : Nat) (y : Int), i < ξ → xs[i]? = some y → y = 0)) (fun ξ => [(2, .int .i64 0), (3, .int .i64 0), (6, v), (7, .int .i64 ((xs.length : Nat) : Int)), (8, .int .i64 ((ξ : Nat) : Int))]) (fun ξ => []) (fun ξ => xs.length - ξ) 0 ⟨by first | omega | (dsimp only; omega), fun i y h => absurd h (Nat.not_lt_zero _)⟩ ((.cons rfl (.cons rfl (.cons rfl (.cons rfl (.cons rfl .nil)))))) rfl ?_
  rintro k ⟨hk, h0⟩
  refine Gx.know (m' := [(2, .int .i64 0), (3, .int .i64 0), (6, v), (7, .int .i64 ((xs.length : Nat) : Int)), (8, .int .i64 ((k : Nat) : Int))]) (.cons rfl (.cons rfl (.cons rfl (.cons rfl (.cons rfl .nil))))) (Gx.norm (l' := []) rfl ?_)
  refine Gx.seq ?_
  refine Gx.region ?_
  refine Gx.val rfl rfl rfl (val_lss rfl rfl rfl) ?_
  refine Gx.done ?_
  refine Gx.thenN ?_
  refine Gx.seq ?_
  refine Gx.dec rfl (fun h1 => ?_) (fun h1 => ?_)
  · refine Gx.skip ?_
    refine Gx.thenN ?_
    refine Gx.seq ?_
    refine Gx.block ?_
    refine Gx.seq ?_
    obtain ⟨x, hx⟩ := get_of_lt (xs := xs) (k := k) (by omega)
    refine Gx.region ?_
    refine Gx.val rfl rfl rfl (val_ixa rfl Try.underlying45 Try.ty3 rfl rfl (j := k) (rfl) (reach_base hs hx)) ?_
    refine Gx.val rfl rfl rfl (val_load rfl Try.ty3 rfl rfl (cell_base (i := 0) hs hx rfl)) ?_
    refine Gx.val rfl rfl rfl (val_assign rfl rfl) ?_
    refine Gx.done ?_
    refine Gx.thenN ?_
    refine Gx.seq ?_
    refine Gx.region ?_
    refine Gx.val rfl rfl rfl (val_move rfl rfl) ?_
    refine Gx.val rfl rfl rfl (val_move rfl rfl) ?_
    refine Gx.val rfl rfl rfl (val_neq rfl rfl rfl) ?_
    refine Gx.done ?_
    refine Gx.thenN ?_
    refine Gx.dec rfl (fun h2 => ?_) (fun h2 => ?_)
    · refine Gx.seq ?_
      refine Gx.region ?_
      refine Gx.val rfl rfl rfl (val_move rfl rfl) ?_
      refine Gx.val rfl rfl rfl (val_assign rfl rfl) ?_
      refine Gx.done ?_
      refine Gx.thenN ?_
      refine Gx.ret ?_
      refine Gx.blkR ?_
      refine Gx.thenR ?_
      refine Gx.thenR ?_
      refine Gx.blkR ?_
      refine Gx.thenR ?_
      refine Gx.ret1 Try.results40 rfl ?_
      exact congrArg (Value.int .i64) (orL_at hx (by omega) h0).symm
    refine Gx.skip ?_
    refine Gx.blkN ?_
    refine Gx.thenN ?_
    refine Gx.region ?_
    refine Gx.val rfl rfl rfl (val_add rfl rfl rfl (r := ((k + 1 : Nat) : Int)) (w64 (by omega) (by omega))) ?_
    refine Gx.val rfl rfl rfl (val_move rfl rfl) ?_
    refine Gx.done ?_
    refine Gx.thenN ?_
    exact Gx.round (k + 1) ⟨by first | omega | (dsimp only; omega), fun i y h1 h2 => by
      by_cases e : i = k
      · subst e; rw [hx] at h2; cases h2; omega
      · exact h0 i y (by (try dsimp only at h1); omega) h2⟩ (by first | omega | (dsimp only; omega)) ((.cons rfl (.cons rfl (.cons rfl (.cons rfl (.cons rfl .nil)))))) rfl
  refine Gx.exit ?_
  refine Gx.thenE ?_
  refine Gx.thenE ?_
  refine Gx.blkE ?_
  refine Gx.thenN ?_
  refine Gx.seq ?_
  refine Gx.region ?_
  refine Gx.val rfl rfl rfl (val_move rfl rfl) ?_
  refine Gx.val rfl rfl rfl (val_assign rfl rfl) ?_
  refine Gx.done ?_
  refine Gx.thenN ?_
  refine Gx.ret ?_
  refine Gx.ret1 Try.results40 rfl ?_
  exact congrArg (Value.int .i64) (orL_zero fun i y hy => h0 i y (by have := (List.getElem?_eq_some_iff.1 hy).1; omega) hy).symm

theorem dots_any {W : World} (a b : Dt) : Calls Try.prog 26 #[.agg #[.int .i64 a.item, .int .i64 a.who, .int .i64 a.n], .agg #[.int .i64 b.item, .int .i64 b.who, .int .i64 b.n]] W fun e w' => e = .returned (.int .i64 (dotC a b)) ∧ Below W.heap.size W w' := by
  refine calls_pure (Gx.enter (l := []) Try.func26 rfl Try.ntmps26 rfl (Sat.start W) ?_)
  refine Gx.know (m' := [(0, .agg #[.int .i64 a.item, .int .i64 a.who, .int .i64 a.n]), (1, .agg #[.int .i64 b.item, .int .i64 b.who, .int .i64 b.n])]) (.cons rfl (.cons rfl .nil)) ?_
  refine Gx.seq ?_
  refine Gx.region ?_
  refine Gx.eff rfl rfl rfl (eff_box rfl rfl (vs := [.int .i64 a.item, .int .i64 a.who, .int .i64 a.n]) rfl) ?_
  rintro _ _ ⟨b1, rfl, rfl⟩
  refine Gx.eff rfl rfl rfl (eff_box rfl rfl (vs := [.int .i64 b.item, .int .i64 b.who, .int .i64 b.n]) rfl) ?_
  rintro _ _ ⟨b2, rfl, rfl⟩
  refine Gx.val rfl rfl rfl (val_assign rfl rfl) ?_
  refine Gx.done ?_
  refine Gx.thenN ?_
  refine Gx.seq ?_
  refine Gx.regionO (fun j => false) 15 [0, 1, 2, 3, 4, 5, 6, 7, 8, 9, 10, 11, 12, 13, 14] (fun _ => [Hp.rec_ b2 [.int .i64 b.item, .int .i64 b.who, .int .i64 b.n], Hp.rec_ b1 [.int .i64 a.item, .int .i64 a.who, .int .i64 a.n]]) Try.mixed (by kernel_rfl) rfl ?_
  refine Gw.val rfl rfl rfl rfl rfl (fun us => Val.cast (val_fieldAddr rfl Try.underlying59 rfl Try.ty3 rfl rfl) (v' := ptr b1 0) rfl) ?_
  refine Gw.val0 rfl rfl rfl (by kernel_rfl) rfl rfl (val_load rfl Try.ty3 rfl rfl (cell_rec (k := 1) rfl rfl)) ?_
  refine Gw.val rfl rfl rfl rfl rfl (fun us => Val.cast (val_fieldAddr rfl Try.underlying59 rfl Try.ty3 rfl rfl) (v' := ptr b2 0) rfl) ?_
  refine Gw.val0 rfl rfl rfl (by kernel_rfl) rfl rfl (val_load rfl Try.ty3 rfl rfl (cell_rec (k := 0) rfl rfl)) ?_
  refine Gw.val rfl rfl rfl rfl rfl (fun us => val_call (vs := [.int .i64 a.item, .int .i64 b.item]) rfl Try.fn41 rfl (fun w H => cmp_b a.item b.item)) ?_
  refine Gw.val rfl rfl rfl rfl rfl (fun us => Val.cast (val_fieldAddr rfl Try.underlying59 rfl Try.ty3 rfl rfl) (v' := ptr b1 1) rfl) ?_
  refine Gw.val0 rfl rfl rfl (by kernel_rfl) rfl rfl (val_load rfl Try.ty3 rfl rfl (cell_rec (k := 1) rfl rfl)) ?_
  refine Gw.val rfl rfl rfl rfl rfl (fun us => Val.cast (val_fieldAddr rfl Try.underlying59 rfl Try.ty3 rfl rfl) (v' := ptr b2 1) rfl) ?_
  refine Gw.val0 rfl rfl rfl (by kernel_rfl) rfl rfl (val_load rfl Try.ty3 rfl rfl (cell_rec (k := 0) rfl rfl)) ?_
  refine Gw.val rfl rfl rfl rfl rfl (fun us => val_call (vs := [.int .i64 a.who, .int .i64 b.who]) rfl Try.fn41 rfl (fun w H => cmp_b a.who b.who)) ?_
  refine Gw.val rfl rfl rfl rfl rfl (fun us => Val.cast (val_fieldAddr rfl Try.underlying59 rfl Try.ty3 rfl rfl) (v' := ptr b1 2) rfl) ?_
  refine Gw.val0 rfl rfl rfl (by kernel_rfl) rfl rfl (val_load rfl Try.ty3 rfl rfl (cell_rec (k := 1) rfl rfl)) ?_
  refine Gw.val rfl rfl rfl rfl rfl (fun us => Val.cast (val_fieldAddr rfl Try.underlying59 rfl Try.ty3 rfl rfl) (v' := ptr b2 2) rfl) ?_
  refine Gw.val0 rfl rfl rfl (by kernel_rfl) rfl rfl (val_load rfl Try.ty3 rfl rfl (cell_rec (k := 0) rfl rfl)) ?_
  refine Gw.val rfl rfl rfl rfl rfl (fun us => val_call (vs := [.int .i64 a.n, .int .i64 b.n]) rfl Try.fn41 rfl (fun w H => cmp_b a.n b.n)) ?_
  refine Gw.done ?_
  refine Gx.norm (l' := [Hp.rec_ b2 [.int .i64 b.item, .int .i64 b.who, .int .i64 b.n], Hp.rec_ b1 [.int .i64 a.item, .int .i64 a.who, .int .i64 a.n]]) rfl ?_
  refine Gx.eff rfl rfl rfl (eff_buildSlice rfl (qs := [(0, .int .i64 (cmpI a.item b.item)), (1, .int .i64 (cmpI a.who b.who)), (2, .int .i64 (cmpI a.n b.n))]) rfl rfl (cs := #[.int .i64 (cmpI a.item b.item), .int .i64 (cmpI a.who b.who), .int .i64 (cmpI a.n b.n)]) (vs := [.int .i64 (cmpI a.item b.item), .int .i64 (cmpI a.who b.who), .int .i64 (cmpI a.n b.n)]) (E := 3) rfl (fun w => by first | (go_simp; done) | (go_simp; rfl))) ?_
  rintro _ _ ⟨b3, rfl, rfl⟩
  refine Gx.val rfl rfl rfl (val_call (vs := [.slice (some ⟨b3, 0, none⟩) 3 3]) rfl Try.fn40 rfl (fun w H => or_any (sls_rec (xs := [(cmpI a.item b.item), (cmpI a.who b.who), (cmpI a.n b.n)]) (by simp) (by simp) (H.at_ (k := 0) rfl)))) ?_
  refine Gx.val rfl rfl rfl (val_assign rfl rfl) ?_
  refine Gx.done ?_
  refine Gx.thenN ?_
  refine Gx.ret ?_
  refine Gx.ret1 Try.results26 rfl ?_
  rfl

theorem stamps_any {W : World} (a b : Sp) : Calls Try.prog 32 #[.agg #[.int .i64 a.n, .int .i64 a.who, .int .i64 a.val], .agg #[.int .i64 b.n, .int .i64 b.who, .int .i64 b.val]] W fun e w' => e = .returned (.int .i64 (spC a b)) ∧ Below W.heap.size W w' := by
  refine calls_pure (Gx.enter (l := []) Try.func32 rfl Try.ntmps32 rfl (Sat.start W) ?_)
  refine Gx.know (m' := [(0, .agg #[.int .i64 a.n, .int .i64 a.who, .int .i64 a.val]), (1, .agg #[.int .i64 b.n, .int .i64 b.who, .int .i64 b.val])]) (.cons rfl (.cons rfl .nil)) ?_
  refine Gx.seq ?_
  refine Gx.region ?_
  refine Gx.eff rfl rfl rfl (eff_box rfl rfl (vs := [.int .i64 a.n, .int .i64 a.who, .int .i64 a.val]) rfl) ?_
  rintro _ _ ⟨b1, rfl, rfl⟩
  refine Gx.eff rfl rfl rfl (eff_box rfl rfl (vs := [.int .i64 b.n, .int .i64 b.who, .int .i64 b.val]) rfl) ?_
  rintro _ _ ⟨b2, rfl, rfl⟩
  refine Gx.val rfl rfl rfl (val_assign rfl rfl) ?_
  refine Gx.done ?_
  refine Gx.thenN ?_
  refine Gx.seq ?_
  refine Gx.regionO (fun j => false) 10 [0, 1, 2, 3, 4, 5, 6, 7, 8, 9] (fun _ => [Hp.rec_ b2 [.int .i64 b.n, .int .i64 b.who, .int .i64 b.val], Hp.rec_ b1 [.int .i64 a.n, .int .i64 a.who, .int .i64 a.val]]) Try.mixed (by kernel_rfl) rfl ?_
  refine Gw.val rfl rfl rfl rfl rfl (fun us => Val.cast (val_fieldAddr rfl Try.underlying24 rfl Try.ty3 rfl rfl) (v' := ptr b1 0) rfl) ?_
  refine Gw.val0 rfl rfl rfl (by kernel_rfl) rfl rfl (val_load rfl Try.ty3 rfl rfl (cell_rec (k := 1) rfl rfl)) ?_
  refine Gw.val rfl rfl rfl rfl rfl (fun us => Val.cast (val_fieldAddr rfl Try.underlying24 rfl Try.ty3 rfl rfl) (v' := ptr b2 0) rfl) ?_
  refine Gw.val0 rfl rfl rfl (by kernel_rfl) rfl rfl (val_load rfl Try.ty3 rfl rfl (cell_rec (k := 0) rfl rfl)) ?_
  refine Gw.val rfl rfl rfl rfl rfl (fun us => val_call (vs := [.int .i64 a.n, .int .i64 b.n]) rfl Try.fn41 rfl (fun w H => cmp_b a.n b.n)) ?_
  refine Gw.val rfl rfl rfl rfl rfl (fun us => Val.cast (val_fieldAddr rfl Try.underlying24 rfl Try.ty3 rfl rfl) (v' := ptr b1 1) rfl) ?_
  refine Gw.val0 rfl rfl rfl (by kernel_rfl) rfl rfl (val_load rfl Try.ty3 rfl rfl (cell_rec (k := 1) rfl rfl)) ?_
  refine Gw.val rfl rfl rfl rfl rfl (fun us => Val.cast (val_fieldAddr rfl Try.underlying24 rfl Try.ty3 rfl rfl) (v' := ptr b2 1) rfl) ?_
  refine Gw.val0 rfl rfl rfl (by kernel_rfl) rfl rfl (val_load rfl Try.ty3 rfl rfl (cell_rec (k := 0) rfl rfl)) ?_
  refine Gw.val rfl rfl rfl rfl rfl (fun us => val_call (vs := [.int .i64 a.who, .int .i64 b.who]) rfl Try.fn41 rfl (fun w H => cmp_b a.who b.who)) ?_
  refine Gw.done ?_
  refine Gx.norm (l' := [Hp.rec_ b2 [.int .i64 b.n, .int .i64 b.who, .int .i64 b.val], Hp.rec_ b1 [.int .i64 a.n, .int .i64 a.who, .int .i64 a.val]]) rfl ?_
  refine Gx.eff rfl rfl rfl (eff_buildSlice rfl (qs := [(0, .int .i64 (cmpI a.n b.n)), (1, .int .i64 (cmpI a.who b.who))]) rfl rfl (cs := #[.int .i64 (cmpI a.n b.n), .int .i64 (cmpI a.who b.who)]) (vs := [.int .i64 (cmpI a.n b.n), .int .i64 (cmpI a.who b.who)]) (E := 3) rfl (fun w => by first | (go_simp; done) | (go_simp; rfl))) ?_
  rintro _ _ ⟨b3, rfl, rfl⟩
  refine Gx.val rfl rfl rfl (val_call (vs := [.slice (some ⟨b3, 0, none⟩) 2 2]) rfl Try.fn40 rfl (fun w H => or_any (sls_rec (xs := [(cmpI a.n b.n), (cmpI a.who b.who)]) (by simp) (by simp) (H.at_ (k := 0) rfl)))) ?_
  refine Gx.val rfl rfl rfl (val_assign rfl rfl) ?_
  refine Gx.done ?_
  refine Gx.thenN ?_
  refine Gx.ret ?_
  refine Gx.ret1 Try.results32 rfl ?_
  rfl

/-- within bounds -/
def inV (x : Int) : Bool := decide (-1099511627776 ≤ x ∧ x ≤ 1099511627776)
theorem within_any {W : World} (x : Int) : Calls Try.prog 30 #[.int .i64 x] W fun e w' => e = .returned (.bool (inV x)) ∧ Below W.heap.size W w' := by
  refine calls_pure (Gx.enter (l := []) Try.func30 rfl Try.ntmps30 rfl (Sat.start W) ?_)
  refine Gx.know (m' := [(0, .int .i64 x)]) (.cons rfl .nil) ?_
  refine Gx.seq ?_
  refine Gx.region ?_
  refine Gx.val rfl rfl rfl (val_assign rfl rfl) ?_
  refine Gx.done ?_
  refine Gx.thenN ?_
  refine Gx.seq ?_
  refine Gx.region ?_
  refine Gx.val rfl rfl rfl (val_move rfl rfl) ?_
  refine Gx.val rfl rfl rfl (val_geq rfl rfl rfl) ?_
  refine Gx.val rfl rfl rfl (val_move rfl rfl) ?_
  refine Gx.cases (t := 5) rfl (fun h1 => ?_) (fun h1 => ?_)
  · refine Gx.valg rfl rfl rfl rfl rfl (val_move rfl rfl) ?_
    refine Gx.valg rfl rfl rfl rfl rfl (val_leq rfl rfl rfl) ?_
    refine Gx.val rfl rfl rfl (val_pickT rfl rfl rfl) ?_
    refine Gx.val rfl rfl rfl (val_assign rfl rfl) ?_
    refine Gx.done ?_
    refine Gx.thenN ?_
    refine Gx.ret ?_
    refine Gx.ret1 Try.results30 rfl ?_
    exact congrArg Value.bool (by unfold inV; first | exact (decide_eq_true (by omega)).symm | exact (decide_eq_false (by omega)).symm | exact decide_eq_decide.2 (by omega))
  refine Gx.skipg rfl rfl rfl rfl rfl rfl ?_
  refine Gx.skipg rfl rfl rfl rfl rfl rfl ?_
  refine Gx.val rfl rfl rfl (val_pickF rfl rfl rfl) ?_
  refine Gx.val rfl rfl rfl (val_assign rfl rfl) ?_
  refine Gx.done ?_
  refine Gx.thenN ?_
  refine Gx.ret ?_
  refine Gx.ret1 Try.results30 rfl ?_
  exact congrArg Value.bool (by unfold inV; first | exact (decide_eq_true (by omega)).symm | exact (decide_eq_false (by omega)).symm | exact decide_eq_decide.2 (by omega))
end Go.Proofs.Ytfpkfbffpkjgbaa
