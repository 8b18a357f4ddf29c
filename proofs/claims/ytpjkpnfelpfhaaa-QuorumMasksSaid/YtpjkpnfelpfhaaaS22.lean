/- The library's sort by insertion, and by a heap. The walks. No condition. -/
import Derived.Test.YtpjkpnfelpfhaaaS21
namespace Go.Proofs.Ytpjkpnfelpfhaaa
open Go.RowKit
set_option linter.unusedVariables false
set_option linter.unusedSimpArgs false
set_option maxRecDepth 100000

theorem q64 {i j : Int} {a m : Nat} (hi : i = ((a : Nat) : Int)) (hj : j = ((m : Nat) : Int)) (ha : a ≤ 9223372036854775807) : IntKind.i64.wrap (i.tdiv j) = ((a / m : Nat) : Int) := by
  subst hi; subst hj
  have hb : ∀ q : Nat, q ≤ a → -9223372036854775808 ≤ (q : Int) ∧ (q : Int) ≤ 9223372036854775807 := fun q hq => ⟨by omega, by omega⟩
  exact w64 rfl (hb _ (Nat.div_le_self a m))
theorem ins_any {W w : World} {v : Value} {xs : List Nat} {R : Hp} {a b : Nat} (hab : a ≤ b) (hb : b ≤ xs.length) (hl : xs.length ≤ 65000) (H : Sat W w (Hp.own FU 1 v xs * R)) :
    Calls Try.prog 41 #[v, .int .i64 ((a : Nat) : Int), .int .i64 ((b : Nat) : Int)] w (Ret W fun u l => ∃ ys, Sh a b xs ys ∧ Srt a b ys ∧ u = .tuple #[] ∧ sep l = Hp.own FU 1 v ys * R) := by
  refine Gx.enter (l := [Hp.own FU 1 v xs, R]) Try.func41 rfl Try.ntmps41 rfl (H.frame1) ?_
  refine Gx.know (m' := [(0, v), (1, .int .i64 ((a : Nat) : Int)), (2, .int .i64 ((b : Nat) : Int))]) (.cons rfl (.cons rfl (.cons rfl .nil))) ?_
  refine Gx.seq ?_
  refine Gx.region ?_
  refine Gx.val rfl rfl rfl (val_move rfl rfl) ?_
  refine Gx.val rfl rfl rfl (val_add rfl rfl rfl (r := ((a + 1 : Nat) : Int)) (w64 (by omega) (by omega))) ?_
  refine Gx.val rfl rfl rfl (val_assign rfl rfl) ?_
  refine Gx.done ?_
  refine Gx.thenN ?_
  refine Gx.block ?_
  refine Gx.loop (ι := Nat × (List Nat)) (fun ξ => (a + 1 ≤ ξ.1) ∧ (ξ.1 ≤ b ∨ ξ.1 = a + 1) ∧ (Sh a b xs ξ.2) ∧ (Srt a ξ.1 ξ.2)) (fun ξ => [(0, v), (1, .int .i64 ((a : Nat) : Int)), (2, .int .i64 ((b : Nat) : Int)), (6, .int .i64 ((ξ.1 : Nat) : Int))]) (fun ξ => [Hp.own FU 1 v ξ.2, R]) (fun ξ => b - ξ.1) (a + 1, xs) ⟨by first | omega | (dsimp only; omega), by first | omega | (dsimp only; omega), Sh.refl _, Srt.one _ _⟩ ((.cons rfl (.cons rfl (.cons rfl (.cons rfl .nil))))) rfl ?_
  rintro ⟨i, L⟩ ⟨hai, hib, hsh, hs⟩
  dsimp only at hai hib hsh hs
  refine Gx.know (m' := [(0, v), (1, .int .i64 ((a : Nat) : Int)), (2, .int .i64 ((b : Nat) : Int)), (6, .int .i64 ((i : Nat) : Int))]) (.cons rfl (.cons rfl (.cons rfl (.cons rfl .nil)))) (Gx.norm (l' := [Hp.own FU 1 v L, R]) rfl ?_)
  refine Gx.seq ?_
  refine Gx.seq ?_
  refine Gx.region ?_
  refine Gx.val rfl rfl rfl (val_move rfl rfl) ?_
  refine Gx.val rfl rfl rfl (val_move rfl rfl) ?_
  refine Gx.val rfl rfl rfl (val_lss rfl rfl rfl) ?_
  refine Gx.done ?_
  refine Gx.thenN ?_
  refine Gx.dec rfl (fun h1 => ?_) (fun h1 => ?_)
  · refine Gx.skip ?_
    refine Gx.thenN ?_
    refine Gx.seq ?_
    refine Gx.block ?_
    refine Gx.seq ?_
    refine Gx.region ?_
    refine Gx.val rfl rfl rfl (val_move rfl rfl) ?_
    refine Gx.val rfl rfl rfl (val_assign rfl rfl) ?_
    refine Gx.done ?_
    refine Gx.thenN ?_
    refine Gx.block ?_
    refine Gx.loop (ι := Nat × (List Nat)) (fun ξ => (a ≤ ξ.1) ∧ (ξ.1 ≤ i) ∧ (Sh a b xs ξ.2) ∧ (Ins a i ξ.1 ξ.2)) (fun ξ => [(0, v), (1, .int .i64 ((a : Nat) : Int)), (2, .int .i64 ((b : Nat) : Int)), (6, .int .i64 ((i : Nat) : Int)), (7, .int .i64 ((ξ.1 : Nat) : Int))]) (fun ξ => [Hp.own FU 1 v ξ.2, R]) (fun ξ => ξ.1) (i, L) ⟨by first | omega | (dsimp only; omega), by first | omega | (dsimp only; omega), hsh, Srt.ins hs⟩ ((.cons rfl (.cons rfl (.cons rfl (.cons rfl (.cons rfl .nil)))))) rfl ?_
    rintro ⟨j, M⟩ ⟨haj, hji, hsh2, hin⟩
    dsimp only at haj hji hsh2 hin
    refine Gx.know (m' := [(0, v), (1, .int .i64 ((a : Nat) : Int)), (2, .int .i64 ((b : Nat) : Int)), (6, .int .i64 ((i : Nat) : Int)), (7, .int .i64 ((j : Nat) : Int))]) (.cons rfl (.cons rfl (.cons rfl (.cons rfl (.cons rfl .nil))))) (Gx.norm (l' := [Hp.own FU 1 v M, R]) rfl ?_)
    rcases (show j = a ∨ ∃ j', j = j' + 1 ∧ a ≤ j' from by rcases Nat.lt_or_ge a j with q | q; exact .inr ⟨j - 1, by omega, by omega⟩; exact .inl (by omega)) with hja | ⟨j, rfl, haj2⟩
    · refine Gx.know (m' := [(0, v), (1, .int .i64 ((a : Nat) : Int)), (2, .int .i64 ((b : Nat) : Int)), (6, .int .i64 ((i : Nat) : Int)), (7, .int .i64 ((j : Nat) : Int))]) (.cons rfl (.cons rfl (.cons rfl (.cons rfl (.cons rfl .nil))))) (Gx.norm (l' := [Hp.own FU 1 v M, R]) rfl ?_)
      refine Gx.seq ?_
      refine Gx.seq ?_
      have hM := hsh2.len
      refine Gx.regionQ Try.mixed (by kernel_rfl) ?_
      refine Gq.val rfl rfl rfl (val_move rfl rfl) ?_
      refine Gq.val rfl rfl rfl (val_move rfl rfl) ?_
      refine Gq.val rfl rfl rfl (val_gtr rfl rfl rfl) ?_
      refine Gq.val rfl rfl rfl (val_move rfl rfl) ?_
      refine Gq.slot (t := 19) (v := .bool false) (look_decF rfl (by omega)) ?_
      refine Gq.skipg rfl rfl rfl rfl rfl rfl ?_
      refine Gq.skipg rfl rfl rfl rfl rfl rfl ?_
      refine Gq.skipg rfl rfl rfl rfl rfl rfl ?_
      refine Gq.skipg rfl rfl rfl rfl rfl rfl ?_
      refine Gq.skipg rfl rfl rfl rfl rfl rfl ?_
      refine Gq.skipg rfl rfl rfl rfl rfl rfl ?_
      refine Gq.skipg rfl rfl rfl rfl rfl rfl ?_
      refine Gq.skipg rfl rfl rfl rfl rfl rfl ?_
      refine Gq.skipg rfl rfl rfl rfl rfl rfl ?_
      refine Gq.skipg rfl rfl rfl rfl rfl rfl ?_
      refine Gq.val rfl rfl rfl (val_pickF rfl rfl rfl) ?_
      refine Gq.done ?_
      refine Gx.thenN ?_
      refine Gx.f rfl ?_
      refine Gx.exit ?_
      refine Gx.thenE ?_
      refine Gx.thenE ?_
      refine Gx.blkE ?_
      refine Gx.blkN ?_
      refine Gx.thenN ?_
      refine Gx.region ?_
      refine Gx.val rfl rfl rfl (val_move rfl rfl) ?_
      refine Gx.val rfl rfl rfl (val_add rfl rfl rfl (r := ((i + 1 : Nat) : Int)) (w64 (by omega) (by omega))) ?_
      refine Gx.val rfl rfl rfl (val_assign rfl rfl) ?_
      refine Gx.done ?_
      refine Gx.thenN ?_
      exact Gx.round (i + 1, M) ⟨by first | omega | (dsimp only; omega), by first | omega | (dsimp only; omega), hsh2, Ins.done hin (.inl (by omega))⟩ (by first | omega | (dsimp only; omega)) ((.cons rfl (.cons rfl (.cons rfl (.cons rfl .nil))))) rfl
    · refine Gx.know (m' := [(0, v), (1, .int .i64 ((a : Nat) : Int)), (2, .int .i64 ((b : Nat) : Int)), (6, .int .i64 ((i : Nat) : Int)), (7, .int .i64 (((j + 1) : Nat) : Int))]) (.cons rfl (.cons rfl (.cons rfl (.cons rfl (.cons rfl .nil))))) (Gx.norm (l' := [Hp.own FU 1 v M, R]) rfl ?_)
      refine Gx.seq ?_
      refine Gx.seq ?_
      have hM := hsh2.len
      obtain ⟨x, hx⟩ := get_of_lt (xs := M) (k := j) (by omega)
      obtain ⟨y, hy⟩ := get_of_lt (xs := M) (k := j + 1) (by omega)
      refine Gx.regionQ Try.mixed (by kernel_rfl) ?_
      refine Gq.val rfl rfl rfl (val_move rfl rfl) ?_
      refine Gq.val rfl rfl rfl (val_move rfl rfl) ?_
      refine Gq.val rfl rfl rfl (val_gtr rfl rfl rfl) ?_
      refine Gq.val rfl rfl rfl (val_move rfl rfl) ?_
      refine Gq.slot (t := 19) (v := .bool true) (look_decT rfl (by omega)) ?_
      refine Gq.valg rfl rfl rfl rfl rfl (val_move rfl rfl) ?_
      refine Gq.valg rfl rfl rfl rfl rfl (val_move rfl rfl) ?_
      refine Gq.valg rfl rfl rfl rfl rfl (val_ixa rfl Try.underlying22 Try.ty28 rfl rfl (j := (j + 1)) (rfl) (reach_own (k := 0) rfl hy)) ?_
      refine Gq.valg rfl rfl rfl rfl rfl (val_load rfl Try.ty28 rfl rfl (cell_own (i := 0) (sz := 1) (j := (j + 1)) (k := 0) rfl hy rfl)) ?_
      refine Gq.valg rfl rfl rfl rfl rfl (val_move rfl rfl) ?_
      refine Gq.valg rfl rfl rfl rfl rfl (val_move rfl rfl) ?_
      refine Gq.valg rfl rfl rfl rfl rfl (val_sub rfl rfl rfl (r := ((j : Nat) : Int)) (w64 (by omega) (by omega))) ?_
      refine Gq.valg rfl rfl rfl rfl rfl (val_ixa rfl Try.underlying22 Try.ty28 rfl rfl (j := j) (rfl) (reach_own (k := 0) rfl hx)) ?_
      refine Gq.valg rfl rfl rfl rfl rfl (val_load rfl Try.ty28 rfl rfl (cell_own (i := 0) (k := 0) rfl hx rfl)) ?_
      refine Gq.valg rfl rfl rfl rfl rfl (val_call (vs := [.int .u32 ((y : Nat) : Int), .int .u32 ((x : Nat) : Int)]) rfl Try.fn47 rfl (fun w H => less_any y x)) ?_
      refine Gq.val rfl rfl rfl (val_pickT rfl rfl rfl) ?_
      refine Gq.done ?_
      refine Gx.thenN ?_
      refine Gx.dec rfl (fun h2 => ?_) (fun h2 => ?_)
      · refine Gx.skip ?_
        refine Gx.thenN ?_
        refine Gx.seq ?_
        refine Gx.block ?_
        refine Gx.regionO (fun j => j == 15) 17 [0, 1, 2, 3, 4, 5, 6, 7, 8, 9, 10, 11, 12, 13, 14, 15, 16] (fun us => match us with | [] => [Hp.own FU 1 v M, R] | u1 :: _ => [Hp.own FU 1 v (M.set (j + 1) x), R]) Try.mixed (by kernel_rfl) rfl ?_
        refine Gw.val rfl rfl rfl rfl rfl (fun us => val_move rfl rfl) ?_
        refine Gw.val rfl rfl rfl rfl rfl (fun us => val_move rfl rfl) ?_
        refine Gw.val rfl rfl rfl rfl rfl (fun us => val_move rfl rfl) ?_
        refine Gw.val rfl rfl rfl rfl rfl (fun us => val_move rfl rfl) ?_
        refine Gw.val rfl rfl rfl rfl rfl (fun us => val_sub rfl rfl rfl (r := ((j : Nat) : Int)) (w64 (by omega) (by omega))) ?_
        refine Gw.val rfl rfl rfl rfl rfl (fun us => val_move rfl rfl) ?_
        refine Gw.val rfl rfl rfl rfl rfl (fun us => val_move rfl rfl) ?_
        refine Gw.val rfl rfl rfl rfl rfl (fun us => val_sub rfl rfl rfl (r := ((j : Nat) : Int)) (w64 (by omega) (by omega))) ?_
        refine Gw.val0 rfl rfl rfl (by kernel_rfl) rfl rfl (val_ixa rfl Try.underlying22 Try.ty28 rfl rfl (j := j) (rfl) (reach_own (k := 0) rfl hx)) ?_
        refine Gw.val0 rfl rfl rfl (by kernel_rfl) rfl rfl (val_load rfl Try.ty28 rfl rfl (cell_own (i := 0) (k := 0) rfl hx rfl)) ?_
        refine Gw.val rfl rfl rfl rfl rfl (fun us => val_move rfl rfl) ?_
        refine Gw.val rfl rfl rfl rfl rfl (fun us => val_move rfl rfl) ?_
        obtain ⟨x3, hx3⟩ := get_of_lt (xs := M.set (j + 1) x) (k := (j + 1)) (by first | omega | (simp; omega))
        refine Gw.val rfl rfl rfl rfl rfl (fun us => match us with | [] => val_ixa rfl Try.underlying22 Try.ty28 rfl rfl (j := (j + 1)) (rfl) (reach_own (k := 0) rfl hy) | u1 :: _ => val_ixa rfl Try.underlying22 Try.ty28 rfl rfl (j := (j + 1)) (rfl) (reach_own (k := 0) rfl hx3)) ?_
        refine Gw.val0 rfl rfl rfl (by kernel_rfl) rfl rfl (val_load rfl Try.ty28 rfl rfl (cell_own (i := 0) (sz := 1) (j := (j + 1)) (k := 0) rfl hy rfl)) ?_
        refine Gw.val0 rfl rfl rfl (by kernel_rfl) rfl rfl (val_ixa rfl Try.underlying22 Try.ty28 rfl rfl (j := (j + 1)) (rfl) (reach_own (k := 0) rfl hy)) ?_
        refine Gw.chg0 rfl rfl rfl rfl (Eff.mono (eff_storeElA x rfl Try.ty28 rfl rfl rfl FU_one (k := 0) rfl FU_len hy (l' := [Hp.own FU 1 v (M.set (j + 1) x), R]) rfl) (fun _ _ h => congrArg sep h)) (fun _ => ?_)
        obtain ⟨x4, hx4⟩ := get_of_lt (xs := M.set (j + 1) x) (k := j) (by first | omega | (simp; omega))
        refine Gw.val0 rfl rfl rfl (by kernel_rfl) rfl rfl (val_ixa rfl Try.underlying22 Try.ty28 rfl rfl (j := j) (rfl) (reach_own (k := 0) rfl hx4)) ?_
        refine Gw.done ?_
        refine Gx.norm (l' := [Hp.own FU 1 v (M.set (j + 1) x), R]) rfl ?_
        refine Gx.eff0 rfl rfl (eff_storeElA y rfl Try.ty28 rfl rfl rfl FU_one (k := 0) rfl FU_len hx4 (l' := [Hp.own FU 1 v ((M.set (j + 1) x).set j y), R]) rfl) ?_
        rintro _ _ rfl
        refine Gx.done ?_
        refine Gx.blkN ?_
        refine Gx.thenN ?_
        refine Gx.region ?_
        refine Gx.val rfl rfl rfl (val_move rfl rfl) ?_
        refine Gx.val rfl rfl rfl (val_sub rfl rfl rfl (r := ((j : Nat) : Int)) (w64 (by omega) (by omega))) ?_
        refine Gx.val rfl rfl rfl (val_assign rfl rfl) ?_
        refine Gx.done ?_
        refine Gx.thenN ?_
        exact Gx.round (j, (M.set (j + 1) x).set j y) ⟨by first | omega | (dsimp only; omega), by first | omega | (dsimp only; omega), Sh.swap hsh2 (by omega) (by omega) (by omega) (by omega) hy hx, hin.swap haj2 (by omega) hx hy (by omega)⟩ (by first | omega | (dsimp only; omega)) ((.cons rfl (.cons rfl (.cons rfl (.cons rfl (.cons rfl .nil)))))) rfl
      · refine Gx.exit ?_
        refine Gx.thenE ?_
        refine Gx.thenE ?_
        refine Gx.blkE ?_
        refine Gx.blkN ?_
        refine Gx.thenN ?_
        refine Gx.region ?_
        refine Gx.val rfl rfl rfl (val_move rfl rfl) ?_
        refine Gx.val rfl rfl rfl (val_add rfl rfl rfl (r := ((i + 1 : Nat) : Int)) (w64 (by omega) (by omega))) ?_
        refine Gx.val rfl rfl rfl (val_assign rfl rfl) ?_
        refine Gx.done ?_
        refine Gx.thenN ?_
        exact Gx.round (i + 1, M) ⟨by first | omega | (dsimp only; omega), by first | omega | (dsimp only; omega), hsh2, Ins.done hin (.inr ⟨by omega, x, y, hx, hy, by omega⟩)⟩ (by first | omega | (dsimp only; omega)) ((.cons rfl (.cons rfl (.cons rfl (.cons rfl .nil))))) rfl
  · refine Gx.exit ?_
    refine Gx.thenE ?_
    refine Gx.thenE ?_
    refine Gx.blkE ?_
    refine Gx.endN ?_
    refine Gx.ret0 Try.results41 ?_
    exact ⟨_, hsh, fun p q x y h0 h1 h2 => hs p q x y h0 h1 (by omega), rfl, sep1 _ _⟩

/-- a heap from place lo on -/
def Heap (L : List Nat) (f lo hi : Nat) : Prop := ∀ p c x y, lo ≤ p → (c = 2 * p + 1 ∨ c = 2 * p + 2) → c < hi → L[f + p]? = some x → L[f + c]? = some y → y ≤ x
/-- ..but for place r -/
structure HeapX (L : List Nat) (f lo hi r : Nat) : Prop where
  rest : ∀ p c x y, lo ≤ p → p ≠ r → (c = 2 * p + 1 ∨ c = 2 * p + 2) → c < hi → L[f + p]? = some x → L[f + c]? = some y → y ≤ x
  over : ∀ p c x y, lo ≤ p → (r = 2 * p + 1 ∨ r = 2 * p + 2) → (c = 2 * r + 1 ∨ c = 2 * r + 2) → c < hi → L[f + p]? = some x → L[f + c]? = some y → y ≤ x
section
variable {L : List Nat} {f lo hi r k xr yk : Nat}
theorem HeapX.start (h : Heap L f (lo + 1) hi) : HeapX L f lo hi lo := ⟨fun p c x y h0 h1 => h p c x y (by omega), fun p c x y h0 h1 => by omega⟩
theorem HeapX.end_ (h : HeapX L f lo hi r) (hr : hi ≤ 2 * r + 1) : Heap L f lo hi := fun p c x y h0 h1 h2 hx hy => by
  by_cases e : p = r
  · subst e; omega
  · exact h.rest p c x y h0 e h1 h2 hx hy
theorem HeapX.done (h : HeapX L f lo hi r) (hx : L[f + r]? = some xr) (hk : ∀ c y, (c = 2 * r + 1 ∨ c = 2 * r + 2) → c < hi → L[f + c]? = some y → y ≤ yk) (hle : yk ≤ xr) : Heap L f lo hi := fun p c x y h0 h1 h2 hp hc => by
  by_cases e : p = r
  · subst e
    rw [hx] at hp; cases hp
    exact Nat.le_trans (hk c y h1 h2 hc) hle
  · exact h.rest p c x y h0 e h1 h2 hp hc
theorem HeapX.down (h : HeapX L f lo hi r) (hlr : lo ≤ r) (hkr : k = 2 * r + 1 ∨ k = 2 * r + 2) (hkh : k < hi) (hx : L[f + r]? = some xr) (hy : L[f + k]? = some yk) (hk : ∀ c y, (c = 2 * r + 1 ∨ c = 2 * r + 2) → c < hi → L[f + c]? = some y → y ≤ yk) (hlt : xr ≤ yk) : HeapX ((L.set (f + r) yk).set (f + k) xr) f lo hi k := by
  refine ⟨fun p c x y h0 h1 h2 h3 hp hc => ?_, fun p c x y h0 h1 h2 h3 hp hc => ?_⟩
  · rw [swap_at hx hy] at hp hc
    rw [if_neg (by omega)] at hp
    by_cases e : p = r
    · subst e
      rw [if_pos rfl] at hp; cases hp
      split at hc
      · cases hc; exact hlt
      · rw [if_neg (by omega)] at hc
        exact hk c y h2 h3 hc
    · rw [if_neg (by omega)] at hp
      split at hc
      · exfalso; omega
      · split at hc
        · cases hc
          obtain rfl : c = r := by omega
          exact h.over p k x yk h0 h2 hkr hkh hp hy
        · exact h.rest p c x y h0 e h2 h3 hp hc
  · obtain rfl : p = r := by omega
    rw [swap_at hx hy] at hp hc
    rw [if_neg (by omega), if_pos rfl] at hp
    cases hp
    rw [if_neg (by omega), if_neg (by omega)] at hc
    exact h.rest k c yk y (by omega) (by omega) h2 h3 hy hc
theorem Heap.top (h : Heap L f 0 hi) {x : Nat} (hx : L[f]? = some x) : ∀ n c y, c ≤ n → c < hi → L[f + c]? = some y → y ≤ x
  | 0, c, y, h0, h1, hy => by
    obtain rfl : c = 0 := by omega
    rw [Nat.add_zero, hx] at hy; cases hy; exact Nat.le_refl _
  | n + 1, c, y, h0, h1, hy => by
    by_cases e : c = 0
    · subst e; rw [Nat.add_zero, hx] at hy; cases hy; exact Nat.le_refl _
    · obtain ⟨p, hp⟩ : ∃ p, c = 2 * p + 1 ∨ c = 2 * p + 2 := ⟨(c - 1) / 2, by omega⟩
      have hl := (List.getElem?_eq_some_iff.1 hy).1
      obtain ⟨z, hz⟩ := get_of_lt (xs := L) (k := f + p) (by omega)
      exact Nat.le_trans (h p c z y (Nat.zero_le _) hp h1 hz hy) (Heap.top h hx n p z (by omega) (by omega) hz)
end
/-- the heap's part, what is in order behind it, and each of the one at most each of the other -/
structure HS (L : List Nat) (a m b : Nat) : Prop where
  heap : Heap L a 0 m
  srt : Srt (a + m) b L
  le : ∀ p q x y, a ≤ p → p < a + m → a + m ≤ q → q < b → L[p]? = some x → L[q]? = some y → x ≤ y
theorem HS.next {L L2 : List Nat} {a m b x y : Nat} (h : HS L a (m + 1) b) (hx : L[a]? = some x) (hy : L[a + m]? = some y) (hb : a + m < b) (hs : Sh (a + 0) (a + m) ((L.set a y).set (a + m) x) L2) (hh : Heap L2 a 0 m) : HS L2 a m b := by
  have hat := swap_at hx hy
  have hm : L2[a + m]? = some x := by rw [hs.out (by omega), hat, if_pos rfl]
  have hr : ∀ q, a + m < q → L2[q]? = L[q]? := fun q hq => by rw [hs.out (by omega), hat, if_neg (by omega), if_neg (by omega)]
  refine ⟨hh, ?_, ?_⟩
  · intro p q u w h0 h1 h2 hp hq
    rw [hr q (by omega)] at hq
    by_cases e : p = a + m
    · subst e; rw [hm] at hp; cases hp
      exact h.le a q _ _ (Nat.le_refl _) (by omega) (by omega) h2 hx hq
    · rw [hr p (by omega)] at hp
      exact h.srt p q u w (by omega) h1 h2 hp hq
  · intro p q u w h0 h1 h2 h3 hp hq
    obtain ⟨j, j1, j2, j3⟩ := hs.inn (i := p) (by omega) h1
    rw [hp, hat, if_neg (by omega)] at j3
    have hu : ∃ i, i < m + 1 ∧ L[a + i]? = some u := by
      split at j3
      · exact ⟨m, by omega, by rw [hy]; exact j3.symm⟩
      · exact ⟨j - a, by omega, by rw [show a + (j - a) = j by omega]; exact j3.symm⟩
    obtain ⟨i, hi, hiu⟩ := hu
    by_cases e : q = a + m
    · subst e; rw [hm] at hq; cases hq
      exact h.heap.top hx (m + 1) i u (by omega) hi hiu
    · rw [hr q (by omega)] at hq
      exact h.le (a + i) q u w (by omega) (by omega) (by omega) h3 hiu hq
theorem Heap.swapped {L : List Nat} {a m x y : Nat} (h : Heap L a 0 (m + 1)) (hx : L[a]? = some x) (hy : L[a + m]? = some y) : Heap ((L.set a y).set (a + m) x) a (0 + 1) m := fun p c u w h0 h1 h2 hp hc => by
  rw [swap_at hx hy, if_neg (by omega), if_neg (by omega)] at hp hc
  exact h p c u w (Nat.zero_le _) h1 (by omega) hp hc
theorem sift_any {W w : World} {v : Value} {xs : List Nat} {R : Hp} {lo hi f : Nat} (hlo : lo ≤ 65000) (hb : f + hi ≤ xs.length) (hl : xs.length ≤ 65000) (hh : Heap xs f (lo + 1) hi) (H : Sat W w (Hp.own FU 1 v xs * R)) :
    Calls Try.prog 52 #[v, .int .i64 ((lo : Nat) : Int), .int .i64 ((hi : Nat) : Int), .int .i64 ((f : Nat) : Int)] w (Ret W fun u l => ∃ ys, Sh (f + lo) (f + hi) xs ys ∧ Heap ys f lo hi ∧ u = .tuple #[] ∧ sep l = Hp.own FU 1 v ys * R) := by
  refine Gx.enter (l := [Hp.own FU 1 v xs, R]) Try.func52 rfl Try.ntmps52 rfl (H.frame1) ?_
  refine Gx.know (m' := [(0, v), (1, .int .i64 ((lo : Nat) : Int)), (2, .int .i64 ((hi : Nat) : Int)), (3, .int .i64 ((f : Nat) : Int))]) (.cons rfl (.cons rfl (.cons rfl (.cons rfl .nil)))) ?_
  refine Gx.seq ?_
  refine Gx.region ?_
  refine Gx.val rfl rfl rfl (val_move rfl rfl) ?_
  refine Gx.val rfl rfl rfl (val_assign rfl rfl) ?_
  refine Gx.done ?_
  refine Gx.thenN ?_
  refine Gx.block ?_
  refine Gx.loop (ι := Nat × (List Nat)) (fun ξ => (lo ≤ ξ.1) ∧ (ξ.1 < hi ∨ ξ.1 = lo) ∧ (Sh (f + lo) (f + hi) xs ξ.2) ∧ (HeapX ξ.2 f lo hi ξ.1)) (fun ξ => [(0, v), (1, .int .i64 ((lo : Nat) : Int)), (2, .int .i64 ((hi : Nat) : Int)), (3, .int .i64 ((f : Nat) : Int)), (8, .int .i64 ((ξ.1 : Nat) : Int))]) (fun ξ => [Hp.own FU 1 v ξ.2, R]) (fun ξ => hi - ξ.1) (lo, xs) ⟨by first | omega | (dsimp only; omega), by first | omega | (dsimp only; omega), Sh.refl _, HeapX.start hh⟩ ((.cons rfl (.cons rfl (.cons rfl (.cons rfl (.cons rfl .nil)))))) rfl ?_
  rintro ⟨r, L⟩ ⟨hlr, hrb, hsh, hx0⟩
  dsimp only at hlr hrb hsh hx0
  refine Gx.know (m' := [(0, v), (1, .int .i64 ((lo : Nat) : Int)), (2, .int .i64 ((hi : Nat) : Int)), (3, .int .i64 ((f : Nat) : Int)), (8, .int .i64 ((r : Nat) : Int))]) (.cons rfl (.cons rfl (.cons rfl (.cons rfl (.cons rfl .nil))))) (Gx.norm (l' := [Hp.own FU 1 v L, R]) rfl ?_)
  refine Gx.block ?_
  refine Gx.seq ?_
  refine Gx.region ?_
  refine Gx.val rfl rfl rfl (val_move rfl rfl) ?_
  refine Gx.val rfl rfl rfl (val_mul rfl rfl rfl (r := ((2 * r : Nat) : Int)) (w64 (by omega) (by omega))) ?_
  refine Gx.val rfl rfl rfl (val_add rfl rfl rfl (r := ((2 * r + 1 : Nat) : Int)) (w64 (by omega) (by omega))) ?_
  refine Gx.val rfl rfl rfl (val_assign rfl rfl) ?_
  refine Gx.done ?_
  refine Gx.thenN ?_
  refine Gx.seq ?_
  refine Gx.seq ?_
  refine Gx.region ?_
  refine Gx.val rfl rfl rfl (val_move rfl rfl) ?_
  refine Gx.val rfl rfl rfl (val_move rfl rfl) ?_
  refine Gx.val rfl rfl rfl (val_geq rfl rfl rfl) ?_
  refine Gx.done ?_
  refine Gx.thenN ?_
  refine Gx.dec rfl (fun h1 => ?_) (fun h1 => ?_)
  · refine Gx.exit ?_
    refine Gx.thenE ?_
    refine Gx.blkO rfl ?_
    refine Gx.thenE ?_
    refine Gx.blkE ?_
    refine Gx.endN ?_
    refine Gx.ret0 Try.results52 ?_
    exact ⟨_, hsh, hx0.end_ (by omega), rfl, sep1 _ _⟩
  · refine Gx.skip ?_
    refine Gx.thenN ?_
    refine Gx.seq ?_
    refine Gx.seq ?_
    have hL := hsh.len
    obtain ⟨x, hx⟩ := get_of_lt (xs := L) (k := f + r) (by omega)
    obtain ⟨y1, hy1⟩ := get_of_lt (xs := L) (k := f + (2 * r + 1)) (by omega)
    refine Gx.regionQ Try.mixed (by kernel_rfl) ?_
    refine Gq.val rfl rfl rfl (val_move rfl rfl) ?_
    refine Gq.val rfl rfl rfl (val_add rfl rfl rfl (r := ((2 * r + 2 : Nat) : Int)) (w64 (by omega) (by omega))) ?_
    refine Gq.val rfl rfl rfl (val_move rfl rfl) ?_
    refine Gq.val rfl rfl rfl (val_lss rfl rfl rfl) ?_
    refine Gq.val rfl rfl rfl (val_move rfl rfl) ?_
    refine Gq.cases (t := 21) rfl (fun h2 => ?_) (fun h2 => ?_)
    · obtain ⟨y2, hy2⟩ := get_of_lt (xs := L) (k := f + (2 * r + 1) + 1) (by omega)
      refine Gq.valg rfl rfl rfl rfl rfl (val_move rfl rfl) ?_
      refine Gq.valg rfl rfl rfl rfl rfl (val_move rfl rfl) ?_
      refine Gq.valg rfl rfl rfl rfl rfl (val_move rfl rfl) ?_
      refine Gq.valg rfl rfl rfl rfl rfl (val_add rfl rfl rfl (r := ((f + (2 * r + 1) : Nat) : Int)) (w64 (by omega) (by omega))) ?_
      refine Gq.valg rfl rfl rfl rfl rfl (val_ixa rfl Try.underlying22 Try.ty28 rfl rfl (j := f + (2 * r + 1)) (rfl) (reach_own (k := 0) rfl hy1)) ?_
      refine Gq.valg rfl rfl rfl rfl rfl (val_load rfl Try.ty28 rfl rfl (cell_own (i := 0) (sz := 1) (j := f + (2 * r + 1)) (k := 0) rfl hy1 rfl)) ?_
      refine Gq.valg rfl rfl rfl rfl rfl (val_move rfl rfl) ?_
      refine Gq.valg rfl rfl rfl rfl rfl (val_move rfl rfl) ?_
      refine Gq.valg rfl rfl rfl rfl rfl (val_move rfl rfl) ?_
      refine Gq.valg rfl rfl rfl rfl rfl (val_add rfl rfl rfl (r := ((f + (2 * r + 1) : Nat) : Int)) (w64 (by omega) (by omega))) ?_
      refine Gq.valg rfl rfl rfl rfl rfl (val_add rfl rfl rfl (r := ((f + (2 * r + 1) + 1 : Nat) : Int)) (w64 (by omega) (by omega))) ?_
      refine Gq.valg rfl rfl rfl rfl rfl (val_ixa rfl Try.underlying22 Try.ty28 rfl rfl (j := f + (2 * r + 1) + 1) (rfl) (reach_own (k := 0) rfl hy2)) ?_
      refine Gq.valg rfl rfl rfl rfl rfl (val_load rfl Try.ty28 rfl rfl (cell_own (i := 0) (sz := 1) (j := f + (2 * r + 1) + 1) (k := 0) rfl hy2 rfl)) ?_
      refine Gq.valg rfl rfl rfl rfl rfl (val_call (vs := [.int .u32 ((y1 : Nat) : Int), .int .u32 ((y2 : Nat) : Int)]) rfl Try.fn47 rfl (fun w H => less_any y1 y2)) ?_
      refine Gq.val rfl rfl rfl (val_pickT rfl rfl rfl) ?_
      refine Gq.done ?_
      refine Gx.thenN ?_
      refine Gx.dec rfl (fun h3 => ?_) (fun h3 => ?_)
      · refine Gx.region ?_
        refine Gx.val rfl rfl rfl (val_move rfl rfl) ?_
        refine Gx.val rfl rfl rfl (val_add rfl rfl rfl (r := ((2 * r + 2 : Nat) : Int)) (w64 (by omega) (by omega))) ?_
        refine Gx.val rfl rfl rfl (val_assign rfl rfl) ?_
        refine Gx.done ?_
        refine Gx.thenN ?_
        refine Gx.seq ?_
        refine Gx.seq ?_
        have hyk : L[f + (2 * r + 2)]? = some y2 := hy2
        have hk : ∀ c y, (c = 2 * r + 1 ∨ c = 2 * r + 2) → c < hi → L[f + c]? = some y → y ≤ y2 := by
          intro c y hc hlt hy
          rcases hc with rfl | rfl
          · rw [hy1] at hy; cases hy; omega
          · have hy2' : L[f + (2 * r + 2)]? = some y2 := hy2
            rw [hy2'] at hy; cases hy; omega
        refine Gx.regionQ Try.mixed (by kernel_rfl) ?_
        refine Gq.val rfl rfl rfl (val_move rfl rfl) ?_
        refine Gq.val rfl rfl rfl (val_move rfl rfl) ?_
        refine Gq.val rfl rfl rfl (val_move rfl rfl) ?_
        refine Gq.val rfl rfl rfl (val_add rfl rfl rfl (r := ((f + r : Nat) : Int)) (w64 (by omega) (by omega))) ?_
        refine Gq.val rfl rfl rfl (val_ixa rfl Try.underlying22 Try.ty28 rfl rfl (j := f + r) (rfl) (reach_own (k := 0) rfl hx)) ?_
        refine Gq.val rfl rfl rfl (val_load rfl Try.ty28 rfl rfl (cell_own (i := 0) (sz := 1) (j := f + r) (k := 0) rfl hx rfl)) ?_
        refine Gq.val rfl rfl rfl (val_move rfl rfl) ?_
        refine Gq.val rfl rfl rfl (val_move rfl rfl) ?_
        refine Gq.val rfl rfl rfl (val_move rfl rfl) ?_
        refine Gq.val rfl rfl rfl (val_add rfl rfl rfl (r := ((f + (2 * r + 2) : Nat) : Int)) (w64 (by omega) (by omega))) ?_
        refine Gq.val rfl rfl rfl (val_ixa rfl Try.underlying22 Try.ty28 rfl rfl (j := f + (2 * r + 2)) (rfl) (reach_own (k := 0) rfl hyk)) ?_
        refine Gq.val rfl rfl rfl (val_load rfl Try.ty28 rfl rfl (cell_own (i := 0) (sz := 1) (j := f + (2 * r + 2)) (k := 0) rfl hyk rfl)) ?_
        refine Gq.val rfl rfl rfl (val_call (vs := [.int .u32 ((x : Nat) : Int), .int .u32 ((y2 : Nat) : Int)]) rfl Try.fn47 rfl (fun w H => less_any x y2)) ?_
        refine Gq.val rfl rfl rfl (val_notD rfl rfl) ?_
        refine Gq.done ?_
        refine Gx.thenN ?_
        refine Gx.dec rfl (fun h4 => ?_) (fun h4 => ?_)
        · refine Gx.ret ?_
          refine Gx.thenR ?_
          refine Gx.blkR ?_
          refine Gx.thenR ?_
          refine Gx.blkR ?_
          refine Gx.ret0 Try.results52 ?_
          exact ⟨_, hsh, hx0.done hx hk (by omega), rfl, sep1 _ _⟩
        · refine Gx.skip ?_
          refine Gx.thenN ?_
          refine Gx.seq ?_
          refine Gx.regionO (fun j => j == 21) 23 [0, 1, 2, 3, 4, 5, 6, 7, 8, 9, 10, 11, 12, 13, 14, 15, 16, 17, 18, 19, 20, 21, 22] (fun us => match us with | [] => [Hp.own FU 1 v L, R] | u1 :: _ => [Hp.own FU 1 v (L.set (f + r) y2), R]) Try.mixed (by kernel_rfl) rfl ?_
          refine Gw.val rfl rfl rfl rfl rfl (fun us => val_move rfl rfl) ?_
          refine Gw.val rfl rfl rfl rfl rfl (fun us => val_move rfl rfl) ?_
          refine Gw.val rfl rfl rfl rfl rfl (fun us => val_move rfl rfl) ?_
          refine Gw.val rfl rfl rfl rfl rfl (fun us => val_add rfl rfl rfl (r := ((f + r : Nat) : Int)) (w64 (by omega) (by omega))) ?_
          refine Gw.val rfl rfl rfl rfl rfl (fun us => val_move rfl rfl) ?_
          refine Gw.val rfl rfl rfl rfl rfl (fun us => val_move rfl rfl) ?_
          refine Gw.val rfl rfl rfl rfl rfl (fun us => val_move rfl rfl) ?_
          refine Gw.val rfl rfl rfl rfl rfl (fun us => val_add rfl rfl rfl (r := ((f + (2 * r + 2) : Nat) : Int)) (w64 (by omega) (by omega))) ?_
          refine Gw.val rfl rfl rfl rfl rfl (fun us => val_move rfl rfl) ?_
          refine Gw.val rfl rfl rfl rfl rfl (fun us => val_move rfl rfl) ?_
          refine Gw.val rfl rfl rfl rfl rfl (fun us => val_move rfl rfl) ?_
          refine Gw.val rfl rfl rfl rfl rfl (fun us => val_add rfl rfl rfl (r := ((f + (2 * r + 2) : Nat) : Int)) (w64 (by omega) (by omega))) ?_
          refine Gw.val0 rfl rfl rfl (by kernel_rfl) rfl rfl (val_ixa rfl Try.underlying22 Try.ty28 rfl rfl (j := f + (2 * r + 2)) (rfl) (reach_own (k := 0) rfl hyk)) ?_
          refine Gw.val0 rfl rfl rfl (by kernel_rfl) rfl rfl (val_load rfl Try.ty28 rfl rfl (cell_own (i := 0) (sz := 1) (j := f + (2 * r + 2)) (k := 0) rfl hyk rfl)) ?_
          refine Gw.val rfl rfl rfl rfl rfl (fun us => val_move rfl rfl) ?_
          refine Gw.val rfl rfl rfl rfl rfl (fun us => val_move rfl rfl) ?_
          refine Gw.val rfl rfl rfl rfl rfl (fun us => val_move rfl rfl) ?_
          refine Gw.val rfl rfl rfl rfl rfl (fun us => val_add rfl rfl rfl (r := ((f + r : Nat) : Int)) (w64 (by omega) (by omega))) ?_
          obtain ⟨x5, hx5⟩ := get_of_lt (xs := L.set (f + r) y2) (k := f + r) (by first | omega | (simp; omega))
          refine Gw.val rfl rfl rfl rfl rfl (fun us => match us with | [] => val_ixa rfl Try.underlying22 Try.ty28 rfl rfl (j := f + r) (rfl) (reach_own (k := 0) rfl hx) | u1 :: _ => val_ixa rfl Try.underlying22 Try.ty28 rfl rfl (j := f + r) (rfl) (reach_own (k := 0) rfl hx5)) ?_
          refine Gw.val0 rfl rfl rfl (by kernel_rfl) rfl rfl (val_load rfl Try.ty28 rfl rfl (cell_own (i := 0) (sz := 1) (j := f + r) (k := 0) rfl hx rfl)) ?_
          refine Gw.val0 rfl rfl rfl (by kernel_rfl) rfl rfl (val_ixa rfl Try.underlying22 Try.ty28 rfl rfl (j := f + r) (rfl) (reach_own (k := 0) rfl hx)) ?_
          refine Gw.chg0 rfl rfl rfl rfl (Eff.mono (eff_storeElA y2 rfl Try.ty28 rfl rfl rfl FU_one (k := 0) rfl FU_len hx (l' := [Hp.own FU 1 v (L.set (f + r) y2), R]) rfl) (fun _ _ h => congrArg sep h)) (fun _ => ?_)
          obtain ⟨x6, hx6⟩ := get_of_lt (xs := L.set (f + r) y2) (k := f + (2 * r + 2)) (by first | omega | (simp; omega))
          refine Gw.val0 rfl rfl rfl (by kernel_rfl) rfl rfl (val_ixa rfl Try.underlying22 Try.ty28 rfl rfl (j := f + (2 * r + 2)) (rfl) (reach_own (k := 0) rfl hx6)) ?_
          refine Gw.done ?_
          refine Gx.norm (l' := [Hp.own FU 1 v (L.set (f + r) y2), R]) rfl ?_
          refine Gx.eff0 rfl rfl (eff_storeElA x rfl Try.ty28 rfl rfl rfl FU_one (k := 0) rfl FU_len hx6 (l' := [Hp.own FU 1 v ((L.set (f + r) y2).set (f + (2 * r + 2)) x), R]) rfl) ?_
          rintro _ _ rfl
          refine Gx.done ?_
          refine Gx.thenN ?_
          refine Gx.region ?_
          refine Gx.val rfl rfl rfl (val_move rfl rfl) ?_
          refine Gx.val rfl rfl rfl (val_assign rfl rfl) ?_
          refine Gx.done ?_
          refine Gx.blkN ?_
          refine Gx.thenN ?_
          exact Gx.round (2 * r + 2, (L.set (f + r) y2).set (f + (2 * r + 2)) x) ⟨by first | omega | (dsimp only; omega), by first | omega | (dsimp only; omega), Sh.swap hsh (by omega) (by omega) (by omega) (by omega) hx hyk, hx0.down hlr (by omega) (by omega) hx hyk hk (by omega)⟩ (by first | omega | (dsimp only; omega)) ((.cons rfl (.cons rfl (.cons rfl (.cons rfl (.cons rfl .nil)))))) rfl
      · refine Gx.skip ?_
        refine Gx.thenN ?_
        refine Gx.seq ?_
        refine Gx.seq ?_
        have hyk : L[f + (2 * r + 1)]? = some y1 := hy1
        have hk : ∀ c y, (c = 2 * r + 1 ∨ c = 2 * r + 2) → c < hi → L[f + c]? = some y → y ≤ y1 := by
          intro c y hc hlt hy
          rcases hc with rfl | rfl
          · rw [hy1] at hy; cases hy; omega
          · have hy2' : L[f + (2 * r + 2)]? = some y2 := hy2
            rw [hy2'] at hy; cases hy; omega
        refine Gx.regionQ Try.mixed (by kernel_rfl) ?_
        refine Gq.val rfl rfl rfl (val_move rfl rfl) ?_
        refine Gq.val rfl rfl rfl (val_move rfl rfl) ?_
        refine Gq.val rfl rfl rfl (val_move rfl rfl) ?_
        refine Gq.val rfl rfl rfl (val_add rfl rfl rfl (r := ((f + r : Nat) : Int)) (w64 (by omega) (by omega))) ?_
        refine Gq.val rfl rfl rfl (val_ixa rfl Try.underlying22 Try.ty28 rfl rfl (j := f + r) (rfl) (reach_own (k := 0) rfl hx)) ?_
        refine Gq.val rfl rfl rfl (val_load rfl Try.ty28 rfl rfl (cell_own (i := 0) (sz := 1) (j := f + r) (k := 0) rfl hx rfl)) ?_
        refine Gq.val rfl rfl rfl (val_move rfl rfl) ?_
        refine Gq.val rfl rfl rfl (val_move rfl rfl) ?_
        refine Gq.val rfl rfl rfl (val_move rfl rfl) ?_
        refine Gq.val rfl rfl rfl (val_add rfl rfl rfl (r := ((f + (2 * r + 1) : Nat) : Int)) (w64 (by omega) (by omega))) ?_
        refine Gq.val rfl rfl rfl (val_ixa rfl Try.underlying22 Try.ty28 rfl rfl (j := f + (2 * r + 1)) (rfl) (reach_own (k := 0) rfl hyk)) ?_
        refine Gq.val rfl rfl rfl (val_load rfl Try.ty28 rfl rfl (cell_own (i := 0) (sz := 1) (j := f + (2 * r + 1)) (k := 0) rfl hyk rfl)) ?_
        refine Gq.val rfl rfl rfl (val_call (vs := [.int .u32 ((x : Nat) : Int), .int .u32 ((y1 : Nat) : Int)]) rfl Try.fn47 rfl (fun w H => less_any x y1)) ?_
        refine Gq.val rfl rfl rfl (val_notD rfl rfl) ?_
        refine Gq.done ?_
        refine Gx.thenN ?_
        refine Gx.dec rfl (fun h7 => ?_) (fun h7 => ?_)
        · refine Gx.ret ?_
          refine Gx.thenR ?_
          refine Gx.blkR ?_
          refine Gx.thenR ?_
          refine Gx.blkR ?_
          refine Gx.ret0 Try.results52 ?_
          exact ⟨_, hsh, hx0.done hx hk (by omega), rfl, sep1 _ _⟩
        · refine Gx.skip ?_
          refine Gx.thenN ?_
          refine Gx.seq ?_
          refine Gx.regionO (fun j => j == 21) 23 [0, 1, 2, 3, 4, 5, 6, 7, 8, 9, 10, 11, 12, 13, 14, 15, 16, 17, 18, 19, 20, 21, 22] (fun us => match us with | [] => [Hp.own FU 1 v L, R] | u1 :: _ => [Hp.own FU 1 v (L.set (f + r) y1), R]) Try.mixed (by kernel_rfl) rfl ?_
          refine Gw.val rfl rfl rfl rfl rfl (fun us => val_move rfl rfl) ?_
          refine Gw.val rfl rfl rfl rfl rfl (fun us => val_move rfl rfl) ?_
          refine Gw.val rfl rfl rfl rfl rfl (fun us => val_move rfl rfl) ?_
          refine Gw.val rfl rfl rfl rfl rfl (fun us => val_add rfl rfl rfl (r := ((f + r : Nat) : Int)) (w64 (by omega) (by omega))) ?_
          refine Gw.val rfl rfl rfl rfl rfl (fun us => val_move rfl rfl) ?_
          refine Gw.val rfl rfl rfl rfl rfl (fun us => val_move rfl rfl) ?_
          refine Gw.val rfl rfl rfl rfl rfl (fun us => val_move rfl rfl) ?_
          refine Gw.val rfl rfl rfl rfl rfl (fun us => val_add rfl rfl rfl (r := ((f + (2 * r + 1) : Nat) : Int)) (w64 (by omega) (by omega))) ?_
          refine Gw.val rfl rfl rfl rfl rfl (fun us => val_move rfl rfl) ?_
          refine Gw.val rfl rfl rfl rfl rfl (fun us => val_move rfl rfl) ?_
          refine Gw.val rfl rfl rfl rfl rfl (fun us => val_move rfl rfl) ?_
          refine Gw.val rfl rfl rfl rfl rfl (fun us => val_add rfl rfl rfl (r := ((f + (2 * r + 1) : Nat) : Int)) (w64 (by omega) (by omega))) ?_
          refine Gw.val0 rfl rfl rfl (by kernel_rfl) rfl rfl (val_ixa rfl Try.underlying22 Try.ty28 rfl rfl (j := f + (2 * r + 1)) (rfl) (reach_own (k := 0) rfl hyk)) ?_
          refine Gw.val0 rfl rfl rfl (by kernel_rfl) rfl rfl (val_load rfl Try.ty28 rfl rfl (cell_own (i := 0) (sz := 1) (j := f + (2 * r + 1)) (k := 0) rfl hyk rfl)) ?_
          refine Gw.val rfl rfl rfl rfl rfl (fun us => val_move rfl rfl) ?_
          refine Gw.val rfl rfl rfl rfl rfl (fun us => val_move rfl rfl) ?_
          refine Gw.val rfl rfl rfl rfl rfl (fun us => val_move rfl rfl) ?_
          refine Gw.val rfl rfl rfl rfl rfl (fun us => val_add rfl rfl rfl (r := ((f + r : Nat) : Int)) (w64 (by omega) (by omega))) ?_
          obtain ⟨x8, hx8⟩ := get_of_lt (xs := L.set (f + r) y1) (k := f + r) (by first | omega | (simp; omega))
          refine Gw.val rfl rfl rfl rfl rfl (fun us => match us with | [] => val_ixa rfl Try.underlying22 Try.ty28 rfl rfl (j := f + r) (rfl) (reach_own (k := 0) rfl hx) | u1 :: _ => val_ixa rfl Try.underlying22 Try.ty28 rfl rfl (j := f + r) (rfl) (reach_own (k := 0) rfl hx8)) ?_
          refine Gw.val0 rfl rfl rfl (by kernel_rfl) rfl rfl (val_load rfl Try.ty28 rfl rfl (cell_own (i := 0) (sz := 1) (j := f + r) (k := 0) rfl hx rfl)) ?_
          refine Gw.val0 rfl rfl rfl (by kernel_rfl) rfl rfl (val_ixa rfl Try.underlying22 Try.ty28 rfl rfl (j := f + r) (rfl) (reach_own (k := 0) rfl hx)) ?_
          refine Gw.chg0 rfl rfl rfl rfl (Eff.mono (eff_storeElA y1 rfl Try.ty28 rfl rfl rfl FU_one (k := 0) rfl FU_len hx (l' := [Hp.own FU 1 v (L.set (f + r) y1), R]) rfl) (fun _ _ h => congrArg sep h)) (fun _ => ?_)
          obtain ⟨x9, hx9⟩ := get_of_lt (xs := L.set (f + r) y1) (k := f + (2 * r + 1)) (by first | omega | (simp; omega))
          refine Gw.val0 rfl rfl rfl (by kernel_rfl) rfl rfl (val_ixa rfl Try.underlying22 Try.ty28 rfl rfl (j := f + (2 * r + 1)) (rfl) (reach_own (k := 0) rfl hx9)) ?_
          refine Gw.done ?_
          refine Gx.norm (l' := [Hp.own FU 1 v (L.set (f + r) y1), R]) rfl ?_
          refine Gx.eff0 rfl rfl (eff_storeElA x rfl Try.ty28 rfl rfl rfl FU_one (k := 0) rfl FU_len hx9 (l' := [Hp.own FU 1 v ((L.set (f + r) y1).set (f + (2 * r + 1)) x), R]) rfl) ?_
          rintro _ _ rfl
          refine Gx.done ?_
          refine Gx.thenN ?_
          refine Gx.region ?_
          refine Gx.val rfl rfl rfl (val_move rfl rfl) ?_
          refine Gx.val rfl rfl rfl (val_assign rfl rfl) ?_
          refine Gx.done ?_
          refine Gx.blkN ?_
          refine Gx.thenN ?_
          exact Gx.round (2 * r + 1, (L.set (f + r) y1).set (f + (2 * r + 1)) x) ⟨by first | omega | (dsimp only; omega), by first | omega | (dsimp only; omega), Sh.swap hsh (by omega) (by omega) (by omega) (by omega) hx hyk, hx0.down hlr (by omega) (by omega) hx hyk hk (by omega)⟩ (by first | omega | (dsimp only; omega)) ((.cons rfl (.cons rfl (.cons rfl (.cons rfl (.cons rfl .nil)))))) rfl
    · refine Gq.skipg rfl rfl rfl rfl rfl rfl ?_
      refine Gq.skipg rfl rfl rfl rfl rfl rfl ?_
      refine Gq.skipg rfl rfl rfl rfl rfl rfl ?_
      refine Gq.skipg rfl rfl rfl rfl rfl rfl ?_
      refine Gq.skipg rfl rfl rfl rfl rfl rfl ?_
      refine Gq.skipg rfl rfl rfl rfl rfl rfl ?_
      refine Gq.skipg rfl rfl rfl rfl rfl rfl ?_
      refine Gq.skipg rfl rfl rfl rfl rfl rfl ?_
      refine Gq.skipg rfl rfl rfl rfl rfl rfl ?_
      refine Gq.skipg rfl rfl rfl rfl rfl rfl ?_
      refine Gq.skipg rfl rfl rfl rfl rfl rfl ?_
      refine Gq.skipg rfl rfl rfl rfl rfl rfl ?_
      refine Gq.skipg rfl rfl rfl rfl rfl rfl ?_
      refine Gq.skipg rfl rfl rfl rfl rfl rfl ?_
      refine Gq.val rfl rfl rfl (val_pickF rfl rfl rfl) ?_
      refine Gq.done ?_
      refine Gx.thenN ?_
      refine Gx.f rfl ?_
      refine Gx.skip ?_
      refine Gx.thenN ?_
      refine Gx.seq ?_
      refine Gx.seq ?_
      have hyk : L[f + (2 * r + 1)]? = some y1 := hy1
      have hk : ∀ c y, (c = 2 * r + 1 ∨ c = 2 * r + 2) → c < hi → L[f + c]? = some y → y ≤ y1 := by
        intro c y hc hlt hy
        rcases hc with rfl | rfl
        · rw [hy1] at hy; cases hy; omega
        · omega
      refine Gx.regionQ Try.mixed (by kernel_rfl) ?_
      refine Gq.val rfl rfl rfl (val_move rfl rfl) ?_
      refine Gq.val rfl rfl rfl (val_move rfl rfl) ?_
      refine Gq.val rfl rfl rfl (val_move rfl rfl) ?_
      refine Gq.val rfl rfl rfl (val_add rfl rfl rfl (r := ((f + r : Nat) : Int)) (w64 (by omega) (by omega))) ?_
      refine Gq.val rfl rfl rfl (val_ixa rfl Try.underlying22 Try.ty28 rfl rfl (j := f + r) (rfl) (reach_own (k := 0) rfl hx)) ?_
      refine Gq.val rfl rfl rfl (val_load rfl Try.ty28 rfl rfl (cell_own (i := 0) (sz := 1) (j := f + r) (k := 0) rfl hx rfl)) ?_
      refine Gq.val rfl rfl rfl (val_move rfl rfl) ?_
      refine Gq.val rfl rfl rfl (val_move rfl rfl) ?_
      refine Gq.val rfl rfl rfl (val_move rfl rfl) ?_
      refine Gq.val rfl rfl rfl (val_add rfl rfl rfl (r := ((f + (2 * r + 1) : Nat) : Int)) (w64 (by omega) (by omega))) ?_
      refine Gq.val rfl rfl rfl (val_ixa rfl Try.underlying22 Try.ty28 rfl rfl (j := f + (2 * r + 1)) (rfl) (reach_own (k := 0) rfl hyk)) ?_
      refine Gq.val rfl rfl rfl (val_load rfl Try.ty28 rfl rfl (cell_own (i := 0) (sz := 1) (j := f + (2 * r + 1)) (k := 0) rfl hyk rfl)) ?_
      refine Gq.val rfl rfl rfl (val_call (vs := [.int .u32 ((x : Nat) : Int), .int .u32 ((y1 : Nat) : Int)]) rfl Try.fn47 rfl (fun w H => less_any x y1)) ?_
      refine Gq.val rfl rfl rfl (val_notD rfl rfl) ?_
      refine Gq.done ?_
      refine Gx.thenN ?_
      refine Gx.dec rfl (fun h10 => ?_) (fun h10 => ?_)
      · refine Gx.ret ?_
        refine Gx.thenR ?_
        refine Gx.blkR ?_
        refine Gx.thenR ?_
        refine Gx.blkR ?_
        refine Gx.ret0 Try.results52 ?_
        exact ⟨_, hsh, hx0.done hx hk (by omega), rfl, sep1 _ _⟩
      · refine Gx.skip ?_
        refine Gx.thenN ?_
        refine Gx.seq ?_
        refine Gx.regionO (fun j => j == 21) 23 [0, 1, 2, 3, 4, 5, 6, 7, 8, 9, 10, 11, 12, 13, 14, 15, 16, 17, 18, 19, 20, 21, 22] (fun us => match us with | [] => [Hp.own FU 1 v L, R] | u1 :: _ => [Hp.own FU 1 v (L.set (f + r) y1), R]) Try.mixed (by kernel_rfl) rfl ?_
        refine Gw.val rfl rfl rfl rfl rfl (fun us => val_move rfl rfl) ?_
        refine Gw.val rfl rfl rfl rfl rfl (fun us => val_move rfl rfl) ?_
        refine Gw.val rfl rfl rfl rfl rfl (fun us => val_move rfl rfl) ?_
        refine Gw.val rfl rfl rfl rfl rfl (fun us => val_add rfl rfl rfl (r := ((f + r : Nat) : Int)) (w64 (by omega) (by omega))) ?_
        refine Gw.val rfl rfl rfl rfl rfl (fun us => val_move rfl rfl) ?_
        refine Gw.val rfl rfl rfl rfl rfl (fun us => val_move rfl rfl) ?_
        refine Gw.val rfl rfl rfl rfl rfl (fun us => val_move rfl rfl) ?_
        refine Gw.val rfl rfl rfl rfl rfl (fun us => val_add rfl rfl rfl (r := ((f + (2 * r + 1) : Nat) : Int)) (w64 (by omega) (by omega))) ?_
        refine Gw.val rfl rfl rfl rfl rfl (fun us => val_move rfl rfl) ?_
        refine Gw.val rfl rfl rfl rfl rfl (fun us => val_move rfl rfl) ?_
        refine Gw.val rfl rfl rfl rfl rfl (fun us => val_move rfl rfl) ?_
        refine Gw.val rfl rfl rfl rfl rfl (fun us => val_add rfl rfl rfl (r := ((f + (2 * r + 1) : Nat) : Int)) (w64 (by omega) (by omega))) ?_
        refine Gw.val0 rfl rfl rfl (by kernel_rfl) rfl rfl (val_ixa rfl Try.underlying22 Try.ty28 rfl rfl (j := f + (2 * r + 1)) (rfl) (reach_own (k := 0) rfl hyk)) ?_
        refine Gw.val0 rfl rfl rfl (by kernel_rfl) rfl rfl (val_load rfl Try.ty28 rfl rfl (cell_own (i := 0) (sz := 1) (j := f + (2 * r + 1)) (k := 0) rfl hyk rfl)) ?_
        refine Gw.val rfl rfl rfl rfl rfl (fun us => val_move rfl rfl) ?_
        refine Gw.val rfl rfl rfl rfl rfl (fun us => val_move rfl rfl) ?_
        refine Gw.val rfl rfl rfl rfl rfl (fun us => val_move rfl rfl) ?_
        refine Gw.val rfl rfl rfl rfl rfl (fun us => val_add rfl rfl rfl (r := ((f + r : Nat) : Int)) (w64 (by omega) (by omega))) ?_
        obtain ⟨x11, hx11⟩ := get_of_lt (xs := L.set (f + r) y1) (k := f + r) (by first | omega | (simp; omega))
        refine Gw.val rfl rfl rfl rfl rfl (fun us => match us with | [] => val_ixa rfl Try.underlying22 Try.ty28 rfl rfl (j := f + r) (rfl) (reach_own (k := 0) rfl hx) | u1 :: _ => val_ixa rfl Try.underlying22 Try.ty28 rfl rfl (j := f + r) (rfl) (reach_own (k := 0) rfl hx11)) ?_
        refine Gw.val0 rfl rfl rfl (by kernel_rfl) rfl rfl (val_load rfl Try.ty28 rfl rfl (cell_own (i := 0) (sz := 1) (j := f + r) (k := 0) rfl hx rfl)) ?_
        refine Gw.val0 rfl rfl rfl (by kernel_rfl) rfl rfl (val_ixa rfl Try.underlying22 Try.ty28 rfl rfl (j := f + r) (rfl) (reach_own (k := 0) rfl hx)) ?_
        refine Gw.chg0 rfl rfl rfl rfl (Eff.mono (eff_storeElA y1 rfl Try.ty28 rfl rfl rfl FU_one (k := 0) rfl FU_len hx (l' := [Hp.own FU 1 v (L.set (f + r) y1), R]) rfl) (fun _ _ h => congrArg sep h)) (fun _ => ?_)
        obtain ⟨x12, hx12⟩ := get_of_lt (xs := L.set (f + r) y1) (k := f + (2 * r + 1)) (by first | omega | (simp; omega))
        refine Gw.val0 rfl rfl rfl (by kernel_rfl) rfl rfl (val_ixa rfl Try.underlying22 Try.ty28 rfl rfl (j := f + (2 * r + 1)) (rfl) (reach_own (k := 0) rfl hx12)) ?_
        refine Gw.done ?_
        refine Gx.norm (l' := [Hp.own FU 1 v (L.set (f + r) y1), R]) rfl ?_
        refine Gx.eff0 rfl rfl (eff_storeElA x rfl Try.ty28 rfl rfl rfl FU_one (k := 0) rfl FU_len hx12 (l' := [Hp.own FU 1 v ((L.set (f + r) y1).set (f + (2 * r + 1)) x), R]) rfl) ?_
        rintro _ _ rfl
        refine Gx.done ?_
        refine Gx.thenN ?_
        refine Gx.region ?_
        refine Gx.val rfl rfl rfl (val_move rfl rfl) ?_
        refine Gx.val rfl rfl rfl (val_assign rfl rfl) ?_
        refine Gx.done ?_
        refine Gx.blkN ?_
        refine Gx.thenN ?_
        exact Gx.round (2 * r + 1, (L.set (f + r) y1).set (f + (2 * r + 1)) x) ⟨by first | omega | (dsimp only; omega), by first | omega | (dsimp only; omega), Sh.swap hsh (by omega) (by omega) (by omega) (by omega) hx hyk, hx0.down hlr (by omega) (by omega) hx hyk hk (by omega)⟩ (by first | omega | (dsimp only; omega)) ((.cons rfl (.cons rfl (.cons rfl (.cons rfl (.cons rfl .nil)))))) rfl

theorem Heap.mono_ {L : List Nat} {f lo lo' hi : Nat} (h0 : lo ≤ lo') (h : Heap L f lo hi) : Heap L f lo' hi := fun p c x y q => h p c x y (by omega)
theorem heap_any {W w : World} {v : Value} {xs : List Nat} {R : Hp} {a b : Nat} (hab : a < b) (hb : b ≤ xs.length) (hl : xs.length ≤ 65000) (H : Sat W w (Hp.own FU 1 v xs * R)) :
    Calls Try.prog 42 #[v, .int .i64 ((a : Nat) : Int), .int .i64 ((b : Nat) : Int)] w (Ret W fun u l => ∃ ys, Sh a b xs ys ∧ Srt a b ys ∧ u = .tuple #[] ∧ sep l = Hp.own FU 1 v ys * R) := by
  refine Gx.enter (l := [Hp.own FU 1 v xs, R]) Try.func42 rfl Try.ntmps42 rfl (H.frame1) ?_
  refine Gx.know (m' := [(0, v), (1, .int .i64 ((a : Nat) : Int)), (2, .int .i64 ((b : Nat) : Int))]) (.cons rfl (.cons rfl (.cons rfl .nil))) ?_
  refine Gx.seq ?_
  refine Gx.region ?_
  refine Gx.val rfl rfl rfl (val_move rfl rfl) ?_
  refine Gx.val rfl rfl rfl (val_assign rfl rfl) ?_
  refine Gx.done ?_
  refine Gx.thenN ?_
  refine Gx.seq ?_
  refine Gx.region ?_
  refine Gx.val rfl rfl rfl (val_assign rfl rfl) ?_
  refine Gx.done ?_
  refine Gx.thenN ?_
  refine Gx.seq ?_
  refine Gx.region ?_
  refine Gx.val rfl rfl rfl (val_move rfl rfl) ?_
  refine Gx.val rfl rfl rfl (val_move rfl rfl) ?_
  refine Gx.val rfl rfl rfl (val_sub rfl rfl rfl (r := ((b - a : Nat) : Int)) (w64 (by omega) (by omega))) ?_
  refine Gx.val rfl rfl rfl (val_assign rfl rfl) ?_
  refine Gx.done ?_
  refine Gx.thenN ?_
  refine Gx.seq ?_
  refine Gx.seq ?_
  refine Gx.region ?_
  refine Gx.val rfl rfl rfl (val_move rfl rfl) ?_
  refine Gx.val rfl rfl rfl (val_sub rfl rfl rfl (r := ((b - a - 1 : Nat) : Int)) (w64 (by omega) (by omega))) ?_
  refine Gx.val rfl rfl rfl (val_quo rfl rfl rfl (r := (((b - a - 1) / 2 : Nat) : Int)) (by omega) (q64 (a := b - a - 1) (m := 2) (by omega) rfl (by omega))) ?_
  refine Gx.val rfl rfl rfl (val_assign rfl rfl) ?_
  refine Gx.done ?_
  refine Gx.thenN ?_
  refine Gx.block ?_
  refine Gx.slot (t := 9) (v := .int .i64 ((((b - a - 1) / 2 + 1 : Nat) : Int) - 1)) (by rw [show ((((b - a - 1) / 2 + 1 : Nat) : Int) - 1) = (((b - a - 1) / 2 : Nat) : Int) from by omega]; rfl) ?_
  refine Gx.loop (ι := Nat × (List Nat)) (fun ξ => (ξ.1 ≤ (b - a - 1) / 2 + 1) ∧ (Sh a b xs ξ.2) ∧ (Heap ξ.2 a ξ.1 (b - a))) (fun ξ => [(0, v), (1, .int .i64 ((a : Nat) : Int)), (2, .int .i64 ((b : Nat) : Int)), (6, .int .i64 ((a : Nat) : Int)), (7, .int .i64 0), (8, .int .i64 ((b - a : Nat) : Int)), (9, .int .i64 (((ξ.1 : Nat) : Int) - 1))]) (fun ξ => [Hp.own FU 1 v ξ.2, R]) (fun ξ => ξ.1) ((b - a - 1) / 2 + 1, xs) ⟨by first | omega | (dsimp only; omega), Sh.refl _, fun p c x y h0 h1 h2 => by omega⟩ ((.cons rfl (.cons rfl (.cons rfl (.cons rfl (.cons rfl (.cons rfl (.cons rfl .nil)))))))) rfl ?_
  rintro ⟨k, L⟩ ⟨hk, hsh, hh⟩
  dsimp only at hk hsh hh
  refine Gx.know (m' := [(0, v), (1, .int .i64 ((a : Nat) : Int)), (2, .int .i64 ((b : Nat) : Int)), (6, .int .i64 ((a : Nat) : Int)), (7, .int .i64 0), (8, .int .i64 ((b - a : Nat) : Int)), (9, .int .i64 (((k : Nat) : Int) - 1))]) (.cons rfl (.cons rfl (.cons rfl (.cons rfl (.cons rfl (.cons rfl (.cons rfl .nil))))))) (Gx.norm (l' := [Hp.own FU 1 v L, R]) rfl ?_)
  refine Gx.seq ?_
  refine Gx.seq ?_
  refine Gx.region ?_
  refine Gx.val rfl rfl rfl (val_move rfl rfl) ?_
  refine Gx.val rfl rfl rfl (val_geq rfl rfl rfl) ?_
  refine Gx.done ?_
  refine Gx.thenN ?_
  refine Gx.dec rfl (fun h1 => ?_) (fun h1 => ?_)
  · refine Gx.skip ?_
    refine Gx.thenN ?_
    refine Gx.seq ?_
    refine Gx.block ?_
    obtain ⟨k, rfl⟩ : ∃ k', k = k' + 1 := ⟨k - 1, by omega⟩
    refine Gx.slot (t := 9) (v := .int .i64 ((k : Nat) : Int)) (by rw [show ((k : Nat) : Int) = (((k + 1 : Nat) : Int) - 1) from by omega]; rfl) ?_
    have hL := hsh.len
    refine Gx.region ?_
    refine Gx.val rfl rfl rfl (val_move rfl rfl) ?_
    refine Gx.val rfl rfl rfl (val_move rfl rfl) ?_
    refine Gx.val rfl rfl rfl (val_move rfl rfl) ?_
    refine Gx.val rfl rfl rfl (val_move rfl rfl) ?_
    refine Gx.eff rfl rfl rfl (eff_call (vs := [v, .int .i64 ((k : Nat) : Int), .int .i64 ((b - a : Nat) : Int), .int .i64 ((a : Nat) : Int)]) rfl Try.fn52 rfl (fun w H => sift_any (lo := k) (hi := b - a) (f := a) (by omega) (by omega) (by omega) (Heap.mono_ (by omega) hh) (H.at_ (k := 0) rfl))) ?_
    rintro _ l3 ⟨ys2, hsy, hhy, rfl, hl3⟩
    refine Gx.sepEq (l' := [Hp.own FU 1 v ys2, R]) hl3 ?_
    refine Gx.done ?_
    refine Gx.blkN ?_
    refine Gx.thenN ?_
    refine Gx.region ?_
    refine Gx.val rfl rfl rfl (val_move rfl rfl) ?_
    refine Gx.val rfl rfl rfl (val_sub rfl rfl rfl (r := (((k : Nat) : Int) - 1)) (w64 rfl (by omega))) ?_
    refine Gx.val rfl rfl rfl (val_assign rfl rfl) ?_
    refine Gx.done ?_
    refine Gx.thenN ?_
    exact Gx.round (k, ys2) ⟨by first | omega | (dsimp only; omega), hsh.trans (hsy.mono (by omega) (by omega)), hhy⟩ (by first | omega | (dsimp only; omega)) ((.cons rfl (.cons rfl (.cons rfl (.cons rfl (.cons rfl (.cons rfl (.cons rfl .nil)))))))) rfl
  · refine Gx.exit ?_
    refine Gx.thenE ?_
    refine Gx.thenE ?_
    refine Gx.blkE ?_
    refine Gx.thenN ?_
    refine Gx.seq ?_
    obtain rfl : k = 0 := by omega
    have HS0 : HS L a (b - a) b := ⟨hh, fun p q x y h0 h1 h2 => by omega, fun p q x y h0 h1 h2 h3 => by omega⟩
    refine Gx.region ?_
    refine Gx.val rfl rfl rfl (val_move rfl rfl) ?_
    refine Gx.val rfl rfl rfl (val_sub rfl rfl rfl (r := (((b - a : Nat) : Int) - 1)) (w64 rfl (by omega))) ?_
    refine Gx.val rfl rfl rfl (val_assign rfl rfl) ?_
    refine Gx.done ?_
    refine Gx.thenN ?_
    refine Gx.block ?_
    refine Gx.loop (ι := Nat × (List Nat)) (fun ξ => (ξ.1 ≤ b - a) ∧ (Sh a b xs ξ.2) ∧ (HS ξ.2 a ξ.1 b)) (fun ξ => [(0, v), (1, .int .i64 ((a : Nat) : Int)), (2, .int .i64 ((b : Nat) : Int)), (6, .int .i64 ((a : Nat) : Int)), (7, .int .i64 0), (8, .int .i64 ((b - a : Nat) : Int)), (10, .int .i64 (((ξ.1 : Nat) : Int) - 1))]) (fun ξ => [Hp.own FU 1 v ξ.2, R]) (fun ξ => ξ.1) (b - a, L) ⟨by first | omega | (dsimp only; omega), hsh, HS0⟩ ((.cons rfl (.cons rfl (.cons rfl (.cons rfl (.cons rfl (.cons rfl (.cons rfl .nil)))))))) rfl ?_
    rintro ⟨m, M⟩ ⟨hm, hsh2, HSh⟩
    dsimp only at hm hsh2 HSh
    refine Gx.know (m' := [(0, v), (1, .int .i64 ((a : Nat) : Int)), (2, .int .i64 ((b : Nat) : Int)), (6, .int .i64 ((a : Nat) : Int)), (7, .int .i64 0), (8, .int .i64 ((b - a : Nat) : Int)), (10, .int .i64 (((m : Nat) : Int) - 1))]) (.cons rfl (.cons rfl (.cons rfl (.cons rfl (.cons rfl (.cons rfl (.cons rfl .nil))))))) (Gx.norm (l' := [Hp.own FU 1 v M, R]) rfl ?_)
    refine Gx.seq ?_
    refine Gx.seq ?_
    refine Gx.region ?_
    refine Gx.val rfl rfl rfl (val_move rfl rfl) ?_
    refine Gx.val rfl rfl rfl (val_geq rfl rfl rfl) ?_
    refine Gx.done ?_
    refine Gx.thenN ?_
    refine Gx.dec rfl (fun h4 => ?_) (fun h4 => ?_)
    · refine Gx.skip ?_
      refine Gx.thenN ?_
      refine Gx.seq ?_
      refine Gx.block ?_
      refine Gx.seq ?_
      obtain ⟨m, rfl⟩ : ∃ m', m = m' + 1 := ⟨m - 1, by omega⟩
      refine Gx.slot (t := 10) (v := .int .i64 ((m : Nat) : Int)) (by rw [show ((m : Nat) : Int) = (((m + 1 : Nat) : Int) - 1) from by omega]; rfl) ?_
      have hM := hsh2.len
      obtain ⟨x, hx⟩ := get_of_lt (xs := M) (k := a) (by omega)
      obtain ⟨y, hy⟩ := get_of_lt (xs := M) (k := a + m) (by omega)
      refine Gx.regionO (fun j => j == 17) 19 [0, 1, 2, 3, 4, 5, 6, 7, 8, 9, 10, 11, 12, 13, 14, 15, 16, 17, 18] (fun us => match us with | [] => [Hp.own FU 1 v M, R] | u1 :: _ => [Hp.own FU 1 v (M.set a y), R]) Try.mixed (by kernel_rfl) rfl ?_
      refine Gw.val rfl rfl rfl rfl rfl (fun us => val_move rfl rfl) ?_
      refine Gw.val rfl rfl rfl rfl rfl (fun us => val_move rfl rfl) ?_
      refine Gw.val rfl rfl rfl rfl rfl (fun us => val_move rfl rfl) ?_
      refine Gw.val rfl rfl rfl rfl rfl (fun us => val_move rfl rfl) ?_
      refine Gw.val rfl rfl rfl rfl rfl (fun us => val_move rfl rfl) ?_
      refine Gw.val rfl rfl rfl rfl rfl (fun us => val_add rfl rfl rfl (r := ((a + m : Nat) : Int)) (w64 (by omega) (by omega))) ?_
      refine Gw.val rfl rfl rfl rfl rfl (fun us => val_move rfl rfl) ?_
      refine Gw.val rfl rfl rfl rfl rfl (fun us => val_move rfl rfl) ?_
      refine Gw.val rfl rfl rfl rfl rfl (fun us => val_move rfl rfl) ?_
      refine Gw.val rfl rfl rfl rfl rfl (fun us => val_add rfl rfl rfl (r := ((a + m : Nat) : Int)) (w64 (by omega) (by omega))) ?_
      refine Gw.val0 rfl rfl rfl (by kernel_rfl) rfl rfl (val_ixa rfl Try.underlying22 Try.ty28 rfl rfl (j := a + m) (rfl) (reach_own (k := 0) rfl hy)) ?_
      refine Gw.val0 rfl rfl rfl (by kernel_rfl) rfl rfl (val_load rfl Try.ty28 rfl rfl (cell_own (i := 0) (sz := 1) (j := a + m) (k := 0) rfl hy rfl)) ?_
      refine Gw.val rfl rfl rfl rfl rfl (fun us => val_move rfl rfl) ?_
      refine Gw.val rfl rfl rfl rfl rfl (fun us => val_move rfl rfl) ?_
      obtain ⟨x5, hx5⟩ := get_of_lt (xs := M.set a y) (k := a) (by first | omega | (simp; omega))
      refine Gw.val rfl rfl rfl rfl rfl (fun us => match us with | [] => val_ixa rfl Try.underlying22 Try.ty28 rfl rfl (j := a) (rfl) (reach_own (k := 0) rfl hx) | u1 :: _ => val_ixa rfl Try.underlying22 Try.ty28 rfl rfl (j := a) (rfl) (reach_own (k := 0) rfl hx5)) ?_
      refine Gw.val0 rfl rfl rfl (by kernel_rfl) rfl rfl (val_load rfl Try.ty28 rfl rfl (cell_own (i := 0) (k := 0) rfl hx rfl)) ?_
      refine Gw.val0 rfl rfl rfl (by kernel_rfl) rfl rfl (val_ixa rfl Try.underlying22 Try.ty28 rfl rfl (j := a) (rfl) (reach_own (k := 0) rfl hx)) ?_
      refine Gw.chg0 rfl rfl rfl rfl (Eff.mono (eff_storeElA y rfl Try.ty28 rfl rfl rfl FU_one (k := 0) rfl FU_len hx (l' := [Hp.own FU 1 v (M.set a y), R]) rfl) (fun _ _ h => congrArg sep h)) (fun _ => ?_)
      obtain ⟨x6, hx6⟩ := get_of_lt (xs := M.set a y) (k := a + m) (by first | omega | (simp; omega))
      refine Gw.val0 rfl rfl rfl (by kernel_rfl) rfl rfl (val_ixa rfl Try.underlying22 Try.ty28 rfl rfl (j := a + m) (rfl) (reach_own (k := 0) rfl hx6)) ?_
      refine Gw.done ?_
      refine Gx.norm (l' := [Hp.own FU 1 v (M.set a y), R]) rfl ?_
      refine Gx.eff0 rfl rfl (eff_storeElA x rfl Try.ty28 rfl rfl rfl FU_one (k := 0) rfl FU_len hx6 (l' := [Hp.own FU 1 v ((M.set a y).set (a + m) x), R]) rfl) ?_
      rintro _ _ rfl
      refine Gx.done ?_
      refine Gx.thenN ?_
      refine Gx.region ?_
      refine Gx.val rfl rfl rfl (val_move rfl rfl) ?_
      refine Gx.val rfl rfl rfl (val_move rfl rfl) ?_
      refine Gx.val rfl rfl rfl (val_move rfl rfl) ?_
      refine Gx.val rfl rfl rfl (val_move rfl rfl) ?_
      refine Gx.eff rfl rfl rfl (eff_call (vs := [v, .int .i64 0, .int .i64 ((m : Nat) : Int), .int .i64 ((a : Nat) : Int)]) rfl Try.fn52 rfl (fun w H => sift_any (lo := 0) (hi := m) (f := a) (by omega) (by rw [List.length_set, List.length_set]; omega) (by rw [List.length_set, List.length_set]; omega) (HSh.heap.swapped hx hy) (H.at_ (k := 0) rfl))) ?_
      rintro _ l8 ⟨ys7, hsy, hhy, rfl, hl8⟩
      refine Gx.sepEq (l' := [Hp.own FU 1 v ys7, R]) hl8 ?_
      refine Gx.done ?_
      refine Gx.blkN ?_
      refine Gx.thenN ?_
      refine Gx.region ?_
      refine Gx.val rfl rfl rfl (val_move rfl rfl) ?_
      refine Gx.val rfl rfl rfl (val_sub rfl rfl rfl (r := (((m : Nat) : Int) - 1)) (w64 rfl (by omega))) ?_
      refine Gx.val rfl rfl rfl (val_assign rfl rfl) ?_
      refine Gx.done ?_
      refine Gx.thenN ?_
      exact Gx.round (m, ys7) ⟨by first | omega | (dsimp only; omega), (Sh.swap hsh2 (by omega) (by omega) (by omega) (by omega) hx hy).trans (hsy.mono (by omega) (by omega)), HSh.next hx hy (by omega) hsy hhy⟩ (by first | omega | (dsimp only; omega)) ((.cons rfl (.cons rfl (.cons rfl (.cons rfl (.cons rfl (.cons rfl (.cons rfl .nil)))))))) rfl
    · refine Gx.exit ?_
      refine Gx.thenE ?_
      refine Gx.thenE ?_
      refine Gx.blkE ?_
      refine Gx.endN ?_
      obtain rfl : m = 0 := by omega
      refine Gx.ret0 Try.results42 ?_
      exact ⟨_, hsh2, HSh.srt, rfl, sep1 _ _⟩

end Go.Proofs.Ytpjkpnfelpfhaaa
