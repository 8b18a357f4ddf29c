/- The library's sort: a few steps by insertion. The walk. No condition. -/
import Derived.Test.YtfpkfbffpkjgbaaS27
namespace Go.Proofs.Ytfpkfbffpkjgbaa
open Go.RowKit
set_option linter.unusedVariables false
set_option linter.unusedSimpArgs false
set_option maxRecDepth 100000

theorem Srt.swap_ins {L : List Dk} {a i : Nat} {x y : Dk} (h : Srt a i L) (hx : L[i - 1]? = some x) (hy : L[i]? = some y) : Ins a (i - 1) (i - 1) ((L.set i x).set (i - 1) y) := fun p q u w h0 h1 h2 h3 hp hq => by
  rw [swap_at hy hx, if_neg (by omega), if_neg (by omega)] at hp hq
  exact h p q u w h0 h1 (by omega) hp hq
/-- what stands ahead of a is at most all of [a, b) -/
def Bel (a b : Nat) (xs : List Dk) : Prop := ∀ i x y, 0 < a → a ≤ i → i < b → xs[a - 1]? = some x → xs[i]? = some y → kK x ≤ kK y
theorem Bel.sh {a b : Nat} {xs ys : List Dk} (h : Bel a b xs) (hs : Sh a b xs ys) : Bel a b ys := fun i x y h0 h1 h2 hx hy => by
  rw [hs.out (.inl (by omega))] at hx
  obtain ⟨j, j1, j2, j3⟩ := hs.inn h1 h2
  exact h j x y h0 j1 j2 hx (by rw [← j3]; exact hy)
set_option maxHeartbeats 2000000 in
theorem pins_any {W w : World} {v : Value} {xs : List Dk} {R : Hp} {a b : Nat} (hab : a < b) (hb : b ≤ xs.length) (hl : xs.length ≤ 65000) (hbel : Bel a b xs) (H : Sat W w (Hp.own FK 3 v xs * R)) :
    Calls Try.prog 55 #[v, .int .i64 ((a : Nat) : Int), .int .i64 ((b : Nat) : Int), .func (.func 26) #[] #[]] w (Ret W fun u l => ∃ ys al, Sh a b xs ys ∧ (al = true → Srt a b ys) ∧ u = .bool al ∧ sep l = Hp.own FK 3 v ys * R) := by
  refine Gx.enter (l := [Hp.own FK 3 v xs, R]) Try.func55 rfl Try.ntmps55 rfl (H.frame1) ?_
  refine Gx.know (m' := [(0, v), (1, .int .i64 ((a : Nat) : Int)), (2, .int .i64 ((b : Nat) : Int)), (3, .func (.func 26) #[] #[])]) (.cons rfl (.cons rfl (.cons rfl (.cons rfl .nil)))) ?_
  refine Gx.seq ?_
  refine Gx.region ?_
  refine Gx.val rfl rfl rfl (val_assign rfl rfl) ?_
  refine Gx.done ?_
  refine Gx.thenN ?_
  refine Gx.seq ?_
  refine Gx.region ?_
  refine Gx.val rfl rfl rfl (val_move rfl rfl) ?_
  refine Gx.val rfl rfl rfl (val_add rfl rfl rfl (r := ((a + 1 : Nat) : Int)) (w64 (by omega) (by omega))) ?_
  refine Gx.val rfl rfl rfl (val_assign rfl rfl) ?_
  refine Gx.done ?_
  refine Gx.thenN ?_
  refine Gx.seq ?_
  refine Gx.seq ?_
  refine Gx.region ?_
  refine Gx.val rfl rfl rfl (val_assign rfl rfl) ?_
  refine Gx.done ?_
  refine Gx.thenN ?_
  refine Gx.block ?_
  refine Gx.loop (ι := Nat × Nat × (List Dk)) (fun ξ => (ξ.1 ≤ 5) ∧ (a + 1 ≤ ξ.2.1) ∧ (ξ.2.1 ≤ b) ∧ (Sh a b xs ξ.2.2) ∧ (Srt a ξ.2.1 ξ.2.2)) (fun ξ => [(0, v), (1, .int .i64 ((a : Nat) : Int)), (2, .int .i64 ((b : Nat) : Int)), (3, .func (.func 26) #[] #[]), (10, .int .i64 ((ξ.1 : Nat) : Int)), (9, .int .i64 ((ξ.2.1 : Nat) : Int))]) (fun ξ => [Hp.own FK 3 v ξ.2.2, R]) (fun ξ => 5 - ξ.1) (0, a + 1, xs) ⟨by first | omega | (dsimp only; omega), by first | omega | (dsimp only; omega), by first | omega | (dsimp only; omega), Sh.refl _, Srt.one _ _⟩ ((.cons rfl (.cons rfl (.cons rfl (.cons rfl (.cons rfl (.cons rfl .nil))))))) rfl ?_
  rintro ⟨jc, i, L⟩ ⟨hj5, hai, hib, hsh, hs⟩
  dsimp only at hj5 hai hib hsh hs
  refine Gx.know (m' := [(0, v), (1, .int .i64 ((a : Nat) : Int)), (2, .int .i64 ((b : Nat) : Int)), (3, .func (.func 26) #[] #[]), (10, .int .i64 ((jc : Nat) : Int)), (9, .int .i64 ((i : Nat) : Int))]) (.cons rfl (.cons rfl (.cons rfl (.cons rfl (.cons rfl (.cons rfl .nil)))))) (Gx.norm (l' := [Hp.own FK 3 v L, R]) rfl ?_)
  have hL := hsh.len
  refine Gx.seq ?_
  refine Gx.seq ?_
  refine Gx.region ?_
  refine Gx.val rfl rfl rfl (val_move rfl rfl) ?_
  refine Gx.val rfl rfl rfl (val_lss rfl rfl rfl) ?_
  refine Gx.done ?_
  refine Gx.thenN ?_
  refine Gx.dec rfl (fun h1 => ?_) (fun h1 => ?_)
  · refine Gx.skip ?_
    refine Gx.thenN ?_
    refine Gx.seq ?_
    refine Gx.block ?_
    refine Gx.seq ?_
    refine Gx.block ?_
    refine Gx.loop (ι := Nat) (fun ξ => (a + 1 ≤ ξ) ∧ (ξ ≤ b) ∧ (Srt a ξ L)) (fun ξ => [(0, v), (1, .int .i64 ((a : Nat) : Int)), (2, .int .i64 ((b : Nat) : Int)), (3, .func (.func 26) #[] #[]), (10, .int .i64 ((jc : Nat) : Int)), (9, .int .i64 ((ξ : Nat) : Int))]) (fun ξ => [Hp.own FK 3 v L, R]) (fun ξ => b - ξ) i ⟨by first | omega | (dsimp only; omega), by first | omega | (dsimp only; omega), hs⟩ ((.cons rfl (.cons rfl (.cons rfl (.cons rfl (.cons rfl (.cons rfl .nil))))))) rfl ?_
    rintro iq ⟨haq, hiq, hsq⟩
    refine Gx.know (m' := [(0, v), (1, .int .i64 ((a : Nat) : Int)), (2, .int .i64 ((b : Nat) : Int)), (3, .func (.func 26) #[] #[]), (10, .int .i64 ((jc : Nat) : Int)), (9, .int .i64 ((iq : Nat) : Int))]) (.cons rfl (.cons rfl (.cons rfl (.cons rfl (.cons rfl (.cons rfl .nil)))))) (Gx.norm (l' := [Hp.own FK 3 v L, R]) rfl ?_)
    refine Gx.seq ?_
    refine Gx.seq ?_
    refine Gx.regionQ Try.mixed (by kernel_rfl) ?_
    refine Gq.val rfl rfl rfl (val_move rfl rfl) ?_
    refine Gq.val rfl rfl rfl (val_move rfl rfl) ?_
    refine Gq.val rfl rfl rfl (val_lss rfl rfl rfl) ?_
    refine Gq.val rfl rfl rfl (val_move rfl rfl) ?_
    refine Gq.cases (t := 22) rfl (fun h2 => ?_) (fun h2 => ?_)
    · obtain ⟨x, hx⟩ := get_of_lt (xs := L) (k := iq - 1) (by omega)
      obtain ⟨y, hy⟩ := get_of_lt (xs := L) (k := iq) (by omega)
      refine Gq.valg rfl rfl rfl rfl rfl (val_move rfl rfl) ?_
      refine Gq.valg rfl rfl rfl rfl rfl (val_move rfl rfl) ?_
      refine Gq.valg rfl rfl rfl rfl rfl (val_move rfl rfl) ?_
      refine Gq.valg rfl rfl rfl rfl rfl (val_ixa rfl Try.underlying25 Try.ty59 rfl rfl (j := iq) (rfl) (reach_own (k := 0) rfl hy)) ?_
      refine Gq.valg rfl rfl rfl rfl rfl (Val.cast (val_loadA rfl Try.ty59 rfl rfl rfl (cells_own (k := 0) rfl hy)) (v' := .agg #[.int .i64 y.1.item, .int .i64 y.1.who, .int .i64 y.1.n]) rfl) ?_
      refine Gq.valg rfl rfl rfl rfl rfl (val_move rfl rfl) ?_
      refine Gq.valg rfl rfl rfl rfl rfl (val_move rfl rfl) ?_
      refine Gq.valg rfl rfl rfl rfl rfl (val_sub rfl rfl rfl (r := ((iq - 1 : Nat) : Int)) (w64 (by omega) (by omega))) ?_
      refine Gq.valg rfl rfl rfl rfl rfl (val_ixa rfl Try.underlying25 Try.ty59 rfl rfl (j := iq - 1) (rfl) (reach_own (k := 0) rfl hx)) ?_
      refine Gq.valg rfl rfl rfl rfl rfl (Val.cast (val_loadA rfl Try.ty59 rfl rfl rfl (cells_own (sz := 3) (j := iq - 1) (k := 0) rfl hx)) (v' := .agg #[.int .i64 x.1.item, .int .i64 x.1.who, .int .i64 x.1.n]) rfl) ?_
      refine Gq.valg rfl rfl rfl rfl rfl (val_callV (vs := [.agg #[.int .i64 y.1.item, .int .i64 y.1.who, .int .i64 y.1.n], .agg #[.int .i64 x.1.item, .int .i64 x.1.who, .int .i64 x.1.n]]) (fs := []) (cs := []) rfl Try.fn26 rfl rfl (fun w H => dots_any y.1 x.1)) ?_
      refine Gq.valg rfl rfl rfl rfl rfl (Val.cast (val_lss rfl rfl rfl) (v' := .bool (decide (kK y < kK x))) (congrArg Value.bool (decide_eq_decide.2 kK_lt))) ?_
      refine Gq.valg rfl rfl rfl rfl rfl (val_notD rfl rfl) ?_
      refine Gq.val rfl rfl rfl (val_pickT rfl rfl rfl) ?_
      refine Gq.done ?_
      refine Gx.thenN ?_
      refine Gx.dec rfl (fun h3 => ?_) (fun h3 => ?_)
      · refine Gx.skip ?_
        refine Gx.thenN ?_
        refine Gx.block ?_
        refine Gx.region ?_
        refine Gx.val rfl rfl rfl (val_move rfl rfl) ?_
        refine Gx.val rfl rfl rfl (val_add rfl rfl rfl (r := ((iq + 1 : Nat) : Int)) (w64 (by omega) (by omega))) ?_
        refine Gx.val rfl rfl rfl (val_assign rfl rfl) ?_
        refine Gx.done ?_
        refine Gx.blkN ?_
        refine Gx.thenN ?_
        exact Gx.round (iq + 1) ⟨by first | omega | (dsimp only; omega), by first | omega | (dsimp only; omega), (Srt.ins hsq).done (.inr ⟨by omega, x, y, hx, hy, by omega⟩)⟩ (by first | omega | (dsimp only; omega)) ((.cons rfl (.cons rfl (.cons rfl (.cons rfl (.cons rfl (.cons rfl .nil))))))) rfl
      refine Gx.exit ?_
      refine Gx.thenE ?_
      refine Gx.thenE ?_
      refine Gx.blkE ?_
      refine Gx.thenN ?_
      refine Gx.seq ?_
      refine Gx.seq ?_
      have hbq : iq = b ∨ iq < b := by omega
      refine Gx.region ?_
      refine Gx.val rfl rfl rfl (val_move rfl rfl) ?_
      refine Gx.val rfl rfl rfl (val_move rfl rfl) ?_
      refine Gx.val rfl rfl rfl (val_eql rfl rfl rfl) ?_
      refine Gx.done ?_
      refine Gx.thenN ?_
      refine Gx.decF rfl (by omega) ?_
      refine Gx.skip ?_
      refine Gx.thenN ?_
      refine Gx.seq ?_
      refine Gx.seq ?_
      refine Gx.region ?_
      refine Gx.val rfl rfl rfl (val_move rfl rfl) ?_
      refine Gx.val rfl rfl rfl (val_move rfl rfl) ?_
      refine Gx.val rfl rfl rfl (val_sub rfl rfl rfl (r := (((b : Nat) : Int) - ((a : Nat) : Int))) (w64 rfl (by omega))) ?_
      refine Gx.val rfl rfl rfl (val_lss rfl rfl rfl) ?_
      refine Gx.done ?_
      refine Gx.thenN ?_
      refine Gx.dec rfl (fun h4 => ?_) (fun h4 => ?_)
      · refine Gx.seq ?_
        refine Gx.region ?_
        refine Gx.val rfl rfl rfl (val_assign rfl rfl) ?_
        refine Gx.done ?_
        refine Gx.thenN ?_
        refine Gx.ret ?_
        refine Gx.thenR ?_
        refine Gx.blkR ?_
        refine Gx.thenR ?_
        refine Gx.thenR ?_
        refine Gx.blkR ?_
        refine Gx.thenR ?_
        refine Gx.ret1 Try.results55 rfl ?_
        exact ⟨_, false, hsh, fun h => (by cases h), rfl, sep1 _ _⟩
      refine Gx.skip ?_
      refine Gx.thenN ?_
      refine Gx.seq ?_
      refine Gx.regionO (fun j => j == 15) 17 [0, 1, 2, 3, 4, 5, 6, 7, 8, 9, 10, 11, 12, 13, 14, 15, 16] (fun us => match us with | [] => [Hp.own FK 3 v L, R] | u1 :: _ => [Hp.own FK 3 v (L.set iq x), R]) Try.mixed (by kernel_rfl) rfl ?_
      refine Gw.val rfl rfl rfl rfl rfl (fun us => val_move rfl rfl) ?_
      refine Gw.val rfl rfl rfl rfl rfl (fun us => val_move rfl rfl) ?_
      refine Gw.val rfl rfl rfl rfl rfl (fun us => val_move rfl rfl) ?_
      refine Gw.val rfl rfl rfl rfl rfl (fun us => val_move rfl rfl) ?_
      refine Gw.val rfl rfl rfl rfl rfl (fun us => val_sub rfl rfl rfl (r := ((iq - 1 : Nat) : Int)) (w64 (by omega) (by omega))) ?_
      refine Gw.val rfl rfl rfl rfl rfl (fun us => val_move rfl rfl) ?_
      refine Gw.val rfl rfl rfl rfl rfl (fun us => val_move rfl rfl) ?_
      refine Gw.val rfl rfl rfl rfl rfl (fun us => val_sub rfl rfl rfl (r := ((iq - 1 : Nat) : Int)) (w64 (by omega) (by omega))) ?_
      refine Gw.val0 rfl rfl rfl (by kernel_rfl) rfl rfl (val_ixa rfl Try.underlying25 Try.ty59 rfl rfl (j := iq - 1) (rfl) (reach_own (k := 0) rfl hx)) ?_
      refine Gw.val0 rfl rfl rfl (by kernel_rfl) rfl rfl (Val.cast (val_loadA rfl Try.ty59 rfl rfl rfl (cells_own (sz := 3) (j := iq - 1) (k := 0) rfl hx)) (v' := .agg #[.int .i64 x.1.item, .int .i64 x.1.who, .int .i64 x.1.n]) rfl) ?_
      refine Gw.val rfl rfl rfl rfl rfl (fun us => val_move rfl rfl) ?_
      refine Gw.val rfl rfl rfl rfl rfl (fun us => val_move rfl rfl) ?_
      obtain ⟨x5, hx5⟩ := get_of_lt (xs := L.set iq x) (k := iq) (by first | omega | (simp; omega))
      refine Gw.val rfl rfl rfl rfl rfl (fun us => match us with | [] => val_ixa rfl Try.underlying25 Try.ty59 rfl rfl (j := iq) (rfl) (reach_own (k := 0) rfl hy) | u1 :: _ => val_ixa rfl Try.underlying25 Try.ty59 rfl rfl (j := iq) (rfl) (reach_own (k := 0) rfl hx5)) ?_
      refine Gw.val0 rfl rfl rfl (by kernel_rfl) rfl rfl (Val.cast (val_loadA rfl Try.ty59 rfl rfl rfl (cells_own (k := 0) rfl hy)) (v' := .agg #[.int .i64 y.1.item, .int .i64 y.1.who, .int .i64 y.1.n]) rfl) ?_
      refine Gw.val0 rfl rfl rfl (by kernel_rfl) rfl rfl (val_ixa rfl Try.underlying25 Try.ty59 rfl rfl (j := iq) (rfl) (reach_own (k := 0) rfl hy)) ?_
      refine Gw.chg0 rfl rfl rfl rfl (Eff.mono (eff_storeElA x rfl Try.ty59 rfl rfl rfl FK_one (k := 0) rfl FK_len hy (l' := [Hp.own FK 3 v (L.set iq x), R]) rfl) (fun _ _ h => congrArg sep h)) (fun _ => ?_)
      obtain ⟨x6, hx6⟩ := get_of_lt (xs := L.set iq x) (k := iq - 1) (by first | omega | (simp; omega))
      refine Gw.val0 rfl rfl rfl (by kernel_rfl) rfl rfl (val_ixa rfl Try.underlying25 Try.ty59 rfl rfl (j := iq - 1) (rfl) (reach_own (k := 0) rfl hx6)) ?_
      refine Gw.done ?_
      refine Gx.norm (l' := [Hp.own FK 3 v (L.set iq x), R]) rfl ?_
      refine Gx.eff0 rfl rfl (eff_storeElA y rfl Try.ty59 rfl rfl rfl FK_one (k := 0) rfl FK_len hx6 (l' := [Hp.own FK 3 v ((L.set iq x).set (iq - 1) y), R]) rfl) ?_
      rintro _ _ rfl
      refine Gx.done ?_
      refine Gx.thenN ?_
      refine Gx.seq ?_
      refine Gx.seq ?_
      have hsh1 : Sh a b xs ((L.set iq x).set (iq - 1) y) := Sh.swap hsh (by omega) (by omega) (by omega) (by omega) hy hx
      have hi1 := hsq.swap_ins hx hy
      refine Gx.region ?_
      refine Gx.val rfl rfl rfl (val_move rfl rfl) ?_
      refine Gx.val rfl rfl rfl (val_move rfl rfl) ?_
      refine Gx.val rfl rfl rfl (val_sub rfl rfl rfl (r := (((iq : Nat) : Int) - ((a : Nat) : Int))) (w64 rfl (by omega))) ?_
      refine Gx.val rfl rfl rfl (val_geq rfl rfl rfl) ?_
      refine Gx.done ?_
      refine Gx.thenN ?_
      refine Gx.dec rfl (fun h7 => ?_) (fun h7 => ?_)
      · refine Gx.seq ?_
        refine Gx.region ?_
        refine Gx.val rfl rfl rfl (val_move rfl rfl) ?_
        refine Gx.val rfl rfl rfl (val_sub rfl rfl rfl (r := ((iq - 1 : Nat) : Int)) (w64 (by omega) (by omega))) ?_
        refine Gx.val rfl rfl rfl (val_assign rfl rfl) ?_
        refine Gx.done ?_
        refine Gx.thenN ?_
        refine Gx.block ?_
        refine Gx.loop (ι := Nat × (List Dk)) (fun ξ => (a ≤ ξ.1) ∧ (ξ.1 ≤ iq - 1) ∧ (Sh a b xs ξ.2) ∧ (Ins a (iq - 1) ξ.1 ξ.2)) (fun ξ => [(0, v), (1, .int .i64 ((a : Nat) : Int)), (2, .int .i64 ((b : Nat) : Int)), (3, .func (.func 26) #[] #[]), (10, .int .i64 ((jc : Nat) : Int)), (9, .int .i64 ((iq : Nat) : Int)), (11, .int .i64 ((ξ.1 : Nat) : Int))]) (fun ξ => [Hp.own FK 3 v ξ.2, R]) (fun ξ => ξ.1) (iq - 1, (L.set iq x).set (iq - 1) y) ⟨by first | omega | (dsimp only; omega), by first | omega | (dsimp only; omega), hsh1, hi1⟩ ((.cons rfl (.cons rfl (.cons rfl (.cons rfl (.cons rfl (.cons rfl (.cons rfl .nil)))))))) rfl ?_
        rintro ⟨j, M⟩ ⟨haj, hji, hsh2, hin⟩
        dsimp only at haj hji hsh2 hin
        refine Gx.know (m' := [(0, v), (1, .int .i64 ((a : Nat) : Int)), (2, .int .i64 ((b : Nat) : Int)), (3, .func (.func 26) #[] #[]), (10, .int .i64 ((jc : Nat) : Int)), (9, .int .i64 ((iq : Nat) : Int)), (11, .int .i64 ((j : Nat) : Int))]) (.cons rfl (.cons rfl (.cons rfl (.cons rfl (.cons rfl (.cons rfl (.cons rfl .nil))))))) (Gx.norm (l' := [Hp.own FK 3 v M, R]) rfl ?_)
        have hM := hsh2.len
        rcases (show j = a ∨ ∃ j', j = j' + 1 ∧ a ≤ j' from by rcases Nat.lt_or_ge a j with q | q; exact .inr ⟨j - 1, by omega, by omega⟩; exact .inl (by omega)) with hja | ⟨j, rfl, haj2⟩
        · refine Gx.know (m' := [(0, v), (1, .int .i64 ((a : Nat) : Int)), (2, .int .i64 ((b : Nat) : Int)), (3, .func (.func 26) #[] #[]), (10, .int .i64 ((jc : Nat) : Int)), (9, .int .i64 ((iq : Nat) : Int)), (11, .int .i64 ((j : Nat) : Int))]) (.cons rfl (.cons rfl (.cons rfl (.cons rfl (.cons rfl (.cons rfl (.cons rfl .nil))))))) (Gx.norm (l' := [Hp.own FK 3 v M, R]) rfl ?_)
          refine Gx.seq ?_
          refine Gx.seq ?_
          refine Gx.region ?_
          refine Gx.val rfl rfl rfl (val_move rfl rfl) ?_
          refine Gx.val rfl rfl rfl (val_geq rfl rfl rfl) ?_
          refine Gx.done ?_
          refine Gx.thenN ?_
          refine Gx.dec rfl (fun h8 => ?_) (fun h8 => ?_)
          · refine Gx.skip ?_
            refine Gx.thenN ?_
            refine Gx.seq ?_
            refine Gx.block ?_
            refine Gx.seq ?_
            refine Gx.seq ?_
            obtain ⟨xj, hxj⟩ := get_of_lt (xs := M) (k := j - 1) (by omega)
            obtain ⟨yj, hyj⟩ := get_of_lt (xs := M) (k := j) (by omega)
            have hble : kK xj ≤ kK yj := by subst hja; exact (hbel.sh hsh2) j xj yj (by omega) (Nat.le_refl _) (by omega) hxj hyj
            refine Gx.regionQ Try.mixed (by kernel_rfl) ?_
            refine Gq.val rfl rfl rfl (val_move rfl rfl) ?_
            refine Gq.val rfl rfl rfl (val_move rfl rfl) ?_
            refine Gq.val rfl rfl rfl (val_move rfl rfl) ?_
            refine Gq.val rfl rfl rfl (val_ixa rfl Try.underlying25 Try.ty59 rfl rfl (j := j) (rfl) (reach_own (k := 0) rfl hyj)) ?_
            refine Gq.val rfl rfl rfl (Val.cast (val_loadA rfl Try.ty59 rfl rfl rfl (cells_own (k := 0) rfl hyj)) (v' := .agg #[.int .i64 yj.1.item, .int .i64 yj.1.who, .int .i64 yj.1.n]) rfl) ?_
            refine Gq.val rfl rfl rfl (val_move rfl rfl) ?_
            refine Gq.val rfl rfl rfl (val_move rfl rfl) ?_
            refine Gq.val rfl rfl rfl (val_sub rfl rfl rfl (r := ((j - 1 : Nat) : Int)) (w64 (by omega) (by omega))) ?_
            refine Gq.val rfl rfl rfl (val_ixa rfl Try.underlying25 Try.ty59 rfl rfl (j := j - 1) (rfl) (reach_own (k := 0) rfl hxj)) ?_
            refine Gq.val rfl rfl rfl (Val.cast (val_loadA rfl Try.ty59 rfl rfl rfl (cells_own (sz := 3) (j := j - 1) (k := 0) rfl hxj)) (v' := .agg #[.int .i64 xj.1.item, .int .i64 xj.1.who, .int .i64 xj.1.n]) rfl) ?_
            refine Gq.val rfl rfl rfl (val_callV (vs := [.agg #[.int .i64 yj.1.item, .int .i64 yj.1.who, .int .i64 yj.1.n], .agg #[.int .i64 xj.1.item, .int .i64 xj.1.who, .int .i64 xj.1.n]]) (fs := []) (cs := []) rfl Try.fn26 rfl rfl (fun w H => dots_any yj.1 xj.1)) ?_
            refine Gq.val rfl rfl rfl (Val.cast (val_lss rfl rfl rfl) (v' := .bool (decide (kK yj < kK xj))) (congrArg Value.bool (decide_eq_decide.2 kK_lt))) ?_
            refine Gq.val rfl rfl rfl (val_notD rfl rfl) ?_
            refine Gq.done ?_
            refine Gx.thenN ?_
            refine Gx.decT rfl (by omega) ?_
            refine Gx.exit ?_
            refine Gx.thenE ?_
            refine Gx.blkO rfl ?_
            refine Gx.thenE ?_
            refine Gx.thenE ?_
            refine Gx.blkE ?_
            refine Gx.thenN ?_
            refine Gx.seq ?_
            have hS : Srt a iq M := by
              have q := hin.done (.inl (by omega))
              rwa [show iq - 1 + 1 = iq by omega] at q
            refine Gx.region ?_
            refine Gx.val rfl rfl rfl (val_move rfl rfl) ?_
            refine Gx.val rfl rfl rfl (val_move rfl rfl) ?_
            refine Gx.val rfl rfl rfl (val_sub rfl rfl rfl (r := (((b : Nat) : Int) - ((iq : Nat) : Int))) (w64 rfl (by omega))) ?_
            refine Gx.val rfl rfl rfl (val_geq rfl rfl rfl) ?_
            refine Gx.done ?_
            refine Gx.thenN ?_
            refine Gx.dec rfl (fun h9 => ?_) (fun h9 => ?_)
            · refine Gx.seq ?_
              refine Gx.region ?_
              refine Gx.val rfl rfl rfl (val_move rfl rfl) ?_
              refine Gx.val rfl rfl rfl (val_add rfl rfl rfl (r := ((iq + 1 : Nat) : Int)) (w64 (by omega) (by omega))) ?_
              refine Gx.val rfl rfl rfl (val_assign rfl rfl) ?_
              refine Gx.done ?_
              refine Gx.thenN ?_
              refine Gx.block ?_
              refine Gx.loop (ι := Nat × (List Dk)) (fun ξ => (iq + 1 ≤ ξ.1) ∧ (ξ.1 ≤ b) ∧ (Sh a b xs ξ.2) ∧ (Srt a iq ξ.2)) (fun ξ => [(0, v), (1, .int .i64 ((a : Nat) : Int)), (2, .int .i64 ((b : Nat) : Int)), (3, .func (.func 26) #[] #[]), (10, .int .i64 ((jc : Nat) : Int)), (9, .int .i64 ((iq : Nat) : Int)), (12, .int .i64 ((ξ.1 : Nat) : Int))]) (fun ξ => [Hp.own FK 3 v ξ.2, R]) (fun ξ => b - ξ.1) (iq + 1, M) ⟨by first | omega | (dsimp only; omega), by first | omega | (dsimp only; omega), hsh2, hS⟩ ((.cons rfl (.cons rfl (.cons rfl (.cons rfl (.cons rfl (.cons rfl (.cons rfl .nil)))))))) rfl ?_
              rintro ⟨k, M3⟩ ⟨hik, hkb, hsh3, hS3⟩
              dsimp only at hik hkb hsh3 hS3
              refine Gx.know (m' := [(0, v), (1, .int .i64 ((a : Nat) : Int)), (2, .int .i64 ((b : Nat) : Int)), (3, .func (.func 26) #[] #[]), (10, .int .i64 ((jc : Nat) : Int)), (9, .int .i64 ((iq : Nat) : Int)), (12, .int .i64 ((k : Nat) : Int))]) (.cons rfl (.cons rfl (.cons rfl (.cons rfl (.cons rfl (.cons rfl (.cons rfl .nil))))))) (Gx.norm (l' := [Hp.own FK 3 v M3, R]) rfl ?_)
              have hM3 := hsh3.len
              refine Gx.seq ?_
              refine Gx.seq ?_
              refine Gx.region ?_
              refine Gx.val rfl rfl rfl (val_move rfl rfl) ?_
              refine Gx.val rfl rfl rfl (val_move rfl rfl) ?_
              refine Gx.val rfl rfl rfl (val_lss rfl rfl rfl) ?_
              refine Gx.done ?_
              refine Gx.thenN ?_
              refine Gx.dec rfl (fun h10 => ?_) (fun h10 => ?_)
              · refine Gx.skip ?_
                refine Gx.thenN ?_
                refine Gx.seq ?_
                refine Gx.block ?_
                refine Gx.seq ?_
                refine Gx.seq ?_
                obtain ⟨xk, hxk⟩ := get_of_lt (xs := M3) (k := k - 1) (by omega)
                obtain ⟨yk, hyk⟩ := get_of_lt (xs := M3) (k := k) (by omega)
                refine Gx.regionQ Try.mixed (by kernel_rfl) ?_
                refine Gq.val rfl rfl rfl (val_move rfl rfl) ?_
                refine Gq.val rfl rfl rfl (val_move rfl rfl) ?_
                refine Gq.val rfl rfl rfl (val_move rfl rfl) ?_
                refine Gq.val rfl rfl rfl (val_ixa rfl Try.underlying25 Try.ty59 rfl rfl (j := k) (rfl) (reach_own (k := 0) rfl hyk)) ?_
                refine Gq.val rfl rfl rfl (Val.cast (val_loadA rfl Try.ty59 rfl rfl rfl (cells_own (k := 0) rfl hyk)) (v' := .agg #[.int .i64 yk.1.item, .int .i64 yk.1.who, .int .i64 yk.1.n]) rfl) ?_
                refine Gq.val rfl rfl rfl (val_move rfl rfl) ?_
                refine Gq.val rfl rfl rfl (val_move rfl rfl) ?_
                refine Gq.val rfl rfl rfl (val_sub rfl rfl rfl (r := ((k - 1 : Nat) : Int)) (w64 (by omega) (by omega))) ?_
                refine Gq.val rfl rfl rfl (val_ixa rfl Try.underlying25 Try.ty59 rfl rfl (j := k - 1) (rfl) (reach_own (k := 0) rfl hxk)) ?_
                refine Gq.val rfl rfl rfl (Val.cast (val_loadA rfl Try.ty59 rfl rfl rfl (cells_own (sz := 3) (j := k - 1) (k := 0) rfl hxk)) (v' := .agg #[.int .i64 xk.1.item, .int .i64 xk.1.who, .int .i64 xk.1.n]) rfl) ?_
                refine Gq.val rfl rfl rfl (val_callV (vs := [.agg #[.int .i64 yk.1.item, .int .i64 yk.1.who, .int .i64 yk.1.n], .agg #[.int .i64 xk.1.item, .int .i64 xk.1.who, .int .i64 xk.1.n]]) (fs := []) (cs := []) rfl Try.fn26 rfl rfl (fun w H => dots_any yk.1 xk.1)) ?_
                refine Gq.val rfl rfl rfl (Val.cast (val_lss rfl rfl rfl) (v' := .bool (decide (kK yk < kK xk))) (congrArg Value.bool (decide_eq_decide.2 kK_lt))) ?_
                refine Gq.val rfl rfl rfl (val_notD rfl rfl) ?_
                refine Gq.done ?_
                refine Gx.thenN ?_
                refine Gx.dec rfl (fun h11 => ?_) (fun h11 => ?_)
                · refine Gx.exit ?_
                  refine Gx.thenE ?_
                  refine Gx.blkO rfl ?_
                  refine Gx.thenE ?_
                  refine Gx.thenE ?_
                  refine Gx.blkE ?_
                  refine Gx.blkN ?_
                  refine Gx.thenN ?_
                  refine Gx.region ?_
                  refine Gx.val rfl rfl rfl (val_move rfl rfl) ?_
                  refine Gx.val rfl rfl rfl (val_add rfl rfl rfl (r := ((jc + 1 : Nat) : Int)) (w64 (by omega) (by omega))) ?_
                  refine Gx.val rfl rfl rfl (val_assign rfl rfl) ?_
                  refine Gx.done ?_
                  refine Gx.thenN ?_
                  exact Gx.round (jc + 1, iq, M3) ⟨by first | omega | (dsimp only; omega), by first | omega | (dsimp only; omega), by first | omega | (dsimp only; omega), hsh3, hS3⟩ (by first | omega | (dsimp only; omega)) ((.cons rfl (.cons rfl (.cons rfl (.cons rfl (.cons rfl (.cons rfl .nil))))))) rfl
                refine Gx.skip ?_
                refine Gx.thenN ?_
                refine Gx.regionO (fun j => j == 15) 17 [0, 1, 2, 3, 4, 5, 6, 7, 8, 9, 10, 11, 12, 13, 14, 15, 16] (fun us => match us with | [] => [Hp.own FK 3 v M3, R] | u1 :: _ => [Hp.own FK 3 v (M3.set k xk), R]) Try.mixed (by kernel_rfl) rfl ?_
                refine Gw.val rfl rfl rfl rfl rfl (fun us => val_move rfl rfl) ?_
                refine Gw.val rfl rfl rfl rfl rfl (fun us => val_move rfl rfl) ?_
                refine Gw.val rfl rfl rfl rfl rfl (fun us => val_move rfl rfl) ?_
                refine Gw.val rfl rfl rfl rfl rfl (fun us => val_move rfl rfl) ?_
                refine Gw.val rfl rfl rfl rfl rfl (fun us => val_sub rfl rfl rfl (r := ((k - 1 : Nat) : Int)) (w64 (by omega) (by omega))) ?_
                refine Gw.val rfl rfl rfl rfl rfl (fun us => val_move rfl rfl) ?_
                refine Gw.val rfl rfl rfl rfl rfl (fun us => val_move rfl rfl) ?_
                refine Gw.val rfl rfl rfl rfl rfl (fun us => val_sub rfl rfl rfl (r := ((k - 1 : Nat) : Int)) (w64 (by omega) (by omega))) ?_
                refine Gw.val0 rfl rfl rfl (by kernel_rfl) rfl rfl (val_ixa rfl Try.underlying25 Try.ty59 rfl rfl (j := k - 1) (rfl) (reach_own (k := 0) rfl hxk)) ?_
                refine Gw.val0 rfl rfl rfl (by kernel_rfl) rfl rfl (Val.cast (val_loadA rfl Try.ty59 rfl rfl rfl (cells_own (sz := 3) (j := k - 1) (k := 0) rfl hxk)) (v' := .agg #[.int .i64 xk.1.item, .int .i64 xk.1.who, .int .i64 xk.1.n]) rfl) ?_
                refine Gw.val rfl rfl rfl rfl rfl (fun us => val_move rfl rfl) ?_
                refine Gw.val rfl rfl rfl rfl rfl (fun us => val_move rfl rfl) ?_
                obtain ⟨x12, hx12⟩ := get_of_lt (xs := M3.set k xk) (k := k) (by first | omega | (simp; omega))
                refine Gw.val rfl rfl rfl rfl rfl (fun us => match us with | [] => val_ixa rfl Try.underlying25 Try.ty59 rfl rfl (j := k) (rfl) (reach_own (k := 0) rfl hyk) | u1 :: _ => val_ixa rfl Try.underlying25 Try.ty59 rfl rfl (j := k) (rfl) (reach_own (k := 0) rfl hx12)) ?_
                refine Gw.val0 rfl rfl rfl (by kernel_rfl) rfl rfl (Val.cast (val_loadA rfl Try.ty59 rfl rfl rfl (cells_own (k := 0) rfl hyk)) (v' := .agg #[.int .i64 yk.1.item, .int .i64 yk.1.who, .int .i64 yk.1.n]) rfl) ?_
                refine Gw.val0 rfl rfl rfl (by kernel_rfl) rfl rfl (val_ixa rfl Try.underlying25 Try.ty59 rfl rfl (j := k) (rfl) (reach_own (k := 0) rfl hyk)) ?_
                refine Gw.chg0 rfl rfl rfl rfl (Eff.mono (eff_storeElA xk rfl Try.ty59 rfl rfl rfl FK_one (k := 0) rfl FK_len hyk (l' := [Hp.own FK 3 v (M3.set k xk), R]) rfl) (fun _ _ h => congrArg sep h)) (fun _ => ?_)
                obtain ⟨x13, hx13⟩ := get_of_lt (xs := M3.set k xk) (k := k - 1) (by first | omega | (simp; omega))
                refine Gw.val0 rfl rfl rfl (by kernel_rfl) rfl rfl (val_ixa rfl Try.underlying25 Try.ty59 rfl rfl (j := k - 1) (rfl) (reach_own (k := 0) rfl hx13)) ?_
                refine Gw.done ?_
                refine Gx.norm (l' := [Hp.own FK 3 v (M3.set k xk), R]) rfl ?_
                refine Gx.eff0 rfl rfl (eff_storeElA yk rfl Try.ty59 rfl rfl rfl FK_one (k := 0) rfl FK_len hx13 (l' := [Hp.own FK 3 v ((M3.set k xk).set (k - 1) yk), R]) rfl) ?_
                rintro _ _ rfl
                refine Gx.done ?_
                refine Gx.blkN ?_
                refine Gx.thenN ?_
                refine Gx.region ?_
                refine Gx.val rfl rfl rfl (val_move rfl rfl) ?_
                refine Gx.val rfl rfl rfl (val_add rfl rfl rfl (r := ((k + 1 : Nat) : Int)) (w64 (by omega) (by omega))) ?_
                refine Gx.val rfl rfl rfl (val_assign rfl rfl) ?_
                refine Gx.done ?_
                refine Gx.thenN ?_
                exact Gx.round (k + 1, (M3.set k xk).set (k - 1) yk) ⟨by first | omega | (dsimp only; omega), by first | omega | (dsimp only; omega), Sh.swap hsh3 (by omega) (by omega) (by omega) (by omega) hyk hxk, Srt.sh hS3 (Sh.swap (a := iq) (b := b) (.refl _) (by omega) (by omega) (by omega) (by omega) hyk hxk) (.inr (Nat.le_refl _))⟩ (by first | omega | (dsimp only; omega)) ((.cons rfl (.cons rfl (.cons rfl (.cons rfl (.cons rfl (.cons rfl (.cons rfl .nil)))))))) rfl
              refine Gx.exit ?_
              refine Gx.thenE ?_
              refine Gx.thenE ?_
              refine Gx.blkE ?_
              refine Gx.blkN ?_
              refine Gx.thenN ?_
              refine Gx.region ?_
              refine Gx.val rfl rfl rfl (val_move rfl rfl) ?_
              refine Gx.val rfl rfl rfl (val_add rfl rfl rfl (r := ((jc + 1 : Nat) : Int)) (w64 (by omega) (by omega))) ?_
              refine Gx.val rfl rfl rfl (val_assign rfl rfl) ?_
              refine Gx.done ?_
              refine Gx.thenN ?_
              exact Gx.round (jc + 1, iq, M3) ⟨by first | omega | (dsimp only; omega), by first | omega | (dsimp only; omega), by first | omega | (dsimp only; omega), hsh3, hS3⟩ (by first | omega | (dsimp only; omega)) ((.cons rfl (.cons rfl (.cons rfl (.cons rfl (.cons rfl (.cons rfl .nil))))))) rfl
            refine Gx.skip ?_
            refine Gx.blkN ?_
            refine Gx.thenN ?_
            refine Gx.region ?_
            refine Gx.val rfl rfl rfl (val_move rfl rfl) ?_
            refine Gx.val rfl rfl rfl (val_add rfl rfl rfl (r := ((jc + 1 : Nat) : Int)) (w64 (by omega) (by omega))) ?_
            refine Gx.val rfl rfl rfl (val_assign rfl rfl) ?_
            refine Gx.done ?_
            refine Gx.thenN ?_
            exact Gx.round (jc + 1, iq, M) ⟨by first | omega | (dsimp only; omega), by first | omega | (dsimp only; omega), by first | omega | (dsimp only; omega), hsh2, hS⟩ (by first | omega | (dsimp only; omega)) ((.cons rfl (.cons rfl (.cons rfl (.cons rfl (.cons rfl (.cons rfl .nil))))))) rfl
          refine Gx.exit ?_
          refine Gx.thenE ?_
          refine Gx.thenE ?_
          refine Gx.blkE ?_
          refine Gx.thenN ?_
          refine Gx.seq ?_
          have hS : Srt a iq M := by
            have q := hin.done (.inl (by omega))
            rwa [show iq - 1 + 1 = iq by omega] at q
          refine Gx.region ?_
          refine Gx.val rfl rfl rfl (val_move rfl rfl) ?_
          refine Gx.val rfl rfl rfl (val_move rfl rfl) ?_
          refine Gx.val rfl rfl rfl (val_sub rfl rfl rfl (r := (((b : Nat) : Int) - ((iq : Nat) : Int))) (w64 rfl (by omega))) ?_
          refine Gx.val rfl rfl rfl (val_geq rfl rfl rfl) ?_
          refine Gx.done ?_
          refine Gx.thenN ?_
          refine Gx.dec rfl (fun h14 => ?_) (fun h14 => ?_)
          · refine Gx.seq ?_
            refine Gx.region ?_
            refine Gx.val rfl rfl rfl (val_move rfl rfl) ?_
            refine Gx.val rfl rfl rfl (val_add rfl rfl rfl (r := ((iq + 1 : Nat) : Int)) (w64 (by omega) (by omega))) ?_
            refine Gx.val rfl rfl rfl (val_assign rfl rfl) ?_
            refine Gx.done ?_
            refine Gx.thenN ?_
            refine Gx.block ?_
            refine Gx.loop (ι := Nat × (List Dk)) (fun ξ => (iq + 1 ≤ ξ.1) ∧ (ξ.1 ≤ b) ∧ (Sh a b xs ξ.2) ∧ (Srt a iq ξ.2)) (fun ξ => [(0, v), (1, .int .i64 ((a : Nat) : Int)), (2, .int .i64 ((b : Nat) : Int)), (3, .func (.func 26) #[] #[]), (10, .int .i64 ((jc : Nat) : Int)), (9, .int .i64 ((iq : Nat) : Int)), (12, .int .i64 ((ξ.1 : Nat) : Int))]) (fun ξ => [Hp.own FK 3 v ξ.2, R]) (fun ξ => b - ξ.1) (iq + 1, M) ⟨by first | omega | (dsimp only; omega), by first | omega | (dsimp only; omega), hsh2, hS⟩ ((.cons rfl (.cons rfl (.cons rfl (.cons rfl (.cons rfl (.cons rfl (.cons rfl .nil)))))))) rfl ?_
            rintro ⟨k, M3⟩ ⟨hik, hkb, hsh3, hS3⟩
            dsimp only at hik hkb hsh3 hS3
            refine Gx.know (m' := [(0, v), (1, .int .i64 ((a : Nat) : Int)), (2, .int .i64 ((b : Nat) : Int)), (3, .func (.func 26) #[] #[]), (10, .int .i64 ((jc : Nat) : Int)), (9, .int .i64 ((iq : Nat) : Int)), (12, .int .i64 ((k : Nat) : Int))]) (.cons rfl (.cons rfl (.cons rfl (.cons rfl (.cons rfl (.cons rfl (.cons rfl .nil))))))) (Gx.norm (l' := [Hp.own FK 3 v M3, R]) rfl ?_)
            have hM3 := hsh3.len
            refine Gx.seq ?_
            refine Gx.seq ?_
            refine Gx.region ?_
            refine Gx.val rfl rfl rfl (val_move rfl rfl) ?_
            refine Gx.val rfl rfl rfl (val_move rfl rfl) ?_
            refine Gx.val rfl rfl rfl (val_lss rfl rfl rfl) ?_
            refine Gx.done ?_
            refine Gx.thenN ?_
            refine Gx.dec rfl (fun h15 => ?_) (fun h15 => ?_)
            · refine Gx.skip ?_
              refine Gx.thenN ?_
              refine Gx.seq ?_
              refine Gx.block ?_
              refine Gx.seq ?_
              refine Gx.seq ?_
              obtain ⟨xk, hxk⟩ := get_of_lt (xs := M3) (k := k - 1) (by omega)
              obtain ⟨yk, hyk⟩ := get_of_lt (xs := M3) (k := k) (by omega)
              refine Gx.regionQ Try.mixed (by kernel_rfl) ?_
              refine Gq.val rfl rfl rfl (val_move rfl rfl) ?_
              refine Gq.val rfl rfl rfl (val_move rfl rfl) ?_
              refine Gq.val rfl rfl rfl (val_move rfl rfl) ?_
              refine Gq.val rfl rfl rfl (val_ixa rfl Try.underlying25 Try.ty59 rfl rfl (j := k) (rfl) (reach_own (k := 0) rfl hyk)) ?_
              refine Gq.val rfl rfl rfl (Val.cast (val_loadA rfl Try.ty59 rfl rfl rfl (cells_own (k := 0) rfl hyk)) (v' := .agg #[.int .i64 yk.1.item, .int .i64 yk.1.who, .int .i64 yk.1.n]) rfl) ?_
              refine Gq.val rfl rfl rfl (val_move rfl rfl) ?_
              refine Gq.val rfl rfl rfl (val_move rfl rfl) ?_
              refine Gq.val rfl rfl rfl (val_sub rfl rfl rfl (r := ((k - 1 : Nat) : Int)) (w64 (by omega) (by omega))) ?_
              refine Gq.val rfl rfl rfl (val_ixa rfl Try.underlying25 Try.ty59 rfl rfl (j := k - 1) (rfl) (reach_own (k := 0) rfl hxk)) ?_
              refine Gq.val rfl rfl rfl (Val.cast (val_loadA rfl Try.ty59 rfl rfl rfl (cells_own (sz := 3) (j := k - 1) (k := 0) rfl hxk)) (v' := .agg #[.int .i64 xk.1.item, .int .i64 xk.1.who, .int .i64 xk.1.n]) rfl) ?_
              refine Gq.val rfl rfl rfl (val_callV (vs := [.agg #[.int .i64 yk.1.item, .int .i64 yk.1.who, .int .i64 yk.1.n], .agg #[.int .i64 xk.1.item, .int .i64 xk.1.who, .int .i64 xk.1.n]]) (fs := []) (cs := []) rfl Try.fn26 rfl rfl (fun w H => dots_any yk.1 xk.1)) ?_
              refine Gq.val rfl rfl rfl (Val.cast (val_lss rfl rfl rfl) (v' := .bool (decide (kK yk < kK xk))) (congrArg Value.bool (decide_eq_decide.2 kK_lt))) ?_
              refine Gq.val rfl rfl rfl (val_notD rfl rfl) ?_
              refine Gq.done ?_
              refine Gx.thenN ?_
              refine Gx.dec rfl (fun h16 => ?_) (fun h16 => ?_)
              · refine Gx.exit ?_
                refine Gx.thenE ?_
                refine Gx.blkO rfl ?_
                refine Gx.thenE ?_
                refine Gx.thenE ?_
                refine Gx.blkE ?_
                refine Gx.blkN ?_
                refine Gx.thenN ?_
                refine Gx.region ?_
                refine Gx.val rfl rfl rfl (val_move rfl rfl) ?_
                refine Gx.val rfl rfl rfl (val_add rfl rfl rfl (r := ((jc + 1 : Nat) : Int)) (w64 (by omega) (by omega))) ?_
                refine Gx.val rfl rfl rfl (val_assign rfl rfl) ?_
                refine Gx.done ?_
                refine Gx.thenN ?_
                exact Gx.round (jc + 1, iq, M3) ⟨by first | omega | (dsimp only; omega), by first | omega | (dsimp only; omega), by first | omega | (dsimp only; omega), hsh3, hS3⟩ (by first | omega | (dsimp only; omega)) ((.cons rfl (.cons rfl (.cons rfl (.cons rfl (.cons rfl (.cons rfl .nil))))))) rfl
              refine Gx.skip ?_
              refine Gx.thenN ?_
              refine Gx.regionO (fun j => j == 15) 17 [0, 1, 2, 3, 4, 5, 6, 7, 8, 9, 10, 11, 12, 13, 14, 15, 16] (fun us => match us with | [] => [Hp.own FK 3 v M3, R] | u1 :: _ => [Hp.own FK 3 v (M3.set k xk), R]) Try.mixed (by kernel_rfl) rfl ?_
              refine Gw.val rfl rfl rfl rfl rfl (fun us => val_move rfl rfl) ?_
              refine Gw.val rfl rfl rfl rfl rfl (fun us => val_move rfl rfl) ?_
              refine Gw.val rfl rfl rfl rfl rfl (fun us => val_move rfl rfl) ?_
              refine Gw.val rfl rfl rfl rfl rfl (fun us => val_move rfl rfl) ?_
              refine Gw.val rfl rfl rfl rfl rfl (fun us => val_sub rfl rfl rfl (r := ((k - 1 : Nat) : Int)) (w64 (by omega) (by omega))) ?_
              refine Gw.val rfl rfl rfl rfl rfl (fun us => val_move rfl rfl) ?_
              refine Gw.val rfl rfl rfl rfl rfl (fun us => val_move rfl rfl) ?_
              refine Gw.val rfl rfl rfl rfl rfl (fun us => val_sub rfl rfl rfl (r := ((k - 1 : Nat) : Int)) (w64 (by omega) (by omega))) ?_
              refine Gw.val0 rfl rfl rfl (by kernel_rfl) rfl rfl (val_ixa rfl Try.underlying25 Try.ty59 rfl rfl (j := k - 1) (rfl) (reach_own (k := 0) rfl hxk)) ?_
              refine Gw.val0 rfl rfl rfl (by kernel_rfl) rfl rfl (Val.cast (val_loadA rfl Try.ty59 rfl rfl rfl (cells_own (sz := 3) (j := k - 1) (k := 0) rfl hxk)) (v' := .agg #[.int .i64 xk.1.item, .int .i64 xk.1.who, .int .i64 xk.1.n]) rfl) ?_
              refine Gw.val rfl rfl rfl rfl rfl (fun us => val_move rfl rfl) ?_
              refine Gw.val rfl rfl rfl rfl rfl (fun us => val_move rfl rfl) ?_
              obtain ⟨x17, hx17⟩ := get_of_lt (xs := M3.set k xk) (k := k) (by first | omega | (simp; omega))
              refine Gw.val rfl rfl rfl rfl rfl (fun us => match us with | [] => val_ixa rfl Try.underlying25 Try.ty59 rfl rfl (j := k) (rfl) (reach_own (k := 0) rfl hyk) | u1 :: _ => val_ixa rfl Try.underlying25 Try.ty59 rfl rfl (j := k) (rfl) (reach_own (k := 0) rfl hx17)) ?_
              refine Gw.val0 rfl rfl rfl (by kernel_rfl) rfl rfl (Val.cast (val_loadA rfl Try.ty59 rfl rfl rfl (cells_own (k := 0) rfl hyk)) (v' := .agg #[.int .i64 yk.1.item, .int .i64 yk.1.who, .int .i64 yk.1.n]) rfl) ?_
              refine Gw.val0 rfl rfl rfl (by kernel_rfl) rfl rfl (val_ixa rfl Try.underlying25 Try.ty59 rfl rfl (j := k) (rfl) (reach_own (k := 0) rfl hyk)) ?_
              refine Gw.chg0 rfl rfl rfl rfl (Eff.mono (eff_storeElA xk rfl Try.ty59 rfl rfl rfl FK_one (k := 0) rfl FK_len hyk (l' := [Hp.own FK 3 v (M3.set k xk), R]) rfl) (fun _ _ h => congrArg sep h)) (fun _ => ?_)
              obtain ⟨x18, hx18⟩ := get_of_lt (xs := M3.set k xk) (k := k - 1) (by first | omega | (simp; omega))
              refine Gw.val0 rfl rfl rfl (by kernel_rfl) rfl rfl (val_ixa rfl Try.underlying25 Try.ty59 rfl rfl (j := k - 1) (rfl) (reach_own (k := 0) rfl hx18)) ?_
              refine Gw.done ?_
              refine Gx.norm (l' := [Hp.own FK 3 v (M3.set k xk), R]) rfl ?_
              refine Gx.eff0 rfl rfl (eff_storeElA yk rfl Try.ty59 rfl rfl rfl FK_one (k := 0) rfl FK_len hx18 (l' := [Hp.own FK 3 v ((M3.set k xk).set (k - 1) yk), R]) rfl) ?_
              rintro _ _ rfl
              refine Gx.done ?_
              refine Gx.blkN ?_
              refine Gx.thenN ?_
              refine Gx.region ?_
              refine Gx.val rfl rfl rfl (val_move rfl rfl) ?_
              refine Gx.val rfl rfl rfl (val_add rfl rfl rfl (r := ((k + 1 : Nat) : Int)) (w64 (by omega) (by omega))) ?_
              refine Gx.val rfl rfl rfl (val_assign rfl rfl) ?_
              refine Gx.done ?_
              refine Gx.thenN ?_
              exact Gx.round (k + 1, (M3.set k xk).set (k - 1) yk) ⟨by first | omega | (dsimp only; omega), by first | omega | (dsimp only; omega), Sh.swap hsh3 (by omega) (by omega) (by omega) (by omega) hyk hxk, Srt.sh hS3 (Sh.swap (a := iq) (b := b) (.refl _) (by omega) (by omega) (by omega) (by omega) hyk hxk) (.inr (Nat.le_refl _))⟩ (by first | omega | (dsimp only; omega)) ((.cons rfl (.cons rfl (.cons rfl (.cons rfl (.cons rfl (.cons rfl (.cons rfl .nil)))))))) rfl
            refine Gx.exit ?_
            refine Gx.thenE ?_
            refine Gx.thenE ?_
            refine Gx.blkE ?_
            refine Gx.blkN ?_
            refine Gx.thenN ?_
            refine Gx.region ?_
            refine Gx.val rfl rfl rfl (val_move rfl rfl) ?_
            refine Gx.val rfl rfl rfl (val_add rfl rfl rfl (r := ((jc + 1 : Nat) : Int)) (w64 (by omega) (by omega))) ?_
            refine Gx.val rfl rfl rfl (val_assign rfl rfl) ?_
            refine Gx.done ?_
            refine Gx.thenN ?_
            exact Gx.round (jc + 1, iq, M3) ⟨by first | omega | (dsimp only; omega), by first | omega | (dsimp only; omega), by first | omega | (dsimp only; omega), hsh3, hS3⟩ (by first | omega | (dsimp only; omega)) ((.cons rfl (.cons rfl (.cons rfl (.cons rfl (.cons rfl (.cons rfl .nil))))))) rfl
          refine Gx.skip ?_
          refine Gx.blkN ?_
          refine Gx.thenN ?_
          refine Gx.region ?_
          refine Gx.val rfl rfl rfl (val_move rfl rfl) ?_
          refine Gx.val rfl rfl rfl (val_add rfl rfl rfl (r := ((jc + 1 : Nat) : Int)) (w64 (by omega) (by omega))) ?_
          refine Gx.val rfl rfl rfl (val_assign rfl rfl) ?_
          refine Gx.done ?_
          refine Gx.thenN ?_
          exact Gx.round (jc + 1, iq, M) ⟨by first | omega | (dsimp only; omega), by first | omega | (dsimp only; omega), by first | omega | (dsimp only; omega), hsh2, hS⟩ (by first | omega | (dsimp only; omega)) ((.cons rfl (.cons rfl (.cons rfl (.cons rfl (.cons rfl (.cons rfl .nil))))))) rfl
        · refine Gx.know (m' := [(0, v), (1, .int .i64 ((a : Nat) : Int)), (2, .int .i64 ((b : Nat) : Int)), (3, .func (.func 26) #[] #[]), (10, .int .i64 ((jc : Nat) : Int)), (9, .int .i64 ((iq : Nat) : Int)), (11, .int .i64 (((j + 1) : Nat) : Int))]) (.cons rfl (.cons rfl (.cons rfl (.cons rfl (.cons rfl (.cons rfl (.cons rfl .nil))))))) (Gx.norm (l' := [Hp.own FK 3 v M, R]) rfl ?_)
          refine Gx.seq ?_
          refine Gx.seq ?_
          refine Gx.region ?_
          refine Gx.val rfl rfl rfl (val_move rfl rfl) ?_
          refine Gx.val rfl rfl rfl (val_geq rfl rfl rfl) ?_
          refine Gx.done ?_
          refine Gx.thenN ?_
          refine Gx.decT rfl (by omega) ?_
          refine Gx.skip ?_
          refine Gx.thenN ?_
          refine Gx.seq ?_
          refine Gx.block ?_
          refine Gx.seq ?_
          refine Gx.seq ?_
          obtain ⟨xj, hxj⟩ := get_of_lt (xs := M) (k := j) (by omega)
          obtain ⟨yj, hyj⟩ := get_of_lt (xs := M) (k := j + 1) (by omega)
          refine Gx.regionQ Try.mixed (by kernel_rfl) ?_
          refine Gq.val rfl rfl rfl (val_move rfl rfl) ?_
          refine Gq.val rfl rfl rfl (val_move rfl rfl) ?_
          refine Gq.val rfl rfl rfl (val_move rfl rfl) ?_
          refine Gq.val rfl rfl rfl (val_ixa rfl Try.underlying25 Try.ty59 rfl rfl (j := (j + 1)) (rfl) (reach_own (k := 0) rfl hyj)) ?_
          refine Gq.val rfl rfl rfl (Val.cast (val_loadA rfl Try.ty59 rfl rfl rfl (cells_own (sz := 3) (j := (j + 1)) (k := 0) rfl hyj)) (v' := .agg #[.int .i64 yj.1.item, .int .i64 yj.1.who, .int .i64 yj.1.n]) rfl) ?_
          refine Gq.val rfl rfl rfl (val_move rfl rfl) ?_
          refine Gq.val rfl rfl rfl (val_move rfl rfl) ?_
          refine Gq.val rfl rfl rfl (val_sub rfl rfl rfl (r := ((j : Nat) : Int)) (w64 (by omega) (by omega))) ?_
          refine Gq.val rfl rfl rfl (val_ixa rfl Try.underlying25 Try.ty59 rfl rfl (j := j) (rfl) (reach_own (k := 0) rfl hxj)) ?_
          refine Gq.val rfl rfl rfl (Val.cast (val_loadA rfl Try.ty59 rfl rfl rfl (cells_own (k := 0) rfl hxj)) (v' := .agg #[.int .i64 xj.1.item, .int .i64 xj.1.who, .int .i64 xj.1.n]) rfl) ?_
          refine Gq.val rfl rfl rfl (val_callV (vs := [.agg #[.int .i64 yj.1.item, .int .i64 yj.1.who, .int .i64 yj.1.n], .agg #[.int .i64 xj.1.item, .int .i64 xj.1.who, .int .i64 xj.1.n]]) (fs := []) (cs := []) rfl Try.fn26 rfl rfl (fun w H => dots_any yj.1 xj.1)) ?_
          refine Gq.val rfl rfl rfl (Val.cast (val_lss rfl rfl rfl) (v' := .bool (decide (kK yj < kK xj))) (congrArg Value.bool (decide_eq_decide.2 kK_lt))) ?_
          refine Gq.val rfl rfl rfl (val_notD rfl rfl) ?_
          refine Gq.done ?_
          refine Gx.thenN ?_
          refine Gx.dec rfl (fun h19 => ?_) (fun h19 => ?_)
          · refine Gx.exit ?_
            refine Gx.thenE ?_
            refine Gx.blkO rfl ?_
            refine Gx.thenE ?_
            refine Gx.thenE ?_
            refine Gx.blkE ?_
            refine Gx.thenN ?_
            refine Gx.seq ?_
            have hS : Srt a iq M := by
              have q := hin.done (.inr ⟨by omega, xj, yj, hxj, hyj, by omega⟩)
              rwa [show iq - 1 + 1 = iq by omega] at q
            refine Gx.region ?_
            refine Gx.val rfl rfl rfl (val_move rfl rfl) ?_
            refine Gx.val rfl rfl rfl (val_move rfl rfl) ?_
            refine Gx.val rfl rfl rfl (val_sub rfl rfl rfl (r := (((b : Nat) : Int) - ((iq : Nat) : Int))) (w64 rfl (by omega))) ?_
            refine Gx.val rfl rfl rfl (val_geq rfl rfl rfl) ?_
            refine Gx.done ?_
            refine Gx.thenN ?_
            refine Gx.dec rfl (fun h20 => ?_) (fun h20 => ?_)
            · refine Gx.seq ?_
              refine Gx.region ?_
              refine Gx.val rfl rfl rfl (val_move rfl rfl) ?_
              refine Gx.val rfl rfl rfl (val_add rfl rfl rfl (r := ((iq + 1 : Nat) : Int)) (w64 (by omega) (by omega))) ?_
              refine Gx.val rfl rfl rfl (val_assign rfl rfl) ?_
              refine Gx.done ?_
              refine Gx.thenN ?_
              refine Gx.block ?_
              refine Gx.loop (ι := Nat × (List Dk)) (fun ξ => (iq + 1 ≤ ξ.1) ∧ (ξ.1 ≤ b) ∧ (Sh a b xs ξ.2) ∧ (Srt a iq ξ.2)) (fun ξ => [(0, v), (1, .int .i64 ((a : Nat) : Int)), (2, .int .i64 ((b : Nat) : Int)), (3, .func (.func 26) #[] #[]), (10, .int .i64 ((jc : Nat) : Int)), (9, .int .i64 ((iq : Nat) : Int)), (12, .int .i64 ((ξ.1 : Nat) : Int))]) (fun ξ => [Hp.own FK 3 v ξ.2, R]) (fun ξ => b - ξ.1) (iq + 1, M) ⟨by first | omega | (dsimp only; omega), by first | omega | (dsimp only; omega), hsh2, hS⟩ ((.cons rfl (.cons rfl (.cons rfl (.cons rfl (.cons rfl (.cons rfl (.cons rfl .nil)))))))) rfl ?_
              rintro ⟨k, M3⟩ ⟨hik, hkb, hsh3, hS3⟩
              dsimp only at hik hkb hsh3 hS3
              refine Gx.know (m' := [(0, v), (1, .int .i64 ((a : Nat) : Int)), (2, .int .i64 ((b : Nat) : Int)), (3, .func (.func 26) #[] #[]), (10, .int .i64 ((jc : Nat) : Int)), (9, .int .i64 ((iq : Nat) : Int)), (12, .int .i64 ((k : Nat) : Int))]) (.cons rfl (.cons rfl (.cons rfl (.cons rfl (.cons rfl (.cons rfl (.cons rfl .nil))))))) (Gx.norm (l' := [Hp.own FK 3 v M3, R]) rfl ?_)
              have hM3 := hsh3.len
              refine Gx.seq ?_
              refine Gx.seq ?_
              refine Gx.region ?_
              refine Gx.val rfl rfl rfl (val_move rfl rfl) ?_
              refine Gx.val rfl rfl rfl (val_move rfl rfl) ?_
              refine Gx.val rfl rfl rfl (val_lss rfl rfl rfl) ?_
              refine Gx.done ?_
              refine Gx.thenN ?_
              refine Gx.dec rfl (fun h21 => ?_) (fun h21 => ?_)
              · refine Gx.skip ?_
                refine Gx.thenN ?_
                refine Gx.seq ?_
                refine Gx.block ?_
                refine Gx.seq ?_
                refine Gx.seq ?_
                obtain ⟨xk, hxk⟩ := get_of_lt (xs := M3) (k := k - 1) (by omega)
                obtain ⟨yk, hyk⟩ := get_of_lt (xs := M3) (k := k) (by omega)
                refine Gx.regionQ Try.mixed (by kernel_rfl) ?_
                refine Gq.val rfl rfl rfl (val_move rfl rfl) ?_
                refine Gq.val rfl rfl rfl (val_move rfl rfl) ?_
                refine Gq.val rfl rfl rfl (val_move rfl rfl) ?_
                refine Gq.val rfl rfl rfl (val_ixa rfl Try.underlying25 Try.ty59 rfl rfl (j := k) (rfl) (reach_own (k := 0) rfl hyk)) ?_
                refine Gq.val rfl rfl rfl (Val.cast (val_loadA rfl Try.ty59 rfl rfl rfl (cells_own (k := 0) rfl hyk)) (v' := .agg #[.int .i64 yk.1.item, .int .i64 yk.1.who, .int .i64 yk.1.n]) rfl) ?_
                refine Gq.val rfl rfl rfl (val_move rfl rfl) ?_
                refine Gq.val rfl rfl rfl (val_move rfl rfl) ?_
                refine Gq.val rfl rfl rfl (val_sub rfl rfl rfl (r := ((k - 1 : Nat) : Int)) (w64 (by omega) (by omega))) ?_
                refine Gq.val rfl rfl rfl (val_ixa rfl Try.underlying25 Try.ty59 rfl rfl (j := k - 1) (rfl) (reach_own (k := 0) rfl hxk)) ?_
                refine Gq.val rfl rfl rfl (Val.cast (val_loadA rfl Try.ty59 rfl rfl rfl (cells_own (sz := 3) (j := k - 1) (k := 0) rfl hxk)) (v' := .agg #[.int .i64 xk.1.item, .int .i64 xk.1.who, .int .i64 xk.1.n]) rfl) ?_
                refine Gq.val rfl rfl rfl (val_callV (vs := [.agg #[.int .i64 yk.1.item, .int .i64 yk.1.who, .int .i64 yk.1.n], .agg #[.int .i64 xk.1.item, .int .i64 xk.1.who, .int .i64 xk.1.n]]) (fs := []) (cs := []) rfl Try.fn26 rfl rfl (fun w H => dots_any yk.1 xk.1)) ?_
                refine Gq.val rfl rfl rfl (Val.cast (val_lss rfl rfl rfl) (v' := .bool (decide (kK yk < kK xk))) (congrArg Value.bool (decide_eq_decide.2 kK_lt))) ?_
                refine Gq.val rfl rfl rfl (val_notD rfl rfl) ?_
                refine Gq.done ?_
                refine Gx.thenN ?_
                refine Gx.dec rfl (fun h22 => ?_) (fun h22 => ?_)
                · refine Gx.exit ?_
                  refine Gx.thenE ?_
                  refine Gx.blkO rfl ?_
                  refine Gx.thenE ?_
                  refine Gx.thenE ?_
                  refine Gx.blkE ?_
                  refine Gx.blkN ?_
                  refine Gx.thenN ?_
                  refine Gx.region ?_
                  refine Gx.val rfl rfl rfl (val_move rfl rfl) ?_
                  refine Gx.val rfl rfl rfl (val_add rfl rfl rfl (r := ((jc + 1 : Nat) : Int)) (w64 (by omega) (by omega))) ?_
                  refine Gx.val rfl rfl rfl (val_assign rfl rfl) ?_
                  refine Gx.done ?_
                  refine Gx.thenN ?_
                  exact Gx.round (jc + 1, iq, M3) ⟨by first | omega | (dsimp only; omega), by first | omega | (dsimp only; omega), by first | omega | (dsimp only; omega), hsh3, hS3⟩ (by first | omega | (dsimp only; omega)) ((.cons rfl (.cons rfl (.cons rfl (.cons rfl (.cons rfl (.cons rfl .nil))))))) rfl
                refine Gx.skip ?_
                refine Gx.thenN ?_
                refine Gx.regionO (fun j => j == 15) 17 [0, 1, 2, 3, 4, 5, 6, 7, 8, 9, 10, 11, 12, 13, 14, 15, 16] (fun us => match us with | [] => [Hp.own FK 3 v M3, R] | u1 :: _ => [Hp.own FK 3 v (M3.set k xk), R]) Try.mixed (by kernel_rfl) rfl ?_
                refine Gw.val rfl rfl rfl rfl rfl (fun us => val_move rfl rfl) ?_
                refine Gw.val rfl rfl rfl rfl rfl (fun us => val_move rfl rfl) ?_
                refine Gw.val rfl rfl rfl rfl rfl (fun us => val_move rfl rfl) ?_
                refine Gw.val rfl rfl rfl rfl rfl (fun us => val_move rfl rfl) ?_
                refine Gw.val rfl rfl rfl rfl rfl (fun us => val_sub rfl rfl rfl (r := ((k - 1 : Nat) : Int)) (w64 (by omega) (by omega))) ?_
                refine Gw.val rfl rfl rfl rfl rfl (fun us => val_move rfl rfl) ?_
                refine Gw.val rfl rfl rfl rfl rfl (fun us => val_move rfl rfl) ?_
                refine Gw.val rfl rfl rfl rfl rfl (fun us => val_sub rfl rfl rfl (r := ((k - 1 : Nat) : Int)) (w64 (by omega) (by omega))) ?_
                refine Gw.val0 rfl rfl rfl (by kernel_rfl) rfl rfl (val_ixa rfl Try.underlying25 Try.ty59 rfl rfl (j := k - 1) (rfl) (reach_own (k := 0) rfl hxk)) ?_
                refine Gw.val0 rfl rfl rfl (by kernel_rfl) rfl rfl (Val.cast (val_loadA rfl Try.ty59 rfl rfl rfl (cells_own (sz := 3) (j := k - 1) (k := 0) rfl hxk)) (v' := .agg #[.int .i64 xk.1.item, .int .i64 xk.1.who, .int .i64 xk.1.n]) rfl) ?_
                refine Gw.val rfl rfl rfl rfl rfl (fun us => val_move rfl rfl) ?_
                refine Gw.val rfl rfl rfl rfl rfl (fun us => val_move rfl rfl) ?_
                obtain ⟨x23, hx23⟩ := get_of_lt (xs := M3.set k xk) (k := k) (by first | omega | (simp; omega))
                refine Gw.val rfl rfl rfl rfl rfl (fun us => match us with | [] => val_ixa rfl Try.underlying25 Try.ty59 rfl rfl (j := k) (rfl) (reach_own (k := 0) rfl hyk) | u1 :: _ => val_ixa rfl Try.underlying25 Try.ty59 rfl rfl (j := k) (rfl) (reach_own (k := 0) rfl hx23)) ?_
                refine Gw.val0 rfl rfl rfl (by kernel_rfl) rfl rfl (Val.cast (val_loadA rfl Try.ty59 rfl rfl rfl (cells_own (k := 0) rfl hyk)) (v' := .agg #[.int .i64 yk.1.item, .int .i64 yk.1.who, .int .i64 yk.1.n]) rfl) ?_
                refine Gw.val0 rfl rfl rfl (by kernel_rfl) rfl rfl (val_ixa rfl Try.underlying25 Try.ty59 rfl rfl (j := k) (rfl) (reach_own (k := 0) rfl hyk)) ?_
                refine Gw.chg0 rfl rfl rfl rfl (Eff.mono (eff_storeElA xk rfl Try.ty59 rfl rfl rfl FK_one (k := 0) rfl FK_len hyk (l' := [Hp.own FK 3 v (M3.set k xk), R]) rfl) (fun _ _ h => congrArg sep h)) (fun _ => ?_)
                obtain ⟨x24, hx24⟩ := get_of_lt (xs := M3.set k xk) (k := k - 1) (by first | omega | (simp; omega))
                refine Gw.val0 rfl rfl rfl (by kernel_rfl) rfl rfl (val_ixa rfl Try.underlying25 Try.ty59 rfl rfl (j := k - 1) (rfl) (reach_own (k := 0) rfl hx24)) ?_
                refine Gw.done ?_
                refine Gx.norm (l' := [Hp.own FK 3 v (M3.set k xk), R]) rfl ?_
                refine Gx.eff0 rfl rfl (eff_storeElA yk rfl Try.ty59 rfl rfl rfl FK_one (k := 0) rfl FK_len hx24 (l' := [Hp.own FK 3 v ((M3.set k xk).set (k - 1) yk), R]) rfl) ?_
                rintro _ _ rfl
                refine Gx.done ?_
                refine Gx.blkN ?_
                refine Gx.thenN ?_
                refine Gx.region ?_
                refine Gx.val rfl rfl rfl (val_move rfl rfl) ?_
                refine Gx.val rfl rfl rfl (val_add rfl rfl rfl (r := ((k + 1 : Nat) : Int)) (w64 (by omega) (by omega))) ?_
                refine Gx.val rfl rfl rfl (val_assign rfl rfl) ?_
                refine Gx.done ?_
                refine Gx.thenN ?_
                exact Gx.round (k + 1, (M3.set k xk).set (k - 1) yk) ⟨by first | omega | (dsimp only; omega), by first | omega | (dsimp only; omega), Sh.swap hsh3 (by omega) (by omega) (by omega) (by omega) hyk hxk, Srt.sh hS3 (Sh.swap (a := iq) (b := b) (.refl _) (by omega) (by omega) (by omega) (by omega) hyk hxk) (.inr (Nat.le_refl _))⟩ (by first | omega | (dsimp only; omega)) ((.cons rfl (.cons rfl (.cons rfl (.cons rfl (.cons rfl (.cons rfl (.cons rfl .nil)))))))) rfl
              refine Gx.exit ?_
              refine Gx.thenE ?_
              refine Gx.thenE ?_
              refine Gx.blkE ?_
              refine Gx.blkN ?_
              refine Gx.thenN ?_
              refine Gx.region ?_
              refine Gx.val rfl rfl rfl (val_move rfl rfl) ?_
              refine Gx.val rfl rfl rfl (val_add rfl rfl rfl (r := ((jc + 1 : Nat) : Int)) (w64 (by omega) (by omega))) ?_
              refine Gx.val rfl rfl rfl (val_assign rfl rfl) ?_
              refine Gx.done ?_
              refine Gx.thenN ?_
              exact Gx.round (jc + 1, iq, M3) ⟨by first | omega | (dsimp only; omega), by first | omega | (dsimp only; omega), by first | omega | (dsimp only; omega), hsh3, hS3⟩ (by first | omega | (dsimp only; omega)) ((.cons rfl (.cons rfl (.cons rfl (.cons rfl (.cons rfl (.cons rfl .nil))))))) rfl
            refine Gx.skip ?_
            refine Gx.blkN ?_
            refine Gx.thenN ?_
            refine Gx.region ?_
            refine Gx.val rfl rfl rfl (val_move rfl rfl) ?_
            refine Gx.val rfl rfl rfl (val_add rfl rfl rfl (r := ((jc + 1 : Nat) : Int)) (w64 (by omega) (by omega))) ?_
            refine Gx.val rfl rfl rfl (val_assign rfl rfl) ?_
            refine Gx.done ?_
            refine Gx.thenN ?_
            exact Gx.round (jc + 1, iq, M) ⟨by first | omega | (dsimp only; omega), by first | omega | (dsimp only; omega), by first | omega | (dsimp only; omega), hsh2, hS⟩ (by first | omega | (dsimp only; omega)) ((.cons rfl (.cons rfl (.cons rfl (.cons rfl (.cons rfl (.cons rfl .nil))))))) rfl
          refine Gx.skip ?_
          refine Gx.thenN ?_
          refine Gx.regionO (fun j => j == 15) 17 [0, 1, 2, 3, 4, 5, 6, 7, 8, 9, 10, 11, 12, 13, 14, 15, 16] (fun us => match us with | [] => [Hp.own FK 3 v M, R] | u1 :: _ => [Hp.own FK 3 v (M.set (j + 1) xj), R]) Try.mixed (by kernel_rfl) rfl ?_
          refine Gw.val rfl rfl rfl rfl rfl (fun us => val_move rfl rfl) ?_
          refine Gw.val rfl rfl rfl rfl rfl (fun us => val_move rfl rfl) ?_
          refine Gw.val rfl rfl rfl rfl rfl (fun us => val_move rfl rfl) ?_
          refine Gw.val rfl rfl rfl rfl rfl (fun us => val_move rfl rfl) ?_
          refine Gw.val rfl rfl rfl rfl rfl (fun us => val_sub rfl rfl rfl (r := ((j : Nat) : Int)) (w64 (by omega) (by omega))) ?_
          refine Gw.val rfl rfl rfl rfl rfl (fun us => val_move rfl rfl) ?_
          refine Gw.val rfl rfl rfl rfl rfl (fun us => val_move rfl rfl) ?_
          refine Gw.val rfl rfl rfl rfl rfl (fun us => val_sub rfl rfl rfl (r := ((j : Nat) : Int)) (w64 (by omega) (by omega))) ?_
          refine Gw.val0 rfl rfl rfl (by kernel_rfl) rfl rfl (val_ixa rfl Try.underlying25 Try.ty59 rfl rfl (j := j) (rfl) (reach_own (k := 0) rfl hxj)) ?_
          refine Gw.val0 rfl rfl rfl (by kernel_rfl) rfl rfl (Val.cast (val_loadA rfl Try.ty59 rfl rfl rfl (cells_own (k := 0) rfl hxj)) (v' := .agg #[.int .i64 xj.1.item, .int .i64 xj.1.who, .int .i64 xj.1.n]) rfl) ?_
          refine Gw.val rfl rfl rfl rfl rfl (fun us => val_move rfl rfl) ?_
          refine Gw.val rfl rfl rfl rfl rfl (fun us => val_move rfl rfl) ?_
          obtain ⟨x25, hx25⟩ := get_of_lt (xs := M.set (j + 1) xj) (k := (j + 1)) (by first | omega | (simp; omega))
          refine Gw.val rfl rfl rfl rfl rfl (fun us => match us with | [] => val_ixa rfl Try.underlying25 Try.ty59 rfl rfl (j := (j + 1)) (rfl) (reach_own (k := 0) rfl hyj) | u1 :: _ => val_ixa rfl Try.underlying25 Try.ty59 rfl rfl (j := (j + 1)) (rfl) (reach_own (k := 0) rfl hx25)) ?_
          refine Gw.val0 rfl rfl rfl (by kernel_rfl) rfl rfl (Val.cast (val_loadA rfl Try.ty59 rfl rfl rfl (cells_own (sz := 3) (j := (j + 1)) (k := 0) rfl hyj)) (v' := .agg #[.int .i64 yj.1.item, .int .i64 yj.1.who, .int .i64 yj.1.n]) rfl) ?_
          refine Gw.val0 rfl rfl rfl (by kernel_rfl) rfl rfl (val_ixa rfl Try.underlying25 Try.ty59 rfl rfl (j := (j + 1)) (rfl) (reach_own (k := 0) rfl hyj)) ?_
          refine Gw.chg0 rfl rfl rfl rfl (Eff.mono (eff_storeElA xj rfl Try.ty59 rfl rfl rfl FK_one (k := 0) rfl FK_len hyj (l' := [Hp.own FK 3 v (M.set (j + 1) xj), R]) rfl) (fun _ _ h => congrArg sep h)) (fun _ => ?_)
          obtain ⟨x26, hx26⟩ := get_of_lt (xs := M.set (j + 1) xj) (k := j) (by first | omega | (simp; omega))
          refine Gw.val0 rfl rfl rfl (by kernel_rfl) rfl rfl (val_ixa rfl Try.underlying25 Try.ty59 rfl rfl (j := j) (rfl) (reach_own (k := 0) rfl hx26)) ?_
          refine Gw.done ?_
          refine Gx.norm (l' := [Hp.own FK 3 v (M.set (j + 1) xj), R]) rfl ?_
          refine Gx.eff0 rfl rfl (eff_storeElA yj rfl Try.ty59 rfl rfl rfl FK_one (k := 0) rfl FK_len hx26 (l' := [Hp.own FK 3 v ((M.set (j + 1) xj).set j yj), R]) rfl) ?_
          rintro _ _ rfl
          refine Gx.done ?_
          refine Gx.blkN ?_
          refine Gx.thenN ?_
          refine Gx.region ?_
          refine Gx.val rfl rfl rfl (val_move rfl rfl) ?_
          refine Gx.val rfl rfl rfl (val_sub rfl rfl rfl (r := ((j : Nat) : Int)) (w64 (by omega) (by omega))) ?_
          refine Gx.val rfl rfl rfl (val_assign rfl rfl) ?_
          refine Gx.done ?_
          refine Gx.thenN ?_
          exact Gx.round (j, (M.set (j + 1) xj).set j yj) ⟨by first | omega | (dsimp only; omega), by first | omega | (dsimp only; omega), Sh.swap hsh2 (by omega) (by omega) (by omega) (by omega) hyj hxj, hin.swap haj2 (by omega) hxj hyj (by omega)⟩ (by first | omega | (dsimp only; omega)) ((.cons rfl (.cons rfl (.cons rfl (.cons rfl (.cons rfl (.cons rfl (.cons rfl .nil)))))))) rfl
      refine Gx.skip ?_
      refine Gx.thenN ?_
      refine Gx.seq ?_
      have hS : Srt a iq ((L.set iq x).set (iq - 1) y) := by
        obtain rfl : iq = a + 1 := by omega
        exact Srt.one _ _
      refine Gx.region ?_
      refine Gx.val rfl rfl rfl (val_move rfl rfl) ?_
      refine Gx.val rfl rfl rfl (val_move rfl rfl) ?_
      refine Gx.val rfl rfl rfl (val_sub rfl rfl rfl (r := (((b : Nat) : Int) - ((iq : Nat) : Int))) (w64 rfl (by omega))) ?_
      refine Gx.val rfl rfl rfl (val_geq rfl rfl rfl) ?_
      refine Gx.done ?_
      refine Gx.thenN ?_
      refine Gx.dec rfl (fun h27 => ?_) (fun h27 => ?_)
      · refine Gx.seq ?_
        refine Gx.region ?_
        refine Gx.val rfl rfl rfl (val_move rfl rfl) ?_
        refine Gx.val rfl rfl rfl (val_add rfl rfl rfl (r := ((iq + 1 : Nat) : Int)) (w64 (by omega) (by omega))) ?_
        refine Gx.val rfl rfl rfl (val_assign rfl rfl) ?_
        refine Gx.done ?_
        refine Gx.thenN ?_
        refine Gx.block ?_
        refine Gx.loop (ι := Nat × (List Dk)) (fun ξ => (iq + 1 ≤ ξ.1) ∧ (ξ.1 ≤ b) ∧ (Sh a b xs ξ.2) ∧ (Srt a iq ξ.2)) (fun ξ => [(0, v), (1, .int .i64 ((a : Nat) : Int)), (2, .int .i64 ((b : Nat) : Int)), (3, .func (.func 26) #[] #[]), (10, .int .i64 ((jc : Nat) : Int)), (9, .int .i64 ((iq : Nat) : Int)), (12, .int .i64 ((ξ.1 : Nat) : Int))]) (fun ξ => [Hp.own FK 3 v ξ.2, R]) (fun ξ => b - ξ.1) (iq + 1, (L.set iq x).set (iq - 1) y) ⟨by first | omega | (dsimp only; omega), by first | omega | (dsimp only; omega), hsh1, hS⟩ ((.cons rfl (.cons rfl (.cons rfl (.cons rfl (.cons rfl (.cons rfl (.cons rfl .nil)))))))) rfl ?_
        rintro ⟨k, M3⟩ ⟨hik, hkb, hsh3, hS3⟩
        dsimp only at hik hkb hsh3 hS3
        refine Gx.know (m' := [(0, v), (1, .int .i64 ((a : Nat) : Int)), (2, .int .i64 ((b : Nat) : Int)), (3, .func (.func 26) #[] #[]), (10, .int .i64 ((jc : Nat) : Int)), (9, .int .i64 ((iq : Nat) : Int)), (12, .int .i64 ((k : Nat) : Int))]) (.cons rfl (.cons rfl (.cons rfl (.cons rfl (.cons rfl (.cons rfl (.cons rfl .nil))))))) (Gx.norm (l' := [Hp.own FK 3 v M3, R]) rfl ?_)
        have hM3 := hsh3.len
        refine Gx.seq ?_
        refine Gx.seq ?_
        refine Gx.region ?_
        refine Gx.val rfl rfl rfl (val_move rfl rfl) ?_
        refine Gx.val rfl rfl rfl (val_move rfl rfl) ?_
        refine Gx.val rfl rfl rfl (val_lss rfl rfl rfl) ?_
        refine Gx.done ?_
        refine Gx.thenN ?_
        refine Gx.dec rfl (fun h28 => ?_) (fun h28 => ?_)
        · refine Gx.skip ?_
          refine Gx.thenN ?_
          refine Gx.seq ?_
          refine Gx.block ?_
          refine Gx.seq ?_
          refine Gx.seq ?_
          obtain ⟨xk, hxk⟩ := get_of_lt (xs := M3) (k := k - 1) (by omega)
          obtain ⟨yk, hyk⟩ := get_of_lt (xs := M3) (k := k) (by omega)
          refine Gx.regionQ Try.mixed (by kernel_rfl) ?_
          refine Gq.val rfl rfl rfl (val_move rfl rfl) ?_
          refine Gq.val rfl rfl rfl (val_move rfl rfl) ?_
          refine Gq.val rfl rfl rfl (val_move rfl rfl) ?_
          refine Gq.val rfl rfl rfl (val_ixa rfl Try.underlying25 Try.ty59 rfl rfl (j := k) (rfl) (reach_own (k := 0) rfl hyk)) ?_
          refine Gq.val rfl rfl rfl (Val.cast (val_loadA rfl Try.ty59 rfl rfl rfl (cells_own (k := 0) rfl hyk)) (v' := .agg #[.int .i64 yk.1.item, .int .i64 yk.1.who, .int .i64 yk.1.n]) rfl) ?_
          refine Gq.val rfl rfl rfl (val_move rfl rfl) ?_
          refine Gq.val rfl rfl rfl (val_move rfl rfl) ?_
          refine Gq.val rfl rfl rfl (val_sub rfl rfl rfl (r := ((k - 1 : Nat) : Int)) (w64 (by omega) (by omega))) ?_
          refine Gq.val rfl rfl rfl (val_ixa rfl Try.underlying25 Try.ty59 rfl rfl (j := k - 1) (rfl) (reach_own (k := 0) rfl hxk)) ?_
          refine Gq.val rfl rfl rfl (Val.cast (val_loadA rfl Try.ty59 rfl rfl rfl (cells_own (sz := 3) (j := k - 1) (k := 0) rfl hxk)) (v' := .agg #[.int .i64 xk.1.item, .int .i64 xk.1.who, .int .i64 xk.1.n]) rfl) ?_
          refine Gq.val rfl rfl rfl (val_callV (vs := [.agg #[.int .i64 yk.1.item, .int .i64 yk.1.who, .int .i64 yk.1.n], .agg #[.int .i64 xk.1.item, .int .i64 xk.1.who, .int .i64 xk.1.n]]) (fs := []) (cs := []) rfl Try.fn26 rfl rfl (fun w H => dots_any yk.1 xk.1)) ?_
          refine Gq.val rfl rfl rfl (Val.cast (val_lss rfl rfl rfl) (v' := .bool (decide (kK yk < kK xk))) (congrArg Value.bool (decide_eq_decide.2 kK_lt))) ?_
          refine Gq.val rfl rfl rfl (val_notD rfl rfl) ?_
          refine Gq.done ?_
          refine Gx.thenN ?_
          refine Gx.dec rfl (fun h29 => ?_) (fun h29 => ?_)
          · refine Gx.exit ?_
            refine Gx.thenE ?_
            refine Gx.blkO rfl ?_
            refine Gx.thenE ?_
            refine Gx.thenE ?_
            refine Gx.blkE ?_
            refine Gx.blkN ?_
            refine Gx.thenN ?_
            refine Gx.region ?_
            refine Gx.val rfl rfl rfl (val_move rfl rfl) ?_
            refine Gx.val rfl rfl rfl (val_add rfl rfl rfl (r := ((jc + 1 : Nat) : Int)) (w64 (by omega) (by omega))) ?_
            refine Gx.val rfl rfl rfl (val_assign rfl rfl) ?_
            refine Gx.done ?_
            refine Gx.thenN ?_
            exact Gx.round (jc + 1, iq, M3) ⟨by first | omega | (dsimp only; omega), by first | omega | (dsimp only; omega), by first | omega | (dsimp only; omega), hsh3, hS3⟩ (by first | omega | (dsimp only; omega)) ((.cons rfl (.cons rfl (.cons rfl (.cons rfl (.cons rfl (.cons rfl .nil))))))) rfl
          refine Gx.skip ?_
          refine Gx.thenN ?_
          refine Gx.regionO (fun j => j == 15) 17 [0, 1, 2, 3, 4, 5, 6, 7, 8, 9, 10, 11, 12, 13, 14, 15, 16] (fun us => match us with | [] => [Hp.own FK 3 v M3, R] | u1 :: _ => [Hp.own FK 3 v (M3.set k xk), R]) Try.mixed (by kernel_rfl) rfl ?_
          refine Gw.val rfl rfl rfl rfl rfl (fun us => val_move rfl rfl) ?_
          refine Gw.val rfl rfl rfl rfl rfl (fun us => val_move rfl rfl) ?_
          refine Gw.val rfl rfl rfl rfl rfl (fun us => val_move rfl rfl) ?_
          refine Gw.val rfl rfl rfl rfl rfl (fun us => val_move rfl rfl) ?_
          refine Gw.val rfl rfl rfl rfl rfl (fun us => val_sub rfl rfl rfl (r := ((k - 1 : Nat) : Int)) (w64 (by omega) (by omega))) ?_
          refine Gw.val rfl rfl rfl rfl rfl (fun us => val_move rfl rfl) ?_
          refine Gw.val rfl rfl rfl rfl rfl (fun us => val_move rfl rfl) ?_
          refine Gw.val rfl rfl rfl rfl rfl (fun us => val_sub rfl rfl rfl (r := ((k - 1 : Nat) : Int)) (w64 (by omega) (by omega))) ?_
          refine Gw.val0 rfl rfl rfl (by kernel_rfl) rfl rfl (val_ixa rfl Try.underlying25 Try.ty59 rfl rfl (j := k - 1) (rfl) (reach_own (k := 0) rfl hxk)) ?_
          refine Gw.val0 rfl rfl rfl (by kernel_rfl) rfl rfl (Val.cast (val_loadA rfl Try.ty59 rfl rfl rfl (cells_own (sz := 3) (j := k - 1) (k := 0) rfl hxk)) (v' := .agg #[.int .i64 xk.1.item, .int .i64 xk.1.who, .int .i64 xk.1.n]) rfl) ?_
          refine Gw.val rfl rfl rfl rfl rfl (fun us => val_move rfl rfl) ?_
          refine Gw.val rfl rfl rfl rfl rfl (fun us => val_move rfl rfl) ?_
          obtain ⟨x30, hx30⟩ := get_of_lt (xs := M3.set k xk) (k := k) (by first | omega | (simp; omega))
          refine Gw.val rfl rfl rfl rfl rfl (fun us => match us with | [] => val_ixa rfl Try.underlying25 Try.ty59 rfl rfl (j := k) (rfl) (reach_own (k := 0) rfl hyk) | u1 :: _ => val_ixa rfl Try.underlying25 Try.ty59 rfl rfl (j := k) (rfl) (reach_own (k := 0) rfl hx30)) ?_
          refine Gw.val0 rfl rfl rfl (by kernel_rfl) rfl rfl (Val.cast (val_loadA rfl Try.ty59 rfl rfl rfl (cells_own (k := 0) rfl hyk)) (v' := .agg #[.int .i64 yk.1.item, .int .i64 yk.1.who, .int .i64 yk.1.n]) rfl) ?_
          refine Gw.val0 rfl rfl rfl (by kernel_rfl) rfl rfl (val_ixa rfl Try.underlying25 Try.ty59 rfl rfl (j := k) (rfl) (reach_own (k := 0) rfl hyk)) ?_
          refine Gw.chg0 rfl rfl rfl rfl (Eff.mono (eff_storeElA xk rfl Try.ty59 rfl rfl rfl FK_one (k := 0) rfl FK_len hyk (l' := [Hp.own FK 3 v (M3.set k xk), R]) rfl) (fun _ _ h => congrArg sep h)) (fun _ => ?_)
          obtain ⟨x31, hx31⟩ := get_of_lt (xs := M3.set k xk) (k := k - 1) (by first | omega | (simp; omega))
          refine Gw.val0 rfl rfl rfl (by kernel_rfl) rfl rfl (val_ixa rfl Try.underlying25 Try.ty59 rfl rfl (j := k - 1) (rfl) (reach_own (k := 0) rfl hx31)) ?_
          refine Gw.done ?_
          refine Gx.norm (l' := [Hp.own FK 3 v (M3.set k xk), R]) rfl ?_
          refine Gx.eff0 rfl rfl (eff_storeElA yk rfl Try.ty59 rfl rfl rfl FK_one (k := 0) rfl FK_len hx31 (l' := [Hp.own FK 3 v ((M3.set k xk).set (k - 1) yk), R]) rfl) ?_
          rintro _ _ rfl
          refine Gx.done ?_
          refine Gx.blkN ?_
          refine Gx.thenN ?_
          refine Gx.region ?_
          refine Gx.val rfl rfl rfl (val_move rfl rfl) ?_
          refine Gx.val rfl rfl rfl (val_add rfl rfl rfl (r := ((k + 1 : Nat) : Int)) (w64 (by omega) (by omega))) ?_
          refine Gx.val rfl rfl rfl (val_assign rfl rfl) ?_
          refine Gx.done ?_
          refine Gx.thenN ?_
          exact Gx.round (k + 1, (M3.set k xk).set (k - 1) yk) ⟨by first | omega | (dsimp only; omega), by first | omega | (dsimp only; omega), Sh.swap hsh3 (by omega) (by omega) (by omega) (by omega) hyk hxk, Srt.sh hS3 (Sh.swap (a := iq) (b := b) (.refl _) (by omega) (by omega) (by omega) (by omega) hyk hxk) (.inr (Nat.le_refl _))⟩ (by first | omega | (dsimp only; omega)) ((.cons rfl (.cons rfl (.cons rfl (.cons rfl (.cons rfl (.cons rfl (.cons rfl .nil)))))))) rfl
        refine Gx.exit ?_
        refine Gx.thenE ?_
        refine Gx.thenE ?_
        refine Gx.blkE ?_
        refine Gx.blkN ?_
        refine Gx.thenN ?_
        refine Gx.region ?_
        refine Gx.val rfl rfl rfl (val_move rfl rfl) ?_
        refine Gx.val rfl rfl rfl (val_add rfl rfl rfl (r := ((jc + 1 : Nat) : Int)) (w64 (by omega) (by omega))) ?_
        refine Gx.val rfl rfl rfl (val_assign rfl rfl) ?_
        refine Gx.done ?_
        refine Gx.thenN ?_
        exact Gx.round (jc + 1, iq, M3) ⟨by first | omega | (dsimp only; omega), by first | omega | (dsimp only; omega), by first | omega | (dsimp only; omega), hsh3, hS3⟩ (by first | omega | (dsimp only; omega)) ((.cons rfl (.cons rfl (.cons rfl (.cons rfl (.cons rfl (.cons rfl .nil))))))) rfl
      refine Gx.skip ?_
      refine Gx.blkN ?_
      refine Gx.thenN ?_
      refine Gx.region ?_
      refine Gx.val rfl rfl rfl (val_move rfl rfl) ?_
      refine Gx.val rfl rfl rfl (val_add rfl rfl rfl (r := ((jc + 1 : Nat) : Int)) (w64 (by omega) (by omega))) ?_
      refine Gx.val rfl rfl rfl (val_assign rfl rfl) ?_
      refine Gx.done ?_
      refine Gx.thenN ?_
      exact Gx.round (jc + 1, iq, (L.set iq x).set (iq - 1) y) ⟨by first | omega | (dsimp only; omega), by first | omega | (dsimp only; omega), by first | omega | (dsimp only; omega), hsh1, hS⟩ (by first | omega | (dsimp only; omega)) ((.cons rfl (.cons rfl (.cons rfl (.cons rfl (.cons rfl (.cons rfl .nil))))))) rfl
    refine Gq.skipg rfl rfl rfl rfl rfl rfl ?_
    refine Gq.skipg rfl rfl rfl rfl rfl rfl ?_
    refine Gq.skipg rfl rfl rfl rfl rfl rfl ?_
    refine Gq.skipg rfl rfl rfl rfl rfl rfl ?_
    refine Gq.skipg rfl rfl rfl rfl rfl rfl ?_
    refine Gq.skipg rfl rfl rfl rfl rfl rfl ?_
    refine Gq.skipg rfl rfl rfl rfl rfl rfl ?_
    refine Gq.skipg rfl rfl rfl rfl rfl rfl ?_
    refine Gq.skipg rfl rfl rfl rfl rfl rfl ?_
    refine Gq.skipg rfl rfl rfl rfl rfl rfl ?_
    refine Gq.skipg rfl rfl rfl rfl rfl rfl ?_
    refine Gq.skipg rfl rfl rfl rfl rfl rfl ?_
    refine Gq.skipg rfl rfl rfl rfl rfl rfl ?_
    refine Gq.val rfl rfl rfl (val_pickF rfl rfl rfl) ?_
    refine Gq.done ?_
    refine Gx.thenN ?_
    refine Gx.f rfl ?_
    refine Gx.exit ?_
    refine Gx.thenE ?_
    refine Gx.thenE ?_
    refine Gx.blkE ?_
    refine Gx.thenN ?_
    refine Gx.seq ?_
    refine Gx.seq ?_
    have hbq : iq = b ∨ iq < b := by omega
    refine Gx.region ?_
    refine Gx.val rfl rfl rfl (val_move rfl rfl) ?_
    refine Gx.val rfl rfl rfl (val_move rfl rfl) ?_
    refine Gx.val rfl rfl rfl (val_eql rfl rfl rfl) ?_
    refine Gx.done ?_
    refine Gx.thenN ?_
    refine Gx.decT rfl (by omega) ?_
    refine Gx.seq ?_
    refine Gx.region ?_
    refine Gx.val rfl rfl rfl (val_assign rfl rfl) ?_
    refine Gx.done ?_
    refine Gx.thenN ?_
    refine Gx.ret ?_
    refine Gx.thenR ?_
    refine Gx.blkR ?_
    refine Gx.thenR ?_
    refine Gx.thenR ?_
    refine Gx.blkR ?_
    refine Gx.thenR ?_
    have hSb : Srt a b L := by
      obtain rfl : iq = b := by omega
      exact hsq
    refine Gx.ret1 Try.results55 rfl ?_
    exact ⟨_, true, hsh, fun _ => hSb, rfl, sep1 _ _⟩
  refine Gx.exit ?_
  refine Gx.thenE ?_
  refine Gx.thenE ?_
  refine Gx.blkE ?_
  refine Gx.thenN ?_
  refine Gx.seq ?_
  refine Gx.region ?_
  refine Gx.val rfl rfl rfl (val_assign rfl rfl) ?_
  refine Gx.done ?_
  refine Gx.thenN ?_
  refine Gx.ret ?_
  refine Gx.ret1 Try.results55 rfl ?_
  exact ⟨_, false, hsh, fun h => (by cases h), rfl, sep1 _ _⟩

end Go.Proofs.Ytfpkfbffpkjgbaa
