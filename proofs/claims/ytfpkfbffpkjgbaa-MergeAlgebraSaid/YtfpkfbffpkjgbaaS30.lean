/- The library's sort, whole. The walk. No condition. -/
import Derived.Test.YtfpkfbffpkjgbaaS29
namespace Go.Proofs.Ytfpkfbffpkjgbaa
open Go.RowKit
set_option linter.unusedVariables false
set_option linter.unusedSimpArgs false
set_option maxRecDepth 100000

/-- on the way: what is left is [a', b') -/
structure PS (a b a' b' : Nat) (xs L : List Dk) : Prop where
  sh : Sh a b xs L
  le1 : a ≤ a'
  le2 : a' ≤ b'
  le3 : b' ≤ b
  lo : Srt a a' L
  hi : Srt b' b L
  lc : ∀ p q x y, a ≤ p → p < a' → a' ≤ q → q < b → L[p]? = some x → L[q]? = some y → kK x ≤ kK y
  rc : ∀ p q x y, a ≤ p → p < b' → b' ≤ q → q < b → L[p]? = some x → L[q]? = some y → kK x ≤ kK y
section
variable {a b a' b' : Nat} {xs L M : List Dk}
theorem PS.start (h : a ≤ b) : PS a b a b xs xs := ⟨.refl _, Nat.le_refl _, h, Nat.le_refl _, fun p q x y h0 h1 h2 => by omega, fun p q x y h0 h1 h2 => by omega, fun p q x y h0 h1 => by omega, fun p q x y h0 h1 h2 h3 => by omega⟩
theorem PS.bel (h : PS a b a' b' xs L) (hB : Bel a b xs) : Bel a' b' L := fun i x y h0 h1 h2 hx hy => by
  by_cases e : a' = a
  · subst e; exact (hB.sh h.sh) i x y h0 h1 (by have := h.le3; omega) hx hy
  · have := h.le1; have := h.le3
    exact h.lc (a' - 1) i x y (by omega) (by omega) h1 (by omega) hx hy
theorem PS.sub (h : PS a b a' b' xs L) (hs : Sh a' b' L M) : PS a b a' b' xs M := by
  have h1 := h.le1; have h2 := h.le2; have h3 := h.le3
  refine ⟨h.sh.trans (hs.mono h1 h3), h1, h2, h3, h.lo.sh hs (.inr (Nat.le_refl _)), h.hi.sh hs (.inl (Nat.le_refl _)), fun p q x y q0 q1 q2 q3 hp hq => ?_, fun p q x y q0 q1 q2 q3 hp hq => ?_⟩
  · rw [hs.out (by omega)] at hp
    by_cases e : q < b'
    · obtain ⟨j, j1, j2, j3⟩ := hs.inn (i := q) q2 e
      exact h.lc p j x y q0 q1 j1 (by omega) hp (by rw [← j3]; exact hq)
    · rw [hs.out (by omega)] at hq
      exact h.lc p q x y q0 q1 q2 q3 hp hq
  · rw [hs.out (by omega)] at hq
    by_cases e : p < a'
    · rw [hs.out (by omega)] at hp
      exact h.rc p q x y q0 q1 q2 q3 hp hq
    · obtain ⟨j, j1, j2, j3⟩ := hs.inn (i := p) (by omega) q1
      exact h.rc j q x y (by omega) (by omega) q2 q3 (by rw [← j3]; exact hp) hq
theorem PS.done (h : PS a b a' b' xs L) (hs : Srt a' b' L) : Srt a b L := by
  have h1 := h.le1; have h2 := h.le2; have h3 := h.le3
  refine (h.lo.join hs (fun p q x y q0 q1 q2 q3 => h.lc p q x y q0 q1 q2 (by omega))).join h.hi (fun p q x y q0 q1 q2 q3 => h.rc p q x y q0 q1 q2 q3)
/-- a place whose left are below, whose right are above: the left in order -/
theorem PS.left (h : PS a b a' b' xs L) {m : Nat} {pv : Dk} (hm1 : a' ≤ m) (hm2 : m < b') (hpv : L[m]? = some pv) (hlt : All (fun z => kK z < kK pv) a' m L) (hge : All (fun z => kK pv ≤ kK z) (m + 1) b' L) (hs : Srt a' m L) : PS a b (m + 1) b' xs L := by
  have h1 := h.le1; have h2 := h.le2; have h3 := h.le3
  have hx : ∀ p q x y, a' ≤ p → p < m + 1 → m + 1 ≤ q → q < b' → L[p]? = some x → L[q]? = some y → kK x ≤ kK y := fun p q x y q0 q1 q2 q3 hp hq => by
    have g := hge q y q2 q3 hq
    by_cases e : p = m
    · subst e; rw [hpv] at hp; cases hp; exact g
    · have := hlt p x q0 (by omega) hp
      (try dsimp only at this g); omega
  refine ⟨h.sh, by omega, by omega, h3, ?_, h.hi, fun p q x y q0 q1 q2 q3 hp hq => ?_, h.rc⟩
  · refine h.lo.join (m := a') (fun p q x y q0 q1 q2 hp hq => ?_) (fun p q x y q0 q1 q2 q3 => h.lc p q x y q0 q1 q2 (by omega))
    by_cases e : q = m
    · subst e; rw [hpv] at hq; cases hq
      have := hlt p x q0 q1 hp
      (try dsimp only at this); omega
    · exact hs p q x y q0 q1 (by omega) hp hq
  · by_cases e : p < a'
    · exact h.lc p q x y q0 e (by omega) q3 hp hq
    · by_cases e2 : q < b'
      · exact hx p q x y (by omega) q1 q2 e2 hp hq
      · exact h.rc p q x y q0 (by omega) (by omega) q3 hp hq
theorem PS.right (h : PS a b a' b' xs L) {m : Nat} {pv : Dk} (hm1 : a' ≤ m) (hm2 : m < b') (hpv : L[m]? = some pv) (hlt : All (fun z => kK z < kK pv) a' m L) (hge : All (fun z => kK pv ≤ kK z) (m + 1) b' L) (hs : Srt (m + 1) b' L) : PS a b a' m xs L := by
  have h1 := h.le1; have h2 := h.le2; have h3 := h.le3
  refine ⟨h.sh, h1, hm1, by omega, h.lo, ?_, h.lc, fun p q x y q0 q1 q2 q3 hp hq => ?_⟩
  · refine Srt.join (m := b') (fun p q x y q0 q1 q2 hp hq => ?_) h.hi (fun p q x y q0 q1 q2 q3 => h.rc p q x y (by omega) q1 q2 q3)
    by_cases e : p = m
    · subst e; rw [hpv] at hp; cases hp
      exact hge q y (by omega) q2 hq
    · exact hs p q x y (by omega) q1 q2 hp hq
  · by_cases e2 : q < b'
    · by_cases e : p < a'
      · exact h.lc p q x y q0 e (by omega) q3 hp hq
      · have g := hlt p x (by omega) q1 hp
        by_cases e3 : q = m
        · subst e3; rw [hpv] at hq; cases hq; (try dsimp only at g); omega
        · have := hge q y (by omega) e2 hq
          (try dsimp only at this g); omega
    · exact h.rc p q x y q0 (by omega) (by omega) q3 hp hq
/-- all that are not above the one ahead stand first -/
theorem PS.eq (h : PS a b a' b' xs L) (hB : Bel a b xs) {m : Nat} {pv x0 : Dk} (hm1 : a' + 1 ≤ m) (hm2 : m ≤ b') (h0 : 0 < a') (hx0 : L[a' - 1]? = some x0) (hle : ¬ kK x0 < kK pv) (hlt : All (fun z => ¬ kK pv < kK z) a' m L) (hge : All (fun z => kK pv < kK z) m b' L) : PS a b m b' xs L := by
  have h1 := h.le1; have h2 := h.le2; have h3 := h.le3
  have hbel := h.bel hB
  have heq : ∀ p x, a' ≤ p → p < m → L[p]? = some x → kK x = kK pv := fun p x q0 q1 hp => by
    have g1 := hlt p x q0 q1 hp
    have g2 := hbel p x0 x h0 q0 (by omega) hx0 hp
    (try dsimp only at g1); omega
  refine ⟨h.sh, by omega, hm2, h3, ?_, h.hi, fun p q x y q0 q1 q2 q3 hp hq => ?_, h.rc⟩
  · refine h.lo.join (m := a') (fun p q x y q0 q1 q2 hp hq => ?_) (fun p q x y q0 q1 q2 q3 => h.lc p q x y q0 q1 q2 (by omega))
    rw [heq p x q0 (by omega) hp, heq q y (by omega) q2 hq]; exact Int.le_refl _
  · by_cases e : p < a'
    · exact h.lc p q x y q0 e (by omega) q3 hp hq
    · by_cases e2 : q < b'
      · have g := hge q y q2 e2 hq
        have := heq p x (by omega) q1 hp
        (try dsimp only at g); omega
      · exact h.rc p q x y q0 (by omega) (by omega) q3 hp hq
theorem Bel.mono {m : Nat} (h : Bel a b L) (hm : m ≤ b) : Bel a m L := fun i x y h0 h1 h2 => h i x y h0 h1 (by omega)
theorem Bel.at_ {m : Nat} {pv : Dk} (hpv : L[m]? = some pv) (hge : All (fun z => kK pv ≤ kK z) (m + 1) b L) : Bel (m + 1) b L := fun i x y h0 h1 h2 hx hy => by
  rw [show m + 1 - 1 = m from rfl, hpv] at hx; cases hx
  exact hge i y h1 h2 hy
end
set_option maxHeartbeats 8000000 in
theorem pdq_any : ∀ (N : Nat) {W w : World} {v : Value} {xs : List Dk} {R : Hp} {a b limit : Nat} (hN : b - a < N) (hab : a ≤ b) (hb : b ≤ xs.length) (hl : xs.length ≤ 65000) (hlim : limit ≤ 1000) (hB : Bel a b xs) (H : Sat W w (Hp.own FK 3 v xs * R)),
    Calls Try.prog 48 #[v, .int .i64 ((a : Nat) : Int), .int .i64 ((b : Nat) : Int), .int .i64 ((limit : Nat) : Int), .func (.func 26) #[] #[]] w (Ret W fun u l => ∃ ys, Sh a b xs ys ∧ Srt a b ys ∧ u = .tuple #[] ∧ sep l = Hp.own FK 3 v ys * R) := by
  intro N
  induction N with
  | zero => intro W w v xs R a b limit hN; omega
  | succ N ih0 =>
    intro W w v xs R a b limit hN hab hb hl hlim hB H
    have ih : ∀ {w : World} {xs : List Dk} {a b limit : Nat} (hN : b - a < N) (hab : a ≤ b) (hb : b ≤ xs.length) (hl : xs.length ≤ 65000) (hlim : limit ≤ 1000) (hB : Bel a b xs) {R : Hp} (H : Sat W w (Hp.own FK 3 v xs * R)),
      Calls Try.prog 48 #[v, .int .i64 ((a : Nat) : Int), .int .i64 ((b : Nat) : Int), .int .i64 ((limit : Nat) : Int), .func (.func 26) #[] #[]] w (Ret W fun u l => ∃ ys, Sh a b xs ys ∧ Srt a b ys ∧ u = .tuple #[] ∧ sep l = Hp.own FK 3 v ys * R) := fun h1 h2 h3 h4 h5 h6 R h7 => ih0 h1 h2 h3 h4 h5 h6 h7
    refine Gx.enter (l := [Hp.own FK 3 v xs, R]) Try.func48 rfl Try.ntmps48 rfl (H.frame1) ?_
    refine Gx.know (m' := [(0, v), (1, .int .i64 ((a : Nat) : Int)), (2, .int .i64 ((b : Nat) : Int)), (3, .int .i64 ((limit : Nat) : Int)), (4, .func (.func 26) #[] #[])]) (.cons rfl (.cons rfl (.cons rfl (.cons rfl (.cons rfl .nil))))) ?_
    refine Gx.seq ?_
    refine Gx.region ?_
    refine Gx.val rfl rfl rfl (val_assign rfl rfl) ?_
    refine Gx.done ?_
    refine Gx.thenN ?_
    refine Gx.seq ?_
    refine Gx.region ?_
    refine Gx.val rfl rfl rfl (val_assign rfl rfl) ?_
    refine Gx.done ?_
    refine Gx.thenN ?_
    refine Gx.block ?_
    refine Gx.loop (ι := Nat × Nat × Nat × Bool × Bool × (List Dk)) (fun ξ => (ξ.2.2.1 ≤ 1000) ∧ (PS a b ξ.1 ξ.2.1 xs ξ.2.2.2.2.2)) (fun ξ => [(0, v), (1, .int .i64 ((ξ.1 : Nat) : Int)), (2, .int .i64 ((ξ.2.1 : Nat) : Int)), (3, .int .i64 ((ξ.2.2.1 : Nat) : Int)), (4, .func (.func 26) #[] #[]), (10, .bool ξ.2.2.2.1), (11, .bool ξ.2.2.2.2.1)]) (fun ξ => [Hp.own FK 3 v ξ.2.2.2.2.2, R]) (fun ξ => ξ.2.1 - ξ.1) (a, b, limit, true, true, xs) ⟨by first | omega | (dsimp only; omega), PS.start hab⟩ ((.cons rfl (.cons rfl (.cons rfl (.cons rfl (.cons rfl (.cons rfl (.cons rfl .nil)))))))) rfl ?_
    rintro ⟨a1, b1, li, wb, wp, L⟩ ⟨hli, hps⟩
    dsimp only at hli hps
    refine Gx.know (m' := [(0, v), (1, .int .i64 ((a1 : Nat) : Int)), (2, .int .i64 ((b1 : Nat) : Int)), (3, .int .i64 ((li : Nat) : Int)), (4, .func (.func 26) #[] #[]), (10, .bool wb), (11, .bool wp)]) (.cons rfl (.cons rfl (.cons rfl (.cons rfl (.cons rfl (.cons rfl (.cons rfl .nil))))))) (Gx.norm (l' := [Hp.own FK 3 v L, R]) rfl ?_)
    have hp1 := hps.le1
    have hp2 := hps.le2
    have hp3 := hps.le3
    have hpl := hps.sh.len
    refine Gx.block ?_
    refine Gx.seq ?_
    refine Gx.region ?_
    refine Gx.val rfl rfl rfl (val_move rfl rfl) ?_
    refine Gx.val rfl rfl rfl (val_move rfl rfl) ?_
    refine Gx.val rfl rfl rfl (val_sub rfl rfl rfl (r := ((b1 - a1 : Nat) : Int)) (w64 (by omega) (by omega))) ?_
    refine Gx.val rfl rfl rfl (val_assign rfl rfl) ?_
    refine Gx.done ?_
    refine Gx.thenN ?_
    refine Gx.seq ?_
    refine Gx.seq ?_
    refine Gx.region ?_
    refine Gx.val rfl rfl rfl (val_move rfl rfl) ?_
    refine Gx.val rfl rfl rfl (val_leq rfl rfl rfl) ?_
    refine Gx.done ?_
    refine Gx.thenN ?_
    refine Gx.dec rfl (fun h1 => ?_) (fun h1 => ?_)
    · refine Gx.seq ?_
      refine Gx.region ?_
      refine Gx.val rfl rfl rfl (val_move rfl rfl) ?_
      refine Gx.val rfl rfl rfl (val_move rfl rfl) ?_
      refine Gx.val rfl rfl rfl (val_move rfl rfl) ?_
      refine Gx.val rfl rfl rfl (val_move rfl rfl) ?_
      refine Gx.eff rfl rfl rfl (eff_call (vs := [v, .int .i64 ((a1 : Nat) : Int), .int .i64 ((b1 : Nat) : Int), .func (.func 26) #[] #[]]) rfl Try.fn50 rfl (fun w H => ins_any (a := a1) (b := b1) (by omega) (by have := hps.sh.len; omega) (by have := hps.sh.len; omega) (H.at_ (k := 0) rfl))) ?_
      rintro _ l5 ⟨ys2, hsy3, hsr4, rfl, hl5⟩
      refine Gx.sepEq (l' := [Hp.own FK 3 v ys2, R]) hl5 ?_
      refine Gx.done ?_
      refine Gx.thenN ?_
      refine Gx.ret ?_
      refine Gx.thenR ?_
      refine Gx.blkR ?_
      refine Gx.thenR ?_
      refine Gx.blkR ?_
      refine Gx.ret0 Try.results48 ?_
      exact ⟨_, (hps.sub hsy3).sh, (hps.sub hsy3).done hsr4, rfl, sep1 _ _⟩
    refine Gx.skip ?_
    refine Gx.thenN ?_
    refine Gx.seq ?_
    refine Gx.seq ?_
    refine Gx.region ?_
    refine Gx.val rfl rfl rfl (val_move rfl rfl) ?_
    refine Gx.val rfl rfl rfl (val_eql rfl rfl rfl) ?_
    refine Gx.done ?_
    refine Gx.thenN ?_
    refine Gx.dec rfl (fun h6 => ?_) (fun h6 => ?_)
    · refine Gx.seq ?_
      refine Gx.region ?_
      refine Gx.val rfl rfl rfl (val_move rfl rfl) ?_
      refine Gx.val rfl rfl rfl (val_move rfl rfl) ?_
      refine Gx.val rfl rfl rfl (val_move rfl rfl) ?_
      refine Gx.val rfl rfl rfl (val_move rfl rfl) ?_
      refine Gx.eff rfl rfl rfl (eff_call (vs := [v, .int .i64 ((a1 : Nat) : Int), .int .i64 ((b1 : Nat) : Int), .func (.func 26) #[] #[]]) rfl Try.fn51 rfl (fun w H => heap_any (a := a1) (b := b1) (by omega) (by have := hps.sh.len; omega) (by have := hps.sh.len; omega) (H.at_ (k := 0) rfl))) ?_
      rintro _ l10 ⟨ys7, hsy8, hsr9, rfl, hl10⟩
      refine Gx.sepEq (l' := [Hp.own FK 3 v ys7, R]) hl10 ?_
      refine Gx.done ?_
      refine Gx.thenN ?_
      refine Gx.ret ?_
      refine Gx.thenR ?_
      refine Gx.blkR ?_
      refine Gx.thenR ?_
      refine Gx.blkR ?_
      refine Gx.ret0 Try.results48 ?_
      exact ⟨_, (hps.sub hsy8).sh, (hps.sub hsy8).done hsr9, rfl, sep1 _ _⟩
    refine Gx.skip ?_
    refine Gx.thenN ?_
    refine Gx.meet (ι := Nat × (List Dk)) (fun ξ => (ξ.1 ≤ 1000) ∧ (PS a b a1 b1 xs ξ.2)) (fun ξ => [(0, v), (1, .int .i64 ((a1 : Nat) : Int)), (2, .int .i64 ((b1 : Nat) : Int)), (4, .func (.func 26) #[] #[]), (10, .bool wb), (11, .bool wp), (12, .int .i64 ((b1 - a1 : Nat) : Int)), (3, .int .i64 ((ξ.1 : Nat) : Int))]) (fun ξ => [Hp.own FK 3 v ξ.2, R]) ?_ ?_
    · refine Gx.seq ?_
      refine Gx.region ?_
      refine Gx.val rfl rfl rfl (val_move rfl rfl) ?_
      refine Gx.val rfl rfl rfl (val_not rfl rfl) ?_
      refine Gx.done ?_
      refine Gx.thenN ?_
      refine Gx.bool rfl (fun h11 => ?_) (fun h11 => ?_)
      · refine Gx.seq ?_
        refine Gx.region ?_
        refine Gx.val rfl rfl rfl (val_move rfl rfl) ?_
        refine Gx.val rfl rfl rfl (val_move rfl rfl) ?_
        refine Gx.val rfl rfl rfl (val_move rfl rfl) ?_
        refine Gx.val rfl rfl rfl (val_move rfl rfl) ?_
        refine Gx.eff rfl rfl rfl (eff_call (vs := [v, .int .i64 ((a1 : Nat) : Int), .int .i64 ((b1 : Nat) : Int), .func (.func 26) #[] #[]]) rfl Try.fn52 rfl (fun w H => brk_any (a := a1) (b := b1) (by omega) (by have := hps.sh.len; omega) (by have := hps.sh.len; omega) (H.at_ (k := 0) rfl))) ?_
        rintro _ l14 ⟨ys12, hsy13, rfl, hl14⟩
        refine Gx.sepEq (l' := [Hp.own FK 3 v ys12, R]) hl14 ?_
        refine Gx.done ?_
        refine Gx.thenN ?_
        refine Gx.region ?_
        refine Gx.val rfl rfl rfl (val_move rfl rfl) ?_
        refine Gx.val rfl rfl rfl (val_sub rfl rfl rfl (r := ((li - 1 : Nat) : Int)) (w64 (by omega) (by omega))) ?_
        refine Gx.val rfl rfl rfl (val_assign rfl rfl) ?_
        refine Gx.done ?_
        refine Gx.thenN ?_
        exact Gx.fam (li - 1, ys12) ⟨by first | omega | (dsimp only; omega), (hps.sub hsy13)⟩ ((.cons rfl (.cons rfl (.cons rfl (.cons rfl (.cons rfl (.cons rfl (.cons rfl (.cons rfl .nil))))))))) rfl
      refine Gx.skip ?_
      refine Gx.thenN ?_
      exact Gx.fam (li, L) ⟨by first | omega | (dsimp only; omega), hps⟩ ((.cons rfl (.cons rfl (.cons rfl (.cons rfl (.cons rfl (.cons rfl (.cons rfl (.cons rfl .nil))))))))) rfl
    rintro ⟨li2, L2⟩ ⟨hli2, hps2⟩
    dsimp only at hli2 hps2
    refine Gx.know (m' := [(0, v), (1, .int .i64 ((a1 : Nat) : Int)), (2, .int .i64 ((b1 : Nat) : Int)), (4, .func (.func 26) #[] #[]), (10, .bool wb), (11, .bool wp), (12, .int .i64 ((b1 - a1 : Nat) : Int)), (3, .int .i64 ((li2 : Nat) : Int))]) (.cons rfl (.cons rfl (.cons rfl (.cons rfl (.cons rfl (.cons rfl (.cons rfl (.cons rfl .nil)))))))) (Gx.norm (l' := [Hp.own FK 3 v L2, R]) rfl ?_)
    have hpl2 := hps2.sh.len
    refine Gx.seq ?_
    refine Gx.region ?_
    refine Gx.val rfl rfl rfl (val_move rfl rfl) ?_
    refine Gx.val rfl rfl rfl (val_move rfl rfl) ?_
    refine Gx.val rfl rfl rfl (val_move rfl rfl) ?_
    refine Gx.val rfl rfl rfl (val_move rfl rfl) ?_
    refine Gx.eff rfl rfl rfl (eff_call (vs := [v, .int .i64 ((a1 : Nat) : Int), .int .i64 ((b1 : Nat) : Int), .func (.func 26) #[] #[]]) rfl Try.fn53 rfl (fun w H => pivot_any (a := a1) (b := b1) (by omega) (by have := hps2.sh.len; omega) (by have := hps2.sh.len; omega) (H.at_ (k := 0) rfl))) ?_
    rintro _ l21 ⟨p17, hh18, hp19, hq20, rfl, hl21⟩
    refine Gx.sepEq (l' := [Hp.own FK 3 v L2, R]) hl21 ?_
    refine Gx.val rfl rfl rfl (val_move rfl rfl) ?_
    refine Gx.val rfl rfl rfl (val_extract rfl rfl rfl) ?_
    refine Gx.val rfl rfl rfl (val_extract rfl rfl rfl) ?_
    refine Gx.val rfl rfl rfl (val_assign rfl rfl) ?_
    refine Gx.val rfl rfl rfl (val_assign rfl rfl) ?_
    refine Gx.done ?_
    refine Gx.thenN ?_
    refine Gx.meet (ι := Nat × Int × (List Dk)) (fun ξ => (a1 ≤ ξ.1) ∧ (ξ.1 < b1) ∧ (PS a b a1 b1 xs ξ.2.2)) (fun ξ => [(0, v), (1, .int .i64 ((a1 : Nat) : Int)), (2, .int .i64 ((b1 : Nat) : Int)), (3, .int .i64 ((li2 : Nat) : Int)), (4, .func (.func 26) #[] #[]), (10, .bool wb), (11, .bool wp), (12, .int .i64 ((b1 - a1 : Nat) : Int)), (13, .int .i64 ((ξ.1 : Nat) : Int)), (14, .int .i64 ξ.2.1)]) (fun ξ => [Hp.own FK 3 v ξ.2.2, R]) ?_ ?_
    · refine Gx.seq ?_
      refine Gx.region ?_
      refine Gx.val rfl rfl rfl (val_move rfl rfl) ?_
      refine Gx.val rfl rfl rfl (val_eql rfl rfl rfl) ?_
      refine Gx.done ?_
      refine Gx.thenN ?_
      refine Gx.dec rfl (fun h22 => ?_) (fun h22 => ?_)
      · refine Gx.seq ?_
        refine Gx.region ?_
        refine Gx.val rfl rfl rfl (val_move rfl rfl) ?_
        refine Gx.val rfl rfl rfl (val_move rfl rfl) ?_
        refine Gx.val rfl rfl rfl (val_move rfl rfl) ?_
        refine Gx.val rfl rfl rfl (val_move rfl rfl) ?_
        refine Gx.eff rfl rfl rfl (eff_call (vs := [v, .int .i64 ((a1 : Nat) : Int), .int .i64 ((b1 : Nat) : Int), .func (.func 26) #[] #[]]) rfl Try.fn54 rfl (fun w H => rev_any (a := a1) (b := b1) (by omega) (by have := hps2.sh.len; omega) (by have := hps2.sh.len; omega) (H.at_ (k := 0) rfl))) ?_
        rintro _ l25 ⟨ys23, hsy24, rfl, hl25⟩
        refine Gx.sepEq (l' := [Hp.own FK 3 v ys23, R]) hl25 ?_
        refine Gx.done ?_
        refine Gx.thenN ?_
        refine Gx.seq ?_
        refine Gx.region ?_
        refine Gx.val rfl rfl rfl (val_move rfl rfl) ?_
        refine Gx.val rfl rfl rfl (val_sub rfl rfl rfl (r := ((b1 - 1 : Nat) : Int)) (w64 (by omega) (by omega))) ?_
        refine Gx.val rfl rfl rfl (val_move rfl rfl) ?_
        refine Gx.val rfl rfl rfl (val_move rfl rfl) ?_
        refine Gx.val rfl rfl rfl (val_sub rfl rfl rfl (r := ((p17 - a1 : Nat) : Int)) (w64 (by omega) (by omega))) ?_
        refine Gx.val rfl rfl rfl (val_sub rfl rfl rfl (r := ((b1 - 1 - (p17 - a1) : Nat) : Int)) (w64 (by omega) (by omega))) ?_
        refine Gx.val rfl rfl rfl (val_assign rfl rfl) ?_
        refine Gx.done ?_
        refine Gx.thenN ?_
        refine Gx.region ?_
        refine Gx.val rfl rfl rfl (val_assign rfl rfl) ?_
        refine Gx.done ?_
        refine Gx.thenN ?_
        exact Gx.fam (b1 - 1 - (p17 - a1), 1, ys23) ⟨by first | omega | (dsimp only; omega), by first | omega | (dsimp only; omega), (hps2.sub hsy24)⟩ ((.cons rfl (.cons rfl (.cons rfl (.cons rfl (.cons rfl (.cons rfl (.cons rfl (.cons rfl (.cons rfl (.cons rfl .nil))))))))))) rfl
      refine Gx.skip ?_
      refine Gx.thenN ?_
      exact Gx.fam (p17, hh18, L2) ⟨by first | omega | (dsimp only; omega), by first | omega | (dsimp only; omega), hps2⟩ ((.cons rfl (.cons rfl (.cons rfl (.cons rfl (.cons rfl (.cons rfl (.cons rfl (.cons rfl (.cons rfl (.cons rfl .nil))))))))))) rfl
    rintro ⟨p3, h3, L3⟩ ⟨hp31, hp32, hps3⟩
    dsimp only at hp31 hp32 hps3
    refine Gx.know (m' := [(0, v), (1, .int .i64 ((a1 : Nat) : Int)), (2, .int .i64 ((b1 : Nat) : Int)), (3, .int .i64 ((li2 : Nat) : Int)), (4, .func (.func 26) #[] #[]), (10, .bool wb), (11, .bool wp), (12, .int .i64 ((b1 - a1 : Nat) : Int)), (13, .int .i64 ((p3 : Nat) : Int)), (14, .int .i64 h3)]) (.cons rfl (.cons rfl (.cons rfl (.cons rfl (.cons rfl (.cons rfl (.cons rfl (.cons rfl (.cons rfl (.cons rfl .nil)))))))))) (Gx.norm (l' := [Hp.own FK 3 v L3, R]) rfl ?_)
    have hpl3 := hps3.sh.len
    refine Gx.meet (ι := (List Dk)) (fun ξ => (PS a b a1 b1 xs ξ)) (fun ξ => [(0, v), (1, .int .i64 ((a1 : Nat) : Int)), (2, .int .i64 ((b1 : Nat) : Int)), (3, .int .i64 ((li2 : Nat) : Int)), (4, .func (.func 26) #[] #[]), (10, .bool wb), (11, .bool wp), (12, .int .i64 ((b1 - a1 : Nat) : Int)), (13, .int .i64 ((p3 : Nat) : Int))]) (fun ξ => [Hp.own FK 3 v ξ, R]) ?_ ?_
    · refine Gx.seq ?_
      refine Gx.region ?_
      refine Gx.val rfl rfl rfl (val_move rfl rfl) ?_
      refine Gx.val rfl rfl rfl (val_move rfl rfl) ?_
      refine Gx.casesB (t := 69) rfl (fun h26 => ?_) (fun h26 => ?_)
      · refine Gx.valg rfl rfl rfl rfl rfl (val_move rfl rfl) ?_
        refine Gx.val rfl rfl rfl (val_pickT rfl rfl rfl) ?_
        refine Gx.val rfl rfl rfl (val_move rfl rfl) ?_
        refine Gx.casesB (t := 72) rfl (fun h27 => ?_) (fun h27 => ?_)
        · refine Gx.valg rfl rfl rfl rfl rfl (val_move rfl rfl) ?_
          refine Gx.valg rfl rfl rfl rfl rfl (val_eql rfl rfl rfl) ?_
          refine Gx.val rfl rfl rfl (val_pickT rfl rfl rfl) ?_
          refine Gx.done ?_
          refine Gx.thenN ?_
          refine Gx.dec rfl (fun h28 => ?_) (fun h28 => ?_)
          · refine Gx.seq ?_
            refine Gx.region ?_
            refine Gx.val rfl rfl rfl (val_move rfl rfl) ?_
            refine Gx.val rfl rfl rfl (val_move rfl rfl) ?_
            refine Gx.val rfl rfl rfl (val_move rfl rfl) ?_
            refine Gx.val rfl rfl rfl (val_move rfl rfl) ?_
            refine Gx.eff rfl rfl rfl (eff_call (vs := [v, .int .i64 ((a1 : Nat) : Int), .int .i64 ((b1 : Nat) : Int), .func (.func 26) #[] #[]]) rfl Try.fn55 rfl (fun w H => pins_any (a := a1) (b := b1) (by omega) (by have := hps3.sh.len; omega) (by have := hps3.sh.len; omega) (hps3.bel hB) (H.at_ (k := 0) rfl))) ?_
            rintro _ l33 ⟨ys29, al31, hsy30, hal32, rfl, hl33⟩
            refine Gx.sepEq (l' := [Hp.own FK 3 v ys29, R]) hl33 ?_
            refine Gx.done ?_
            refine Gx.thenN ?_
            refine Gx.bool rfl (fun h34 => ?_) (fun h34 => ?_)
            · refine Gx.ret ?_
              refine Gx.thenR ?_
              refine Gx.blkR ?_
              refine Gx.thenR ?_
              refine Gx.blkR ?_
              refine Gx.ret0 Try.results48 ?_
              exact ⟨_, (hps3.sub hsy30).sh, (hps3.sub hsy30).done (hal32 (by assumption)), rfl, sep1 _ _⟩
            refine Gx.skip ?_
            refine Gx.thenN ?_
            exact Gx.fam ys29 ((hps3.sub hsy30)) ((.cons rfl (.cons rfl (.cons rfl (.cons rfl (.cons rfl (.cons rfl (.cons rfl (.cons rfl (.cons rfl .nil)))))))))) rfl
          refine Gx.skip ?_
          refine Gx.thenN ?_
          exact Gx.fam L3 (hps3) ((.cons rfl (.cons rfl (.cons rfl (.cons rfl (.cons rfl (.cons rfl (.cons rfl (.cons rfl (.cons rfl .nil)))))))))) rfl
        refine Gx.skipg rfl rfl rfl rfl rfl rfl ?_
        refine Gx.skipg rfl rfl rfl rfl rfl rfl ?_
        refine Gx.val rfl rfl rfl (val_pickF rfl rfl rfl) ?_
        refine Gx.done ?_
        refine Gx.thenN ?_
        refine Gx.f rfl ?_
        refine Gx.skip ?_
        refine Gx.thenN ?_
        exact Gx.fam L3 (hps3) ((.cons rfl (.cons rfl (.cons rfl (.cons rfl (.cons rfl (.cons rfl (.cons rfl (.cons rfl (.cons rfl .nil)))))))))) rfl
      refine Gx.skipg rfl rfl rfl rfl rfl rfl ?_
      refine Gx.val rfl rfl rfl (val_pickF rfl rfl rfl) ?_
      refine Gx.val rfl rfl rfl (val_move rfl rfl) ?_
      refine Gx.skipg rfl rfl rfl rfl rfl rfl ?_
      refine Gx.skipg rfl rfl rfl rfl rfl rfl ?_
      refine Gx.val rfl rfl rfl (val_pickF rfl rfl rfl) ?_
      refine Gx.done ?_
      refine Gx.thenN ?_
      refine Gx.f rfl ?_
      refine Gx.skip ?_
      refine Gx.thenN ?_
      exact Gx.fam L3 (hps3) ((.cons rfl (.cons rfl (.cons rfl (.cons rfl (.cons rfl (.cons rfl (.cons rfl (.cons rfl (.cons rfl .nil)))))))))) rfl
    rintro L4 hps4
    refine Gx.know (m' := [(0, v), (1, .int .i64 ((a1 : Nat) : Int)), (2, .int .i64 ((b1 : Nat) : Int)), (3, .int .i64 ((li2 : Nat) : Int)), (4, .func (.func 26) #[] #[]), (10, .bool wb), (11, .bool wp), (12, .int .i64 ((b1 - a1 : Nat) : Int)), (13, .int .i64 ((p3 : Nat) : Int))]) (.cons rfl (.cons rfl (.cons rfl (.cons rfl (.cons rfl (.cons rfl (.cons rfl (.cons rfl (.cons rfl .nil))))))))) (Gx.norm (l' := [Hp.own FK 3 v L4, R]) rfl ?_)
    have hpl4 := hps4.sh.len
    refine Gx.seq ?_
    refine Gx.seq ?_
    have hpc := hps4.sh.len
    obtain ⟨pv, hpv⟩ := get_of_lt (xs := L4) (k := p3) (by omega)
    refine Gx.regionQ Try.mixed (by kernel_rfl) ?_
    refine Gq.val rfl rfl rfl (val_move rfl rfl) ?_
    refine Gq.val rfl rfl rfl (val_gtr rfl rfl rfl) ?_
    refine Gq.val rfl rfl rfl (val_move rfl rfl) ?_
    refine Gq.cases (t := 83) rfl (fun h35 => ?_) (fun h35 => ?_)
    · obtain ⟨x0, hx0⟩ := get_of_lt (xs := L4) (k := a1 - 1) (by omega)
      refine Gq.valg rfl rfl rfl rfl rfl (val_move rfl rfl) ?_
      refine Gq.valg rfl rfl rfl rfl rfl (val_move rfl rfl) ?_
      refine Gq.valg rfl rfl rfl rfl rfl (val_move rfl rfl) ?_
      refine Gq.valg rfl rfl rfl rfl rfl (val_sub rfl rfl rfl (r := ((a1 - 1 : Nat) : Int)) (w64 (by omega) (by omega))) ?_
      refine Gq.valg rfl rfl rfl rfl rfl (val_ixa rfl Try.underlying25 Try.ty59 rfl rfl (j := a1 - 1) (rfl) (reach_own (k := 0) rfl hx0)) ?_
      refine Gq.valg rfl rfl rfl rfl rfl (Val.cast (val_loadA rfl Try.ty59 rfl rfl rfl (cells_own (sz := 3) (j := a1 - 1) (k := 0) rfl hx0)) (v' := .agg #[.int .i64 x0.1.item, .int .i64 x0.1.who, .int .i64 x0.1.n]) rfl) ?_
      refine Gq.valg rfl rfl rfl rfl rfl (val_move rfl rfl) ?_
      refine Gq.valg rfl rfl rfl rfl rfl (val_move rfl rfl) ?_
      refine Gq.valg rfl rfl rfl rfl rfl (val_ixa rfl Try.underlying25 Try.ty59 rfl rfl (j := p3) (rfl) (reach_own (k := 0) rfl hpv)) ?_
      refine Gq.valg rfl rfl rfl rfl rfl (Val.cast (val_loadA rfl Try.ty59 rfl rfl rfl (cells_own (k := 0) rfl hpv)) (v' := .agg #[.int .i64 pv.1.item, .int .i64 pv.1.who, .int .i64 pv.1.n]) rfl) ?_
      refine Gq.valg rfl rfl rfl rfl rfl (val_callV (vs := [.agg #[.int .i64 x0.1.item, .int .i64 x0.1.who, .int .i64 x0.1.n], .agg #[.int .i64 pv.1.item, .int .i64 pv.1.who, .int .i64 pv.1.n]]) (fs := []) (cs := []) rfl Try.fn26 rfl rfl (fun w H => dots_any x0.1 pv.1)) ?_
      refine Gq.valg rfl rfl rfl rfl rfl (Val.cast (val_lss rfl rfl rfl) (v' := .bool (decide (kK x0 < kK pv))) (congrArg Value.bool (decide_eq_decide.2 kK_lt))) ?_
      refine Gq.valg rfl rfl rfl rfl rfl (val_notD rfl rfl) ?_
      refine Gq.val rfl rfl rfl (val_pickT rfl rfl rfl) ?_
      refine Gq.done ?_
      refine Gx.thenN ?_
      refine Gx.dec rfl (fun h36 => ?_) (fun h36 => ?_)
      · refine Gx.seq ?_
        refine Gx.region ?_
        refine Gx.val rfl rfl rfl (val_move rfl rfl) ?_
        refine Gx.val rfl rfl rfl (val_move rfl rfl) ?_
        refine Gx.val rfl rfl rfl (val_move rfl rfl) ?_
        refine Gx.val rfl rfl rfl (val_move rfl rfl) ?_
        refine Gx.val rfl rfl rfl (val_move rfl rfl) ?_
        refine Gx.eff rfl rfl rfl (eff_call (vs := [v, .int .i64 ((a1 : Nat) : Int), .int .i64 ((b1 : Nat) : Int), .int .i64 ((p3 : Nat) : Int), .func (.func 26) #[] #[]]) rfl Try.fn56 rfl (fun w H => parteq_any (a := a1) (b := b1) (p := p3) (by omega) (by omega) (by have := hps4.sh.len; omega) (by have := hps4.sh.len; omega) hpv (H.at_ (k := 0) rfl))) ?_
        rintro _ l44 ⟨ys37, m39, hsy38, hm40, hn41, hlo42, hhi43, rfl, hl44⟩
        refine Gx.sepEq (l' := [Hp.own FK 3 v ys37, R]) hl44 ?_
        refine Gx.val rfl rfl rfl (val_assign rfl rfl) ?_
        refine Gx.done ?_
        refine Gx.thenN ?_
        refine Gx.seq ?_
        have hnps := (hps4.sub hsy38).eq hB (by omega) (by omega) (by omega) (by rw [hsy38.out (by omega)]; exact hx0) (by omega) hlo42 hhi43
        refine Gx.region ?_
        refine Gx.val rfl rfl rfl (val_move rfl rfl) ?_
        refine Gx.val rfl rfl rfl (val_assign rfl rfl) ?_
        refine Gx.done ?_
        refine Gx.thenN ?_
        refine Gx.exit ?_
        refine Gx.thenE ?_
        refine Gx.blkE ?_
        refine Gx.thenN ?_
        exact Gx.round (m39, b1, li2, wb, wp, ys37) ⟨by first | omega | (dsimp only; omega), hnps⟩ (by first | omega | (dsimp only; omega)) ((.cons rfl (.cons rfl (.cons rfl (.cons rfl (.cons rfl (.cons rfl (.cons rfl .nil)))))))) rfl
      refine Gx.skip ?_
      refine Gx.thenN ?_
      refine Gx.seq ?_
      refine Gx.region ?_
      refine Gx.val rfl rfl rfl (val_move rfl rfl) ?_
      refine Gx.val rfl rfl rfl (val_move rfl rfl) ?_
      refine Gx.val rfl rfl rfl (val_move rfl rfl) ?_
      refine Gx.val rfl rfl rfl (val_move rfl rfl) ?_
      refine Gx.val rfl rfl rfl (val_move rfl rfl) ?_
      refine Gx.eff rfl rfl rfl (eff_call (vs := [v, .int .i64 ((a1 : Nat) : Int), .int .i64 ((b1 : Nat) : Int), .int .i64 ((p3 : Nat) : Int), .func (.func 26) #[] #[]]) rfl Try.fn57 rfl (fun w H => part_any (a := a1) (b := b1) (p := p3) (by omega) (by omega) (by have := hps4.sh.len; omega) (by have := hps4.sh.len; omega) hpv (H.at_ (k := 0) rfl))) ?_
      rintro _ l54 ⟨ys45, m47, al48, hsy46, hm49, hn50, hv51, hlo52, hhi53, rfl, hl54⟩
      refine Gx.sepEq (l' := [Hp.own FK 3 v ys45, R]) hl54 ?_
      refine Gx.val rfl rfl rfl (val_move rfl rfl) ?_
      refine Gx.val rfl rfl rfl (val_extract rfl rfl rfl) ?_
      refine Gx.val rfl rfl rfl (val_extract rfl rfl rfl) ?_
      refine Gx.val rfl rfl rfl (val_assign rfl rfl) ?_
      refine Gx.val rfl rfl rfl (val_assign rfl rfl) ?_
      refine Gx.done ?_
      refine Gx.thenN ?_
      refine Gx.seq ?_
      refine Gx.region ?_
      refine Gx.val rfl rfl rfl (val_move rfl rfl) ?_
      refine Gx.val rfl rfl rfl (val_assign rfl rfl) ?_
      refine Gx.done ?_
      refine Gx.thenN ?_
      refine Gx.seq ?_
      refine Gx.region ?_
      refine Gx.val rfl rfl rfl (val_move rfl rfl) ?_
      refine Gx.val rfl rfl rfl (val_move rfl rfl) ?_
      refine Gx.val rfl rfl rfl (val_sub rfl rfl rfl (r := ((m47 - a1 : Nat) : Int)) (w64 (by omega) (by omega))) ?_
      refine Gx.val rfl rfl rfl (val_move rfl rfl) ?_
      refine Gx.val rfl rfl rfl (val_move rfl rfl) ?_
      refine Gx.val rfl rfl rfl (val_sub rfl rfl rfl (r := ((b1 - m47 : Nat) : Int)) (w64 (by omega) (by omega))) ?_
      refine Gx.val rfl rfl rfl (val_assign rfl rfl) ?_
      refine Gx.val rfl rfl rfl (val_assign rfl rfl) ?_
      refine Gx.done ?_
      refine Gx.thenN ?_
      refine Gx.seq ?_
      refine Gx.region ?_
      refine Gx.val rfl rfl rfl (val_move rfl rfl) ?_
      refine Gx.val rfl rfl rfl (val_quo rfl rfl rfl (r := (((b1 - a1) / 8 : Nat) : Int)) (by omega) (q64 (a := b1 - a1) (m := 8) (by omega) rfl (by omega))) ?_
      refine Gx.val rfl rfl rfl (val_assign rfl rfl) ?_
      refine Gx.done ?_
      refine Gx.thenN ?_
      refine Gx.seq ?_
      refine Gx.region ?_
      refine Gx.val rfl rfl rfl (val_move rfl rfl) ?_
      refine Gx.val rfl rfl rfl (val_move rfl rfl) ?_
      refine Gx.val rfl rfl rfl (val_lss rfl rfl rfl) ?_
      refine Gx.done ?_
      refine Gx.thenN ?_
      refine Gx.dec rfl (fun h55 => ?_) (fun h55 => ?_)
      · refine Gx.seq ?_
        refine Gx.region ?_
        refine Gx.val rfl rfl rfl (val_move rfl rfl) ?_
        refine Gx.val rfl rfl rfl (val_move rfl rfl) ?_
        refine Gx.val rfl rfl rfl (val_geq rfl rfl rfl) ?_
        refine Gx.val rfl rfl rfl (val_assign rfl rfl) ?_
        refine Gx.done ?_
        refine Gx.thenN ?_
        refine Gx.seq ?_
        refine Gx.region ?_
        refine Gx.val rfl rfl rfl (val_move rfl rfl) ?_
        refine Gx.val rfl rfl rfl (val_move rfl rfl) ?_
        refine Gx.val rfl rfl rfl (val_move rfl rfl) ?_
        refine Gx.val rfl rfl rfl (val_move rfl rfl) ?_
        refine Gx.val rfl rfl rfl (val_move rfl rfl) ?_
        refine Gx.eff rfl rfl rfl (eff_call (vs := [v, .int .i64 ((a1 : Nat) : Int), .int .i64 ((m47 : Nat) : Int), .int .i64 ((li2 : Nat) : Int), .func (.func 26) #[] #[]]) rfl Try.fn48 rfl (fun w H => ih (a := a1) (b := m47) (limit := li2) (by omega) (by omega) (by have := (hps4.sub hsy46).sh.len; omega) (by have := (hps4.sub hsy46).sh.len; omega) (by omega) (((hps4.sub hsy46).bel hB).mono (by omega)) (H.at_ (k := 0) rfl))) ?_
        rintro _ l59 ⟨ys56, hsy57, hsr58, rfl, hl59⟩
        refine Gx.sepEq (l' := [Hp.own FK 3 v ys56, R]) hl59 ?_
        refine Gx.done ?_
        refine Gx.thenN ?_
        have hnps := ((hps4.sub hsy46).sub (hsy57.mono (Nat.le_refl _) (by omega))).left (by omega) (by omega) (by rw [hsy57.out (by omega)]; exact hv51) (hlo52.sh hsy57) (hhi53.sh' hsy57 (by omega)) hsr58
        refine Gx.region ?_
        refine Gx.val rfl rfl rfl (val_move rfl rfl) ?_
        refine Gx.val rfl rfl rfl (val_add rfl rfl rfl (r := ((m47 + 1 : Nat) : Int)) (w64 (by omega) (by omega))) ?_
        refine Gx.val rfl rfl rfl (val_assign rfl rfl) ?_
        refine Gx.done ?_
        refine Gx.blkN ?_
        refine Gx.thenN ?_
        exact Gx.round (m47 + 1, b1, li2, decide ((((b1 - a1) / 8 : Nat) : Int) ≤ ((m47 - a1 : Nat) : Int)), al48, ys56) ⟨by first | omega | (dsimp only; omega), hnps⟩ (by first | omega | (dsimp only; omega)) ((.cons rfl (.cons rfl (.cons rfl (.cons rfl (.cons rfl (.cons rfl (.cons rfl .nil)))))))) rfl
      refine Gx.seq ?_
      refine Gx.region ?_
      refine Gx.val rfl rfl rfl (val_move rfl rfl) ?_
      refine Gx.val rfl rfl rfl (val_move rfl rfl) ?_
      refine Gx.val rfl rfl rfl (val_geq rfl rfl rfl) ?_
      refine Gx.val rfl rfl rfl (val_assign rfl rfl) ?_
      refine Gx.done ?_
      refine Gx.thenN ?_
      refine Gx.seq ?_
      refine Gx.region ?_
      refine Gx.val rfl rfl rfl (val_move rfl rfl) ?_
      refine Gx.val rfl rfl rfl (val_move rfl rfl) ?_
      refine Gx.val rfl rfl rfl (val_add rfl rfl rfl (r := ((m47 + 1 : Nat) : Int)) (w64 (by omega) (by omega))) ?_
      refine Gx.val rfl rfl rfl (val_move rfl rfl) ?_
      refine Gx.val rfl rfl rfl (val_move rfl rfl) ?_
      refine Gx.val rfl rfl rfl (val_move rfl rfl) ?_
      refine Gx.eff rfl rfl rfl (eff_call (vs := [v, .int .i64 ((m47 + 1 : Nat) : Int), .int .i64 ((b1 : Nat) : Int), .int .i64 ((li2 : Nat) : Int), .func (.func 26) #[] #[]]) rfl Try.fn48 rfl (fun w H => ih (a := (m47 + 1)) (b := b1) (limit := li2) (by omega) (by omega) (by have := (hps4.sub hsy46).sh.len; omega) (by have := (hps4.sub hsy46).sh.len; omega) (by omega) (Bel.at_ hv51 hhi53) (H.at_ (k := 0) rfl))) ?_
      rintro _ l63 ⟨ys60, hsy61, hsr62, rfl, hl63⟩
      refine Gx.sepEq (l' := [Hp.own FK 3 v ys60, R]) hl63 ?_
      refine Gx.done ?_
      refine Gx.thenN ?_
      have hnps := ((hps4.sub hsy46).sub (hsy61.mono (by omega) (Nat.le_refl _))).right (by omega) (by omega) (by rw [hsy61.out (by omega)]; exact hv51) (hlo52.sh' hsy61 (by omega)) (hhi53.sh hsy61) hsr62
      refine Gx.region ?_
      refine Gx.val rfl rfl rfl (val_move rfl rfl) ?_
      refine Gx.val rfl rfl rfl (val_assign rfl rfl) ?_
      refine Gx.done ?_
      refine Gx.blkN ?_
      refine Gx.thenN ?_
      exact Gx.round (a1, m47, li2, decide ((((b1 - a1) / 8 : Nat) : Int) ≤ ((b1 - m47 : Nat) : Int)), al48, ys60) ⟨by first | omega | (dsimp only; omega), hnps⟩ (by first | omega | (dsimp only; omega)) ((.cons rfl (.cons rfl (.cons rfl (.cons rfl (.cons rfl (.cons rfl (.cons rfl .nil)))))))) rfl
    refine Gq.skipg rfl rfl rfl rfl rfl rfl ?_
    refine Gq.skipg rfl rfl rfl rfl rfl rfl ?_
    refine Gq.skipg rfl rfl rfl rfl rfl rfl ?_
    refine Gq.skipg rfl rfl rfl rfl rfl rfl ?_
    refine Gq.skipg rfl rfl rfl rfl rfl rfl ?_
    refine Gq.skipg rfl rfl rfl rfl rfl rfl ?_
    refine Gq.skipg rfl rfl rfl rfl rfl rfl ?_
    refine Gq.skipg rfl rfl rfl rfl rfl rfl ?_
    refine Gq.skipg rfl rfl rfl rfl rfl rfl ?_
    refine Gq.skipg rfl rfl rfl rfl rfl rfl ?_
    refine Gq.skipg rfl rfl rfl rfl rfl rfl ?_
    refine Gq.skipg rfl rfl rfl rfl rfl rfl ?_
    refine Gq.skipg rfl rfl rfl rfl rfl rfl ?_
    refine Gq.val rfl rfl rfl (val_pickF rfl rfl rfl) ?_
    refine Gq.done ?_
    refine Gx.thenN ?_
    refine Gx.f rfl ?_
    refine Gx.skip ?_
    refine Gx.thenN ?_
    refine Gx.seq ?_
    refine Gx.region ?_
    refine Gx.val rfl rfl rfl (val_move rfl rfl) ?_
    refine Gx.val rfl rfl rfl (val_move rfl rfl) ?_
    refine Gx.val rfl rfl rfl (val_move rfl rfl) ?_
    refine Gx.val rfl rfl rfl (val_move rfl rfl) ?_
    refine Gx.val rfl rfl rfl (val_move rfl rfl) ?_
    refine Gx.eff rfl rfl rfl (eff_call (vs := [v, .int .i64 ((a1 : Nat) : Int), .int .i64 ((b1 : Nat) : Int), .int .i64 ((p3 : Nat) : Int), .func (.func 26) #[] #[]]) rfl Try.fn57 rfl (fun w H => part_any (a := a1) (b := b1) (p := p3) (by omega) (by omega) (by have := hps4.sh.len; omega) (by have := hps4.sh.len; omega) hpv (H.at_ (k := 0) rfl))) ?_
    rintro _ l73 ⟨ys64, m66, al67, hsy65, hm68, hn69, hv70, hlo71, hhi72, rfl, hl73⟩
    refine Gx.sepEq (l' := [Hp.own FK 3 v ys64, R]) hl73 ?_
    refine Gx.val rfl rfl rfl (val_move rfl rfl) ?_
    refine Gx.val rfl rfl rfl (val_extract rfl rfl rfl) ?_
    refine Gx.val rfl rfl rfl (val_extract rfl rfl rfl) ?_
    refine Gx.val rfl rfl rfl (val_assign rfl rfl) ?_
    refine Gx.val rfl rfl rfl (val_assign rfl rfl) ?_
    refine Gx.done ?_
    refine Gx.thenN ?_
    refine Gx.seq ?_
    refine Gx.region ?_
    refine Gx.val rfl rfl rfl (val_move rfl rfl) ?_
    refine Gx.val rfl rfl rfl (val_assign rfl rfl) ?_
    refine Gx.done ?_
    refine Gx.thenN ?_
    refine Gx.seq ?_
    refine Gx.region ?_
    refine Gx.val rfl rfl rfl (val_move rfl rfl) ?_
    refine Gx.val rfl rfl rfl (val_move rfl rfl) ?_
    refine Gx.val rfl rfl rfl (val_sub rfl rfl rfl (r := ((m66 - a1 : Nat) : Int)) (w64 (by omega) (by omega))) ?_
    refine Gx.val rfl rfl rfl (val_move rfl rfl) ?_
    refine Gx.val rfl rfl rfl (val_move rfl rfl) ?_
    refine Gx.val rfl rfl rfl (val_sub rfl rfl rfl (r := ((b1 - m66 : Nat) : Int)) (w64 (by omega) (by omega))) ?_
    refine Gx.val rfl rfl rfl (val_assign rfl rfl) ?_
    refine Gx.val rfl rfl rfl (val_assign rfl rfl) ?_
    refine Gx.done ?_
    refine Gx.thenN ?_
    refine Gx.seq ?_
    refine Gx.region ?_
    refine Gx.val rfl rfl rfl (val_move rfl rfl) ?_
    refine Gx.val rfl rfl rfl (val_quo rfl rfl rfl (r := (((b1 - a1) / 8 : Nat) : Int)) (by omega) (q64 (a := b1 - a1) (m := 8) (by omega) rfl (by omega))) ?_
    refine Gx.val rfl rfl rfl (val_assign rfl rfl) ?_
    refine Gx.done ?_
    refine Gx.thenN ?_
    refine Gx.seq ?_
    refine Gx.region ?_
    refine Gx.val rfl rfl rfl (val_move rfl rfl) ?_
    refine Gx.val rfl rfl rfl (val_move rfl rfl) ?_
    refine Gx.val rfl rfl rfl (val_lss rfl rfl rfl) ?_
    refine Gx.done ?_
    refine Gx.thenN ?_
    refine Gx.dec rfl (fun h74 => ?_) (fun h74 => ?_)
    · refine Gx.seq ?_
      refine Gx.region ?_
      refine Gx.val rfl rfl rfl (val_move rfl rfl) ?_
      refine Gx.val rfl rfl rfl (val_move rfl rfl) ?_
      refine Gx.val rfl rfl rfl (val_geq rfl rfl rfl) ?_
      refine Gx.val rfl rfl rfl (val_assign rfl rfl) ?_
      refine Gx.done ?_
      refine Gx.thenN ?_
      refine Gx.seq ?_
      refine Gx.region ?_
      refine Gx.val rfl rfl rfl (val_move rfl rfl) ?_
      refine Gx.val rfl rfl rfl (val_move rfl rfl) ?_
      refine Gx.val rfl rfl rfl (val_move rfl rfl) ?_
      refine Gx.val rfl rfl rfl (val_move rfl rfl) ?_
      refine Gx.val rfl rfl rfl (val_move rfl rfl) ?_
      refine Gx.eff rfl rfl rfl (eff_call (vs := [v, .int .i64 ((a1 : Nat) : Int), .int .i64 ((m66 : Nat) : Int), .int .i64 ((li2 : Nat) : Int), .func (.func 26) #[] #[]]) rfl Try.fn48 rfl (fun w H => ih (a := a1) (b := m66) (limit := li2) (by omega) (by omega) (by have := (hps4.sub hsy65).sh.len; omega) (by have := (hps4.sub hsy65).sh.len; omega) (by omega) (((hps4.sub hsy65).bel hB).mono (by omega)) (H.at_ (k := 0) rfl))) ?_
      rintro _ l78 ⟨ys75, hsy76, hsr77, rfl, hl78⟩
      refine Gx.sepEq (l' := [Hp.own FK 3 v ys75, R]) hl78 ?_
      refine Gx.done ?_
      refine Gx.thenN ?_
      have hnps := ((hps4.sub hsy65).sub (hsy76.mono (Nat.le_refl _) (by omega))).left (by omega) (by omega) (by rw [hsy76.out (by omega)]; exact hv70) (hlo71.sh hsy76) (hhi72.sh' hsy76 (by omega)) hsr77
      refine Gx.region ?_
      refine Gx.val rfl rfl rfl (val_move rfl rfl) ?_
      refine Gx.val rfl rfl rfl (val_add rfl rfl rfl (r := ((m66 + 1 : Nat) : Int)) (w64 (by omega) (by omega))) ?_
      refine Gx.val rfl rfl rfl (val_assign rfl rfl) ?_
      refine Gx.done ?_
      refine Gx.blkN ?_
      refine Gx.thenN ?_
      exact Gx.round (m66 + 1, b1, li2, decide ((((b1 - a1) / 8 : Nat) : Int) ≤ ((m66 - a1 : Nat) : Int)), al67, ys75) ⟨by first | omega | (dsimp only; omega), hnps⟩ (by first | omega | (dsimp only; omega)) ((.cons rfl (.cons rfl (.cons rfl (.cons rfl (.cons rfl (.cons rfl (.cons rfl .nil)))))))) rfl
    refine Gx.seq ?_
    refine Gx.region ?_
    refine Gx.val rfl rfl rfl (val_move rfl rfl) ?_
    refine Gx.val rfl rfl rfl (val_move rfl rfl) ?_
    refine Gx.val rfl rfl rfl (val_geq rfl rfl rfl) ?_
    refine Gx.val rfl rfl rfl (val_assign rfl rfl) ?_
    refine Gx.done ?_
    refine Gx.thenN ?_
    refine Gx.seq ?_
    refine Gx.region ?_
    refine Gx.val rfl rfl rfl (val_move rfl rfl) ?_
    refine Gx.val rfl rfl rfl (val_move rfl rfl) ?_
    refine Gx.val rfl rfl rfl (val_add rfl rfl rfl (r := ((m66 + 1 : Nat) : Int)) (w64 (by omega) (by omega))) ?_
    refine Gx.val rfl rfl rfl (val_move rfl rfl) ?_
    refine Gx.val rfl rfl rfl (val_move rfl rfl) ?_
    refine Gx.val rfl rfl rfl (val_move rfl rfl) ?_
    refine Gx.eff rfl rfl rfl (eff_call (vs := [v, .int .i64 ((m66 + 1 : Nat) : Int), .int .i64 ((b1 : Nat) : Int), .int .i64 ((li2 : Nat) : Int), .func (.func 26) #[] #[]]) rfl Try.fn48 rfl (fun w H => ih (a := (m66 + 1)) (b := b1) (limit := li2) (by omega) (by omega) (by have := (hps4.sub hsy65).sh.len; omega) (by have := (hps4.sub hsy65).sh.len; omega) (by omega) (Bel.at_ hv70 hhi72) (H.at_ (k := 0) rfl))) ?_
    rintro _ l82 ⟨ys79, hsy80, hsr81, rfl, hl82⟩
    refine Gx.sepEq (l' := [Hp.own FK 3 v ys79, R]) hl82 ?_
    refine Gx.done ?_
    refine Gx.thenN ?_
    have hnps := ((hps4.sub hsy65).sub (hsy80.mono (by omega) (Nat.le_refl _))).right (by omega) (by omega) (by rw [hsy80.out (by omega)]; exact hv70) (hlo71.sh' hsy80 (by omega)) (hhi72.sh hsy80) hsr81
    refine Gx.region ?_
    refine Gx.val rfl rfl rfl (val_move rfl rfl) ?_
    refine Gx.val rfl rfl rfl (val_assign rfl rfl) ?_
    refine Gx.done ?_
    refine Gx.blkN ?_
    refine Gx.thenN ?_
    exact Gx.round (a1, m66, li2, decide ((((b1 - a1) / 8 : Nat) : Int) ≤ ((b1 - m66 : Nat) : Int)), al67, ys79) ⟨by first | omega | (dsimp only; omega), hnps⟩ (by first | omega | (dsimp only; omega)) ((.cons rfl (.cons rfl (.cons rfl (.cons rfl (.cons rfl (.cons rfl (.cons rfl .nil)))))))) rfl

theorem sort_any {W w : World} {v : Value} {xs : List Dk} {R : Hp} (hl : xs.length ≤ 65000) (H : Sat W w (Hp.own FK 3 v xs * R)) :
    Calls Try.prog 43 #[v, .func (.func 26) #[] #[]] w (Ret W fun u l => ∃ ys, ys.Perm xs ∧ ys.Pairwise (fun x y => kK x ≤ kK y) ∧ u = .tuple #[] ∧ sep l = Hp.own FK 3 v ys * R) := by
  have hl7 := lenN_le xs.length
  refine Gx.enter (l := [Hp.own FK 3 v xs, R]) Try.func43 rfl Try.ntmps43 rfl (H.frame1) ?_
  refine Gx.know (m' := [(0, v), (1, .func (.func 26) #[] #[])]) (.cons rfl (.cons rfl .nil)) ?_
  refine Gx.seq ?_
  refine Gx.region ?_
  refine Gx.val rfl rfl rfl (val_move rfl rfl) ?_
  refine Gx.val rfl rfl rfl (val_len rfl Try.underlying25 rfl (len_own (k := 0) rfl)) ?_
  refine Gx.val rfl rfl rfl (val_assign rfl rfl) ?_
  refine Gx.done ?_
  refine Gx.thenN ?_
  refine Gx.region ?_
  refine Gx.val rfl rfl rfl (val_move rfl rfl) ?_
  refine Gx.val rfl rfl rfl (val_move rfl rfl) ?_
  refine Gx.val rfl rfl rfl (val_move rfl rfl) ?_
  refine Gx.val rfl rfl rfl (val_conv rfl Try.underlying3 Try.underlying76 rfl (r := ((xs.length : Nat) : Int)) (u64id hl)) ?_
  refine Gx.val rfl rfl rfl (val_call (vs := [.int .u64 ((xs.length : Nat) : Int)]) rfl Try.fn49 rfl (fun w H => len_any hl)) ?_
  refine Gx.val rfl rfl rfl (val_move rfl rfl) ?_
  refine Gx.eff rfl rfl rfl (eff_call (vs := [v, .int .i64 0, .int .i64 ((xs.length : Nat) : Int), .int .i64 ((lenN xs.length : Nat) : Int), .func (.func 26) #[] #[]]) rfl Try.fn48 rfl (fun w H => pdq_any (xs.length + 1) (by omega) (Nat.zero_le _) (Nat.le_refl _) hl (by omega) (fun i x y h0 => absurd h0 (Nat.lt_irrefl _)) (H.at_ (k := 0) rfl))) ?_
  rintro _ l1 ⟨ys, hsh, hsr, rfl, hl1⟩
  refine Gx.sepEq (l' := [Hp.own FK 3 v ys, R]) hl1 ?_
  refine Gx.done ?_
  refine Gx.endN ?_
  refine Gx.ret0 Try.results43 ?_
  exact ⟨_, hsh.perm, by rw [List.pairwise_iff_getElem]; intro i j hi hj hij; have := hsh.len; exact hsr i j _ _ (Nat.zero_le _) hij (by omega) (List.getElem?_eq_getElem hi) (List.getElem?_eq_getElem hj), rfl, sep1 _ _⟩

end Go.Proofs.Ytfpkfbffpkjgbaa
