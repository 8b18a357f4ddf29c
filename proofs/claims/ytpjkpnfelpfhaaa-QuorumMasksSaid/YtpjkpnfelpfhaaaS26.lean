/- The library's sort, whole. The walk. No condition. -/
import Derived.Test.YtpjkpnfelpfhaaaS25
namespace Go.Proofs.Ytpjkpnfelpfhaaa
open Go.RowKit
set_option linter.unusedVariables false
set_option linter.unusedSimpArgs false
set_option maxRecDepth 100000

/-- on the way: what is left is [a', b') -/
structure PS (a b a' b' : Nat) (xs L : List Nat) : Prop where
  sh : Sh a b xs L
  le1 : a ≤ a'
  le2 : a' ≤ b'
  le3 : b' ≤ b
  lo : Srt a a' L
  hi : Srt b' b L
  lc : ∀ p q x y, a ≤ p → p < a' → a' ≤ q → q < b → L[p]? = some x → L[q]? = some y → x ≤ y
  rc : ∀ p q x y, a ≤ p → p < b' → b' ≤ q → q < b → L[p]? = some x → L[q]? = some y → x ≤ y
section
variable {a b a' b' : Nat} {xs L M : List Nat}
theorem PS.start (h : a ≤ b) : PS a b a b xs xs := ⟨.refl _, Nat.le_refl _, h, Nat.le_refl _, fun p q x y h0 h1 h2 => by omega, fun p q x y h0 h1 h2 => by omega, fun p q x y h0 h1 => by omega, fun p q x y h0 h1 h2 h3 => by omega⟩
theorem PS.bel (h : PS a b a' b' xs L) (hB : Bel a b xs) : Bel a' b' L := fun i x y h0 h1 h2 hx hy => by
  by_cases e : a' = a
  · subst e; exact (hB.sh h.sh) i x y h0 h1 (by have := h.le3; omega) hx hy
  · have := h.le1; have := h.le3
    exact h.lc (a' - 1) i x y (by omega) (by omega) h1 (by omega) hx hy
theorem PS.sub (h : PS a b a' b' xs L) (hs : Sh a' b' L M) : PS a b a' b' xs M := by
  have h1 := h.le1; have h2 := h.le2; have h3 := h.le3
  refine ⟨h.sh.trans (hs.mono h1 h3), h1, h2, h3, h.lo.sh hs (.inr (Nat.le_refl _)), h.hi.sh hs (.inl (Nat.le_refl _)), fun p q x y q0 q1 q2 q3 hp hq => ?_, fun p q x y q0 q1 q2 q3 hp hq => ?_⟩
  · rw [hs.out (by omega)] at hp
    by_cases e : q < b'
    · obtain ⟨j, j1, j2, j3⟩ := hs.inn (i := q) q2 e
      exact h.lc p j x y q0 q1 j1 (by omega) hp (by rw [← j3]; exact hq)
    · rw [hs.out (by omega)] at hq
      exact h.lc p q x y q0 q1 q2 q3 hp hq
  · rw [hs.out (by omega)] at hq
    by_cases e : p < a'
    · rw [hs.out (by omega)] at hp
      exact h.rc p q x y q0 q1 q2 q3 hp hq
    · obtain ⟨j, j1, j2, j3⟩ := hs.inn (i := p) (by omega) q1
      exact h.rc j q x y (by omega) (by omega) q2 q3 (by rw [← j3]; exact hp) hq
theorem PS.done (h : PS a b a' b' xs L) (hs : Srt a' b' L) : Srt a b L := by
  have h1 := h.le1; have h2 := h.le2; have h3 := h.le3
  refine (h.lo.join hs (fun p q x y q0 q1 q2 q3 => h.lc p q x y q0 q1 q2 (by omega))).join h.hi (fun p q x y q0 q1 q2 q3 => h.rc p q x y q0 q1 q2 q3)
/-- a place whose left are below, whose right are above: the left in order -/
theorem PS.left (h : PS a b a' b' xs L) {m pv : Nat} (hm1 : a' ≤ m) (hm2 : m < b') (hpv : L[m]? = some pv) (hlt : All (fun z => z < pv) a' m L) (hge : All (fun z => pv ≤ z) (m + 1) b' L) (hs : Srt a' m L) : PS a b (m + 1) b' xs L := by
  have h1 := h.le1; have h2 := h.le2; have h3 := h.le3
  have hx : ∀ p q x y, a' ≤ p → p < m + 1 → m + 1 ≤ q → q < b' → L[p]? = some x → L[q]? = some y → x ≤ y := fun p q x y q0 q1 q2 q3 hp hq => by
    have g := hge q y q2 q3 hq
    by_cases e : p = m
    · subst e; rw [hpv] at hp; cases hp; exact g
    · have := hlt p x q0 (by omega) hp
      (try dsimp only at this g); omega
  refine ⟨h.sh, by omega, by omega, h3, ?_, h.hi, fun p q x y q0 q1 q2 q3 hp hq => ?_, h.rc⟩
  · refine h.lo.join (m := a') (fun p q x y q0 q1 q2 hp hq => ?_) (fun p q x y q0 q1 q2 q3 => h.lc p q x y q0 q1 q2 (by omega))
    by_cases e : q = m
    · subst e; rw [hpv] at hq; cases hq
      have := hlt p x q0 q1 hp
      (try dsimp only at this); omega
    · exact hs p q x y q0 q1 (by omega) hp hq
  · by_cases e : p < a'
    · exact h.lc p q x y q0 e (by omega) q3 hp hq
    · by_cases e2 : q < b'
      · exact hx p q x y (by omega) q1 q2 e2 hp hq
      · exact h.rc p q x y q0 (by omega) (by omega) q3 hp hq
theorem PS.right (h : PS a b a' b' xs L) {m pv : Nat} (hm1 : a' ≤ m) (hm2 : m < b') (hpv : L[m]? = some pv) (hlt : All (fun z => z < pv) a' m L) (hge : All (fun z => pv ≤ z) (m + 1) b' L) (hs : Srt (m + 1) b' L) : PS a b a' m xs L := by
  have h1 := h.le1; have h2 := h.le2; have h3 := h.le3
  refine ⟨h.sh, h1, hm1, by omega, h.lo, ?_, h.lc, fun p q x y q0 q1 q2 q3 hp hq => ?_⟩
  · refine Srt.join (m := b') (fun p q x y q0 q1 q2 hp hq => ?_) h.hi (fun p q x y q0 q1 q2 q3 => h.rc p q x y (by omega) q1 q2 q3)
    by_cases e : p = m
    · subst e; rw [hpv] at hp; cases hp
      exact hge q y (by omega) q2 hq
    · exact hs p q x y (by omega) q1 q2 hp hq
  · by_cases e2 : q < b'
    · by_cases e : p < a'
      · exact h.lc p q x y q0 e (by omega) q3 hp hq
      · have g := hlt p x (by omega) q1 hp
        by_cases e3 : q = m
        · subst e3; rw [hpv] at hq; cases hq; (try dsimp only at g); omega
        · have := hge q y (by omega) e2 hq
          (try dsimp only at this g); omega
    · exact h.rc p q x y q0 (by omega) (by omega) q3 hp hq
/-- all that are not above the one ahead stand first -/
theorem PS.eq (h : PS a b a' b' xs L) (hB : Bel a b xs) {m pv x0 : Nat} (hm1 : a' + 1 ≤ m) (hm2 : m ≤ b') (h0 : 0 < a') (hx0 : L[a' - 1]? = some x0) (hle : ¬ x0 < pv) (hlt : All (fun z => ¬ pv < z) a' m L) (hge : All (fun z => pv < z) m b' L) : PS a b m b' xs L := by
  have h1 := h.le1; have h2 := h.le2; have h3 := h.le3
  have hbel := h.bel hB
  have heq : ∀ p x, a' ≤ p → p < m → L[p]? = some x → x = pv := fun p x q0 q1 hp => by
    have g1 := hlt p x q0 q1 hp
    have g2 := hbel p x0 x h0 q0 (by omega) hx0 hp
    (try dsimp only at g1); omega
  refine ⟨h.sh, by omega, hm2, h3, ?_, h.hi, fun p q x y q0 q1 q2 q3 hp hq => ?_, h.rc⟩
  · refine h.lo.join (m := a') (fun p q x y q0 q1 q2 hp hq => ?_) (fun p q x y q0 q1 q2 q3 => h.lc p q x y q0 q1 q2 (by omega))
    rw [heq p x q0 (by omega) hp, heq q y (by omega) q2 hq]; exact Nat.le_refl _
  · by_cases e : p < a'
    · exact h.lc p q x y q0 e (by omega) q3 hp hq
    · by_cases e2 : q < b'
      · have g := hge q y q2 e2 hq
        have := heq p x (by omega) q1 hp
        (try dsimp only at g); omega
      · exact h.rc p q x y q0 (by omega) (by omega) q3 hp hq
theorem Bel.mono {m : Nat} (h : Bel a b L) (hm : m ≤ b) : Bel a m L := fun i x y h0 h1 h2 => h i x y h0 h1 (by omega)
theorem Bel.at_ {m pv : Nat} (hpv : L[m]? = some pv) (hge : All (fun z => pv ≤ z) (m + 1) b L) : Bel (m + 1) b L := fun i x y h0 h1 h2 hx hy => by
  rw [show m + 1 - 1 = m from rfl, hpv] at hx; cases hx
  exact hge i y h1 h2 hy
end
set_option maxHeartbeats 8000000 in
theorem pdq_any : ∀ (N : Nat) {W w : World} {v : Value} {xs : List Nat} {R : Hp} {a b limit : Nat} (hN : b - a < N) (hab : a ≤ b) (hb : b ≤ xs.length) (hl : xs.length ≤ 65000) (hlim : limit ≤ 1000) (hB : Bel a b xs) (H : Sat W w (Hp.own FU 1 v xs * R)),
    Calls Try.prog 39 #[v, .int .i64 ((a : Nat) : Int), .int .i64 ((b : Nat) : Int), .int .i64 ((limit : Nat) : Int)] w (Ret W fun u l => ∃ ys, Sh a b xs ys ∧ Srt a b ys ∧ u = .tuple #[] ∧ sep l = Hp.own FU 1 v ys * R) := by
  intro N
  induction N with
  | zero => intro W w v xs R a b limit hN; omega
  | succ N ih0 =>
    intro W w v xs R a b limit hN hab hb hl hlim hB H
    have ih : ∀ {w : World} {xs : List Nat} {a b limit : Nat} (hN : b - a < N) (hab : a ≤ b) (hb : b ≤ xs.length) (hl : xs.length ≤ 65000) (hlim : limit ≤ 1000) (hB : Bel a b xs) {R : Hp} (H : Sat W w (Hp.own FU 1 v xs * R)),
      Calls Try.prog 39 #[v, .int .i64 ((a : Nat) : Int), .int .i64 ((b : Nat) : Int), .int .i64 ((limit : Nat) : Int)] w (Ret W fun u l => ∃ ys, Sh a b xs ys ∧ Srt a b ys ∧ u = .tuple #[] ∧ sep l = Hp.own FU 1 v ys * R) := fun h1 h2 h3 h4 h5 h6 R h7 => ih0 h1 h2 h3 h4 h5 h6 h7
    refine Gx.enter (l := [Hp.own FU 1 v xs, R]) Try.func39 rfl Try.ntmps39 rfl (H.frame1) ?_
    refine Gx.know (m' := [(0, v), (1, .int .i64 ((a : Nat) : Int)), (2, .int .i64 ((b : Nat) : Int)), (3, .int .i64 ((limit : Nat) : Int))]) (.cons rfl (.cons rfl (.cons rfl (.cons rfl .nil)))) ?_
    refine Gx.seq ?_
    refine Gx.region ?_
    refine Gx.val rfl rfl rfl (val_assign rfl rfl) ?_
    refine Gx.done ?_
    refine Gx.thenN ?_
    refine Gx.seq ?_
    refine Gx.region ?_
    refine Gx.val rfl rfl rfl (val_assign rfl rfl) ?_
    refine Gx.done ?_
    refine Gx.thenN ?_
    refine Gx.block ?_
    refine Gx.loop (ι := Nat × Nat × Nat × Bool × Bool × (List Nat)) (fun ξ => (ξ.2.2.1 ≤ 1000) ∧ (PS a b ξ.1 ξ.2.1 xs ξ.2.2.2.2.2)) (fun ξ => [(0, v), (1, .int .i64 ((ξ.1 : Nat) : Int)), (2, .int .i64 ((ξ.2.1 : Nat) : Int)), (3, .int .i64 ((ξ.2.2.1 : Nat) : Int)), (8, .bool ξ.2.2.2.1), (9, .bool ξ.2.2.2.2.1)]) (fun ξ => [Hp.own FU 1 v ξ.2.2.2.2.2, R]) (fun ξ => ξ.2.1 - ξ.1) (a, b, limit, true, true, xs) ⟨by first | omega | (dsimp only; omega), PS.start hab⟩ ((.cons rfl (.cons rfl (.cons rfl (.cons rfl (.cons rfl (.cons rfl .nil))))))) rfl ?_
    rintro ⟨a1, b1, li, wb, wp, L⟩ ⟨hli, hps⟩
    dsimp only at hli hps
    refine Gx.know (m' := [(0, v), (1, .int .i64 ((a1 : Nat) : Int)), (2, .int .i64 ((b1 : Nat) : Int)), (3, .int .i64 ((li : Nat) : Int)), (8, .bool wb), (9, .bool wp)]) (.cons rfl (.cons rfl (.cons rfl (.cons rfl (.cons rfl (.cons rfl .nil)))))) (Gx.norm (l' := [Hp.own FU 1 v L, R]) rfl ?_)
    have hp1 := hps.le1
    have hp2 := hps.le2
    have hp3 := hps.le3
    have hpl := hps.sh.len
    refine Gx.block ?_
    refine Gx.seq ?_
    refine Gx.region ?_
    refine Gx.val rfl rfl rfl (val_move rfl rfl) ?_
    refine Gx.val rfl rfl rfl (val_move rfl rfl) ?_
    refine Gx.val rfl rfl rfl (val_sub rfl rfl rfl (r := ((b1 - a1 : Nat) : Int)) (w64 (by omega) (by omega))) ?_
    refine Gx.val rfl rfl rfl (val_assign rfl rfl) ?_
    refine Gx.done ?_
    refine Gx.thenN ?_
    refine Gx.seq ?_
    refine Gx.seq ?_
    refine Gx.region ?_
    refine Gx.val rfl rfl rfl (val_move rfl rfl) ?_
    refine Gx.val rfl rfl rfl (val_leq rfl rfl rfl) ?_
    refine Gx.done ?_
    refine Gx.thenN ?_
    refine Gx.dec rfl (fun h1 => ?_) (fun h1 => ?_)
    · refine Gx.seq ?_
      refine Gx.region ?_
      refine Gx.val rfl rfl rfl (val_move rfl rfl) ?_
      refine Gx.val rfl rfl rfl (val_move rfl rfl) ?_
      refine Gx.val rfl rfl rfl (val_move rfl rfl) ?_
      refine Gx.eff rfl rfl rfl (eff_call (vs := [v, .int .i64 ((a1 : Nat) : Int), .int .i64 ((b1 : Nat) : Int)]) rfl Try.fn41 rfl (fun w H => ins_any (a := a1) (b := b1) (by omega) (by have := hps.sh.len; omega) (by have := hps.sh.len; omega) (H.at_ (k := 0) rfl))) ?_
      rintro _ l5 ⟨ys2, hsy3, hsr4, rfl, hl5⟩
      refine Gx.sepEq (l' := [Hp.own FU 1 v ys2, R]) hl5 ?_
      refine Gx.done ?_
      refine Gx.thenN ?_
      refine Gx.ret ?_
      refine Gx.thenR ?_
      refine Gx.blkR ?_
      refine Gx.thenR ?_
      refine Gx.blkR ?_
      refine Gx.ret0 Try.results39 ?_
      exact ⟨_, (hps.sub hsy3).sh, (hps.sub hsy3).done hsr4, rfl, sep1 _ _⟩
    · refine Gx.skip ?_
      refine Gx.thenN ?_
      refine Gx.seq ?_
      refine Gx.seq ?_
      refine Gx.region ?_
      refine Gx.val rfl rfl rfl (val_move rfl rfl) ?_
      refine Gx.val rfl rfl rfl (val_eql rfl rfl rfl) ?_
      refine Gx.done ?_
      refine Gx.thenN ?_
      refine Gx.dec rfl (fun h6 => ?_) (fun h6 => ?_)
      · refine Gx.seq ?_
        refine Gx.region ?_
        refine Gx.val rfl rfl rfl (val_move rfl rfl) ?_
        refine Gx.val rfl rfl rfl (val_move rfl rfl) ?_
        refine Gx.val rfl rfl rfl (val_move rfl rfl) ?_
        refine Gx.eff rfl rfl rfl (eff_call (vs := [v, .int .i64 ((a1 : Nat) : Int), .int .i64 ((b1 : Nat) : Int)]) rfl Try.fn42 rfl (fun w H => heap_any (a := a1) (b := b1) (by omega) (by have := hps.sh.len; omega) (by have := hps.sh.len; omega) (H.at_ (k := 0) rfl))) ?_
        rintro _ l10 ⟨ys7, hsy8, hsr9, rfl, hl10⟩
        refine Gx.sepEq (l' := [Hp.own FU 1 v ys7, R]) hl10 ?_
        refine Gx.done ?_
        refine Gx.thenN ?_
        refine Gx.ret ?_
        refine Gx.thenR ?_
        refine Gx.blkR ?_
        refine Gx.thenR ?_
        refine Gx.blkR ?_
        refine Gx.ret0 Try.results39 ?_
        exact ⟨_, (hps.sub hsy8).sh, (hps.sub hsy8).done hsr9, rfl, sep1 _ _⟩
      · refine Gx.skip ?_
        refine Gx.thenN ?_
        refine Gx.seq ?_
        refine Gx.seq ?_
        refine Gx.region ?_
        refine Gx.val rfl rfl rfl (val_move rfl rfl) ?_
        refine Gx.val rfl rfl rfl (val_not rfl rfl) ?_
        refine Gx.done ?_
        refine Gx.thenN ?_
        refine Gx.bool rfl (fun h11 => ?_) (fun h11 => ?_)
        · refine Gx.seq ?_
          refine Gx.region ?_
          refine Gx.val rfl rfl rfl (val_move rfl rfl) ?_
          refine Gx.val rfl rfl rfl (val_move rfl rfl) ?_
          refine Gx.val rfl rfl rfl (val_move rfl rfl) ?_
          refine Gx.eff rfl rfl rfl (eff_call (vs := [v, .int .i64 ((a1 : Nat) : Int), .int .i64 ((b1 : Nat) : Int)]) rfl Try.fn43 rfl (fun w H => brk_any (a := a1) (b := b1) (by omega) (by have := hps.sh.len; omega) (by have := hps.sh.len; omega) (H.at_ (k := 0) rfl))) ?_
          rintro _ l14 ⟨ys12, hsy13, rfl, hl14⟩
          refine Gx.sepEq (l' := [Hp.own FU 1 v ys12, R]) hl14 ?_
          refine Gx.done ?_
          refine Gx.thenN ?_
          refine Gx.region ?_
          refine Gx.val rfl rfl rfl (val_move rfl rfl) ?_
          refine Gx.val rfl rfl rfl (val_sub rfl rfl rfl (r := ((li - 1 : Nat) : Int)) (w64 (by omega) (by omega))) ?_
          refine Gx.val rfl rfl rfl (val_assign rfl rfl) ?_
          refine Gx.done ?_
          refine Gx.thenN ?_
          refine Gx.seq ?_
          refine Gx.region ?_
          refine Gx.val rfl rfl rfl (val_move rfl rfl) ?_
          refine Gx.val rfl rfl rfl (val_move rfl rfl) ?_
          refine Gx.val rfl rfl rfl (val_move rfl rfl) ?_
          refine Gx.eff rfl rfl rfl (eff_call (vs := [v, .int .i64 ((a1 : Nat) : Int), .int .i64 ((b1 : Nat) : Int)]) rfl Try.fn44 rfl (fun w H => pivot_any (a := a1) (b := b1) (by omega) (by have := (hps.sub hsy13).sh.len; omega) (by have := (hps.sub hsy13).sh.len; omega) (H.at_ (k := 0) rfl))) ?_
          rintro _ l21 ⟨p17, hh18, hp19, hq20, rfl, hl21⟩
          refine Gx.sepEq (l' := [Hp.own FU 1 v ys12, R]) hl21 ?_
          refine Gx.val rfl rfl rfl (val_move rfl rfl) ?_
          refine Gx.val rfl rfl rfl (val_extract rfl rfl rfl) ?_
          refine Gx.val rfl rfl rfl (val_extract rfl rfl rfl) ?_
          refine Gx.val rfl rfl rfl (val_assign rfl rfl) ?_
          refine Gx.val rfl rfl rfl (val_assign rfl rfl) ?_
          refine Gx.done ?_
          refine Gx.thenN ?_
          refine Gx.seq ?_
          refine Gx.seq ?_
          refine Gx.region ?_
          refine Gx.val rfl rfl rfl (val_move rfl rfl) ?_
          refine Gx.val rfl rfl rfl (val_eql rfl rfl rfl) ?_
          refine Gx.done ?_
          refine Gx.thenN ?_
          refine Gx.dec rfl (fun h22 => ?_) (fun h22 => ?_)
          · refine Gx.seq ?_
            refine Gx.region ?_
            refine Gx.val rfl rfl rfl (val_move rfl rfl) ?_
            refine Gx.val rfl rfl rfl (val_move rfl rfl) ?_
            refine Gx.val rfl rfl rfl (val_move rfl rfl) ?_
            refine Gx.eff rfl rfl rfl (eff_call (vs := [v, .int .i64 ((a1 : Nat) : Int), .int .i64 ((b1 : Nat) : Int)]) rfl Try.fn45 rfl (fun w H => rev_any (a := a1) (b := b1) (by omega) (by have := (hps.sub hsy13).sh.len; omega) (by have := (hps.sub hsy13).sh.len; omega) (H.at_ (k := 0) rfl))) ?_
            rintro _ l25 ⟨ys23, hsy24, rfl, hl25⟩
            refine Gx.sepEq (l' := [Hp.own FU 1 v ys23, R]) hl25 ?_
            refine Gx.done ?_
            refine Gx.thenN ?_
            refine Gx.seq ?_
            refine Gx.region ?_
            refine Gx.val rfl rfl rfl (val_move rfl rfl) ?_
            refine Gx.val rfl rfl rfl (val_sub rfl rfl rfl (r := ((b1 - 1 : Nat) : Int)) (w64 (by omega) (by omega))) ?_
            refine Gx.val rfl rfl rfl (val_move rfl rfl) ?_
            refine Gx.val rfl rfl rfl (val_move rfl rfl) ?_
            refine Gx.val rfl rfl rfl (val_sub rfl rfl rfl (r := ((p17 - a1 : Nat) : Int)) (w64 (by omega) (by omega))) ?_
            refine Gx.val rfl rfl rfl (val_sub rfl rfl rfl (r := ((b1 - 1 - (p17 - a1) : Nat) : Int)) (w64 (by omega) (by omega))) ?_
            refine Gx.val rfl rfl rfl (val_assign rfl rfl) ?_
            refine Gx.done ?_
            refine Gx.thenN ?_
            refine Gx.region ?_
            refine Gx.val rfl rfl rfl (val_assign rfl rfl) ?_
            refine Gx.done ?_
            refine Gx.thenN ?_
            refine Gx.seq ?_
            refine Gx.seq ?_
            refine Gx.region ?_
            refine Gx.val rfl rfl rfl (val_move rfl rfl) ?_
            refine Gx.val rfl rfl rfl (val_move rfl rfl) ?_
            refine Gx.slot (t := 62) (v := .bool false) (look_boolF rfl (by simpa using h11)) ?_
            refine Gx.skipg rfl rfl rfl rfl rfl rfl ?_
            refine Gx.val rfl rfl rfl (val_pickF rfl rfl rfl) ?_
            refine Gx.val rfl rfl rfl (val_move rfl rfl) ?_
            refine Gx.skipg rfl rfl rfl rfl rfl rfl ?_
            refine Gx.skipg rfl rfl rfl rfl rfl rfl ?_
            refine Gx.val rfl rfl rfl (val_pickF rfl rfl rfl) ?_
            refine Gx.done ?_
            refine Gx.thenN ?_
            refine Gx.f rfl ?_
            refine Gx.skip ?_
            refine Gx.thenN ?_
            refine Gx.seq ?_
            refine Gx.seq ?_
            have hpc := ((hps.sub hsy13).sub hsy24).sh.len
            obtain ⟨pv, hpv⟩ := get_of_lt (xs := ys23) (k := b1 - 1 - (p17 - a1)) (by omega)
            refine Gx.regionQ Try.mixed (by kernel_rfl) ?_
            refine Gq.val rfl rfl rfl (val_move rfl rfl) ?_
            refine Gq.val rfl rfl rfl (val_gtr rfl rfl rfl) ?_
            refine Gq.val rfl rfl rfl (val_move rfl rfl) ?_
            refine Gq.cases (t := 75) rfl (fun h26 => ?_) (fun h26 => ?_)
            · obtain ⟨x0, hx0⟩ := get_of_lt (xs := ys23) (k := a1 - 1) (by omega)
              refine Gq.valg rfl rfl rfl rfl rfl (val_move rfl rfl) ?_
              refine Gq.valg rfl rfl rfl rfl rfl (val_move rfl rfl) ?_
              refine Gq.valg rfl rfl rfl rfl rfl (val_sub rfl rfl rfl (r := ((a1 - 1 : Nat) : Int)) (w64 (by omega) (by omega))) ?_
              refine Gq.valg rfl rfl rfl rfl rfl (val_ixa rfl Try.underlying22 Try.ty28 rfl rfl (j := a1 - 1) (rfl) (reach_own (k := 0) rfl hx0)) ?_
              refine Gq.valg rfl rfl rfl rfl rfl (val_load rfl Try.ty28 rfl rfl (cell_own (i := 0) (sz := 1) (j := a1 - 1) (k := 0) rfl hx0 rfl)) ?_
              refine Gq.valg rfl rfl rfl rfl rfl (val_move rfl rfl) ?_
              refine Gq.valg rfl rfl rfl rfl rfl (val_move rfl rfl) ?_
              refine Gq.valg rfl rfl rfl rfl rfl (val_ixa rfl Try.underlying22 Try.ty28 rfl rfl (j := b1 - 1 - (p17 - a1)) (rfl) (reach_own (k := 0) rfl hpv)) ?_
              refine Gq.valg rfl rfl rfl rfl rfl (val_load rfl Try.ty28 rfl rfl (cell_own (i := 0) (sz := 1) (j := b1 - 1 - (p17 - a1)) (k := 0) rfl hpv rfl)) ?_
              refine Gq.valg rfl rfl rfl rfl rfl (val_call (vs := [.int .u32 ((x0 : Nat) : Int), .int .u32 ((pv : Nat) : Int)]) rfl Try.fn47 rfl (fun w H => less_any x0 pv)) ?_
              refine Gq.valg rfl rfl rfl rfl rfl (val_notD rfl rfl) ?_
              refine Gq.val rfl rfl rfl (val_pickT rfl rfl rfl) ?_
              refine Gq.done ?_
              refine Gx.thenN ?_
              refine Gx.dec rfl (fun h27 => ?_) (fun h27 => ?_)
              · refine Gx.seq ?_
                refine Gx.region ?_
                refine Gx.val rfl rfl rfl (val_move rfl rfl) ?_
                refine Gx.val rfl rfl rfl (val_move rfl rfl) ?_
                refine Gx.val rfl rfl rfl (val_move rfl rfl) ?_
                refine Gx.val rfl rfl rfl (val_move rfl rfl) ?_
                refine Gx.eff rfl rfl rfl (eff_call (vs := [v, .int .i64 ((a1 : Nat) : Int), .int .i64 ((b1 : Nat) : Int), .int .i64 ((b1 - 1 - (p17 - a1) : Nat) : Int)]) rfl Try.fn48 rfl (fun w H => parteq_any (a := a1) (b := b1) (p := b1 - 1 - (p17 - a1)) (by omega) (by omega) (by have := ((hps.sub hsy13).sub hsy24).sh.len; omega) (by have := ((hps.sub hsy13).sub hsy24).sh.len; omega) hpv (H.at_ (k := 0) rfl))) ?_
                rintro _ l35 ⟨ys28, m30, hsy29, hm31, hn32, hlo33, hhi34, rfl, hl35⟩
                refine Gx.sepEq (l' := [Hp.own FU 1 v ys28, R]) hl35 ?_
                refine Gx.val rfl rfl rfl (val_assign rfl rfl) ?_
                refine Gx.done ?_
                refine Gx.thenN ?_
                refine Gx.seq ?_
                have hnps := (((hps.sub hsy13).sub hsy24).sub hsy29).eq hB (by omega) (by omega) (by omega) (by rw [hsy29.out (by omega)]; exact hx0) (by omega) hlo33 hhi34
                refine Gx.region ?_
                refine Gx.val rfl rfl rfl (val_move rfl rfl) ?_
                refine Gx.val rfl rfl rfl (val_assign rfl rfl) ?_
                refine Gx.done ?_
                refine Gx.thenN ?_
                refine Gx.exit ?_
                refine Gx.thenE ?_
                refine Gx.blkE ?_
                refine Gx.thenN ?_
                exact Gx.round (m30, b1, li - 1, wb, wp, ys28) ⟨by first | omega | (dsimp only; omega), hnps⟩ (by first | omega | (dsimp only; omega)) ((.cons rfl (.cons rfl (.cons rfl (.cons rfl (.cons rfl (.cons rfl .nil))))))) rfl
              · refine Gx.skip ?_
                refine Gx.thenN ?_
                refine Gx.seq ?_
                refine Gx.region ?_
                refine Gx.val rfl rfl rfl (val_move rfl rfl) ?_
                refine Gx.val rfl rfl rfl (val_move rfl rfl) ?_
                refine Gx.val rfl rfl rfl (val_move rfl rfl) ?_
                refine Gx.val rfl rfl rfl (val_move rfl rfl) ?_
                refine Gx.eff rfl rfl rfl (eff_call (vs := [v, .int .i64 ((a1 : Nat) : Int), .int .i64 ((b1 : Nat) : Int), .int .i64 ((b1 - 1 - (p17 - a1) : Nat) : Int)]) rfl Try.fn49 rfl (fun w H => part_any (a := a1) (b := b1) (p := b1 - 1 - (p17 - a1)) (by omega) (by omega) (by have := ((hps.sub hsy13).sub hsy24).sh.len; omega) (by have := ((hps.sub hsy13).sub hsy24).sh.len; omega) hpv (H.at_ (k := 0) rfl))) ?_
                rintro _ l45 ⟨ys36, m38, al39, hsy37, hm40, hn41, hv42, hlo43, hhi44, rfl, hl45⟩
                refine Gx.sepEq (l' := [Hp.own FU 1 v ys36, R]) hl45 ?_
                refine Gx.val rfl rfl rfl (val_move rfl rfl) ?_
                refine Gx.val rfl rfl rfl (val_extract rfl rfl rfl) ?_
                refine Gx.val rfl rfl rfl (val_extract rfl rfl rfl) ?_
                refine Gx.val rfl rfl rfl (val_assign rfl rfl) ?_
                refine Gx.val rfl rfl rfl (val_assign rfl rfl) ?_
                refine Gx.done ?_
                refine Gx.thenN ?_
                refine Gx.seq ?_
                refine Gx.region ?_
                refine Gx.val rfl rfl rfl (val_move rfl rfl) ?_
                refine Gx.val rfl rfl rfl (val_assign rfl rfl) ?_
                refine Gx.done ?_
                refine Gx.thenN ?_
                refine Gx.seq ?_
                refine Gx.region ?_
                refine Gx.val rfl rfl rfl (val_move rfl rfl) ?_
                refine Gx.val rfl rfl rfl (val_move rfl rfl) ?_
                refine Gx.val rfl rfl rfl (val_sub rfl rfl rfl (r := ((m38 - a1 : Nat) : Int)) (w64 (by omega) (by omega))) ?_
                refine Gx.val rfl rfl rfl (val_move rfl rfl) ?_
                refine Gx.val rfl rfl rfl (val_move rfl rfl) ?_
                refine Gx.val rfl rfl rfl (val_sub rfl rfl rfl (r := ((b1 - m38 : Nat) : Int)) (w64 (by omega) (by omega))) ?_
                refine Gx.val rfl rfl rfl (val_assign rfl rfl) ?_
                refine Gx.val rfl rfl rfl (val_assign rfl rfl) ?_
                refine Gx.done ?_
                refine Gx.thenN ?_
                refine Gx.seq ?_
                refine Gx.region ?_
                refine Gx.val rfl rfl rfl (val_move rfl rfl) ?_
                refine Gx.val rfl rfl rfl (val_quo rfl rfl rfl (r := (((b1 - a1) / 8 : Nat) : Int)) (by omega) (q64 (a := b1 - a1) (m := 8) (by omega) rfl (by omega))) ?_
                refine Gx.val rfl rfl rfl (val_assign rfl rfl) ?_
                refine Gx.done ?_
                refine Gx.thenN ?_
                refine Gx.seq ?_
                refine Gx.region ?_
                refine Gx.val rfl rfl rfl (val_move rfl rfl) ?_
                refine Gx.val rfl rfl rfl (val_move rfl rfl) ?_
                refine Gx.val rfl rfl rfl (val_lss rfl rfl rfl) ?_
                refine Gx.done ?_
                refine Gx.thenN ?_
                refine Gx.dec rfl (fun h46 => ?_) (fun h46 => ?_)
                · refine Gx.seq ?_
                  refine Gx.region ?_
                  refine Gx.val rfl rfl rfl (val_move rfl rfl) ?_
                  refine Gx.val rfl rfl rfl (val_move rfl rfl) ?_
                  refine Gx.val rfl rfl rfl (val_geq rfl rfl rfl) ?_
                  refine Gx.val rfl rfl rfl (val_assign rfl rfl) ?_
                  refine Gx.done ?_
                  refine Gx.thenN ?_
                  refine Gx.seq ?_
                  refine Gx.region ?_
                  refine Gx.val rfl rfl rfl (val_move rfl rfl) ?_
                  refine Gx.val rfl rfl rfl (val_move rfl rfl) ?_
                  refine Gx.val rfl rfl rfl (val_move rfl rfl) ?_
                  refine Gx.val rfl rfl rfl (val_move rfl rfl) ?_
                  refine Gx.eff rfl rfl rfl (eff_call (vs := [v, .int .i64 ((a1 : Nat) : Int), .int .i64 ((m38 : Nat) : Int), .int .i64 ((li - 1 : Nat) : Int)]) rfl Try.fn39 rfl (fun w H => ih (a := a1) (b := m38) (limit := li - 1) (by omega) (by omega) (by have := (((hps.sub hsy13).sub hsy24).sub hsy37).sh.len; omega) (by have := (((hps.sub hsy13).sub hsy24).sub hsy37).sh.len; omega) (by omega) (((((hps.sub hsy13).sub hsy24).sub hsy37).bel hB).mono (by omega)) (H.at_ (k := 0) rfl))) ?_
                  rintro _ l50 ⟨ys47, hsy48, hsr49, rfl, hl50⟩
                  refine Gx.sepEq (l' := [Hp.own FU 1 v ys47, R]) hl50 ?_
                  refine Gx.done ?_
                  refine Gx.thenN ?_
                  have hnps := ((((hps.sub hsy13).sub hsy24).sub hsy37).sub (hsy48.mono (Nat.le_refl _) (by omega))).left (by omega) (by omega) (by rw [hsy48.out (by omega)]; exact hv42) (hlo43.sh hsy48) (hhi44.sh' hsy48 (by omega)) hsr49
                  refine Gx.region ?_
                  refine Gx.val rfl rfl rfl (val_move rfl rfl) ?_
                  refine Gx.val rfl rfl rfl (val_add rfl rfl rfl (r := ((m38 + 1 : Nat) : Int)) (w64 (by omega) (by omega))) ?_
                  refine Gx.val rfl rfl rfl (val_assign rfl rfl) ?_
                  refine Gx.done ?_
                  refine Gx.blkN ?_
                  refine Gx.thenN ?_
                  exact Gx.round (m38 + 1, b1, li - 1, decide ((((b1 - a1) / 8 : Nat) : Int) ≤ ((m38 - a1 : Nat) : Int)), al39, ys47) ⟨by first | omega | (dsimp only; omega), hnps⟩ (by first | omega | (dsimp only; omega)) ((.cons rfl (.cons rfl (.cons rfl (.cons rfl (.cons rfl (.cons rfl .nil))))))) rfl
                · refine Gx.seq ?_
                  refine Gx.region ?_
                  refine Gx.val rfl rfl rfl (val_move rfl rfl) ?_
                  refine Gx.val rfl rfl rfl (val_move rfl rfl) ?_
                  refine Gx.val rfl rfl rfl (val_geq rfl rfl rfl) ?_
                  refine Gx.val rfl rfl rfl (val_assign rfl rfl) ?_
                  refine Gx.done ?_
                  refine Gx.thenN ?_
                  refine Gx.seq ?_
                  refine Gx.region ?_
                  refine Gx.val rfl rfl rfl (val_move rfl rfl) ?_
                  refine Gx.val rfl rfl rfl (val_move rfl rfl) ?_
                  refine Gx.val rfl rfl rfl (val_add rfl rfl rfl (r := ((m38 + 1 : Nat) : Int)) (w64 (by omega) (by omega))) ?_
                  refine Gx.val rfl rfl rfl (val_move rfl rfl) ?_
                  refine Gx.val rfl rfl rfl (val_move rfl rfl) ?_
                  refine Gx.eff rfl rfl rfl (eff_call (vs := [v, .int .i64 ((m38 + 1 : Nat) : Int), .int .i64 ((b1 : Nat) : Int), .int .i64 ((li - 1 : Nat) : Int)]) rfl Try.fn39 rfl (fun w H => ih (a := (m38 + 1)) (b := b1) (limit := li - 1) (by omega) (by omega) (by have := (((hps.sub hsy13).sub hsy24).sub hsy37).sh.len; omega) (by have := (((hps.sub hsy13).sub hsy24).sub hsy37).sh.len; omega) (by omega) (Bel.at_ hv42 hhi44) (H.at_ (k := 0) rfl))) ?_
                  rintro _ l54 ⟨ys51, hsy52, hsr53, rfl, hl54⟩
                  refine Gx.sepEq (l' := [Hp.own FU 1 v ys51, R]) hl54 ?_
                  refine Gx.done ?_
                  refine Gx.thenN ?_
                  have hnps := ((((hps.sub hsy13).sub hsy24).sub hsy37).sub (hsy52.mono (by omega) (Nat.le_refl _))).right (by omega) (by omega) (by rw [hsy52.out (by omega)]; exact hv42) (hlo43.sh' hsy52 (by omega)) (hhi44.sh hsy52) hsr53
                  refine Gx.region ?_
                  refine Gx.val rfl rfl rfl (val_move rfl rfl) ?_
                  refine Gx.val rfl rfl rfl (val_assign rfl rfl) ?_
                  refine Gx.done ?_
                  refine Gx.blkN ?_
                  refine Gx.thenN ?_
                  exact Gx.round (a1, m38, li - 1, decide ((((b1 - a1) / 8 : Nat) : Int) ≤ ((b1 - m38 : Nat) : Int)), al39, ys51) ⟨by first | omega | (dsimp only; omega), hnps⟩ (by first | omega | (dsimp only; omega)) ((.cons rfl (.cons rfl (.cons rfl (.cons rfl (.cons rfl (.cons rfl .nil))))))) rfl
            · refine Gq.skipg rfl rfl rfl rfl rfl rfl ?_
              refine Gq.skipg rfl rfl rfl rfl rfl rfl ?_
              refine Gq.skipg rfl rfl rfl rfl rfl rfl ?_
              refine Gq.skipg rfl rfl rfl rfl rfl rfl ?_
              refine Gq.skipg rfl rfl rfl rfl rfl rfl ?_
              refine Gq.skipg rfl rfl rfl rfl rfl rfl ?_
              refine Gq.skipg rfl rfl rfl rfl rfl rfl ?_
              refine Gq.skipg rfl rfl rfl rfl rfl rfl ?_
              refine Gq.skipg rfl rfl rfl rfl rfl rfl ?_
              refine Gq.skipg rfl rfl rfl rfl rfl rfl ?_
              refine Gq.skipg rfl rfl rfl rfl rfl rfl ?_
              refine Gq.val rfl rfl rfl (val_pickF rfl rfl rfl) ?_
              refine Gq.done ?_
              refine Gx.thenN ?_
              refine Gx.f rfl ?_
              refine Gx.skip ?_
              refine Gx.thenN ?_
              refine Gx.seq ?_
              refine Gx.region ?_
              refine Gx.val rfl rfl rfl (val_move rfl rfl) ?_
              refine Gx.val rfl rfl rfl (val_move rfl rfl) ?_
              refine Gx.val rfl rfl rfl (val_move rfl rfl) ?_
              refine Gx.val rfl rfl rfl (val_move rfl rfl) ?_
              refine Gx.eff rfl rfl rfl (eff_call (vs := [v, .int .i64 ((a1 : Nat) : Int), .int .i64 ((b1 : Nat) : Int), .int .i64 ((b1 - 1 - (p17 - a1) : Nat) : Int)]) rfl Try.fn49 rfl (fun w H => part_any (a := a1) (b := b1) (p := b1 - 1 - (p17 - a1)) (by omega) (by omega) (by have := ((hps.sub hsy13).sub hsy24).sh.len; omega) (by have := ((hps.sub hsy13).sub hsy24).sh.len; omega) hpv (H.at_ (k := 0) rfl))) ?_
              rintro _ l64 ⟨ys55, m57, al58, hsy56, hm59, hn60, hv61, hlo62, hhi63, rfl, hl64⟩
              refine Gx.sepEq (l' := [Hp.own FU 1 v ys55, R]) hl64 ?_
              refine Gx.val rfl rfl rfl (val_move rfl rfl) ?_
              refine Gx.val rfl rfl rfl (val_extract rfl rfl rfl) ?_
              refine Gx.val rfl rfl rfl (val_extract rfl rfl rfl) ?_
              refine Gx.val rfl rfl rfl (val_assign rfl rfl) ?_
              refine Gx.val rfl rfl rfl (val_assign rfl rfl) ?_
              refine Gx.done ?_
              refine Gx.thenN ?_
              refine Gx.seq ?_
              refine Gx.region ?_
              refine Gx.val rfl rfl rfl (val_move rfl rfl) ?_
              refine Gx.val rfl rfl rfl (val_assign rfl rfl) ?_
              refine Gx.done ?_
              refine Gx.thenN ?_
              refine Gx.seq ?_
              refine Gx.region ?_
              refine Gx.val rfl rfl rfl (val_move rfl rfl) ?_
              refine Gx.val rfl rfl rfl (val_move rfl rfl) ?_
              refine Gx.val rfl rfl rfl (val_sub rfl rfl rfl (r := ((m57 - a1 : Nat) : Int)) (w64 (by omega) (by omega))) ?_
              refine Gx.val rfl rfl rfl (val_move rfl rfl) ?_
              refine Gx.val rfl rfl rfl (val_move rfl rfl) ?_
              refine Gx.val rfl rfl rfl (val_sub rfl rfl rfl (r := ((b1 - m57 : Nat) : Int)) (w64 (by omega) (by omega))) ?_
              refine Gx.val rfl rfl rfl (val_assign rfl rfl) ?_
              refine Gx.val rfl rfl rfl (val_assign rfl rfl) ?_
              refine Gx.done ?_
              refine Gx.thenN ?_
              refine Gx.seq ?_
              refine Gx.region ?_
              refine Gx.val rfl rfl rfl (val_move rfl rfl) ?_
              refine Gx.val rfl rfl rfl (val_quo rfl rfl rfl (r := (((b1 - a1) / 8 : Nat) : Int)) (by omega) (q64 (a := b1 - a1) (m := 8) (by omega) rfl (by omega))) ?_
              refine Gx.val rfl rfl rfl (val_assign rfl rfl) ?_
              refine Gx.done ?_
              refine Gx.thenN ?_
              refine Gx.seq ?_
              refine Gx.region ?_
              refine Gx.val rfl rfl rfl (val_move rfl rfl) ?_
              refine Gx.val rfl rfl rfl (val_move rfl rfl) ?_
              refine Gx.val rfl rfl rfl (val_lss rfl rfl rfl) ?_
              refine Gx.done ?_
              refine Gx.thenN ?_
              refine Gx.dec rfl (fun h65 => ?_) (fun h65 => ?_)
              · refine Gx.seq ?_
                refine Gx.region ?_
                refine Gx.val rfl rfl rfl (val_move rfl rfl) ?_
                refine Gx.val rfl rfl rfl (val_move rfl rfl) ?_
                refine Gx.val rfl rfl rfl (val_geq rfl rfl rfl) ?_
                refine Gx.val rfl rfl rfl (val_assign rfl rfl) ?_
                refine Gx.done ?_
                refine Gx.thenN ?_
                refine Gx.seq ?_
                refine Gx.region ?_
                refine Gx.val rfl rfl rfl (val_move rfl rfl) ?_
                refine Gx.val rfl rfl rfl (val_move rfl rfl) ?_
                refine Gx.val rfl rfl rfl (val_move rfl rfl) ?_
                refine Gx.val rfl rfl rfl (val_move rfl rfl) ?_
                refine Gx.eff rfl rfl rfl (eff_call (vs := [v, .int .i64 ((a1 : Nat) : Int), .int .i64 ((m57 : Nat) : Int), .int .i64 ((li - 1 : Nat) : Int)]) rfl Try.fn39 rfl (fun w H => ih (a := a1) (b := m57) (limit := li - 1) (by omega) (by omega) (by have := (((hps.sub hsy13).sub hsy24).sub hsy56).sh.len; omega) (by have := (((hps.sub hsy13).sub hsy24).sub hsy56).sh.len; omega) (by omega) (((((hps.sub hsy13).sub hsy24).sub hsy56).bel hB).mono (by omega)) (H.at_ (k := 0) rfl))) ?_
                rintro _ l69 ⟨ys66, hsy67, hsr68, rfl, hl69⟩
                refine Gx.sepEq (l' := [Hp.own FU 1 v ys66, R]) hl69 ?_
                refine Gx.done ?_
                refine Gx.thenN ?_
                have hnps := ((((hps.sub hsy13).sub hsy24).sub hsy56).sub (hsy67.mono (Nat.le_refl _) (by omega))).left (by omega) (by omega) (by rw [hsy67.out (by omega)]; exact hv61) (hlo62.sh hsy67) (hhi63.sh' hsy67 (by omega)) hsr68
                refine Gx.region ?_
                refine Gx.val rfl rfl rfl (val_move rfl rfl) ?_
                refine Gx.val rfl rfl rfl (val_add rfl rfl rfl (r := ((m57 + 1 : Nat) : Int)) (w64 (by omega) (by omega))) ?_
                refine Gx.val rfl rfl rfl (val_assign rfl rfl) ?_
                refine Gx.done ?_
                refine Gx.blkN ?_
                refine Gx.thenN ?_
                exact Gx.round (m57 + 1, b1, li - 1, decide ((((b1 - a1) / 8 : Nat) : Int) ≤ ((m57 - a1 : Nat) : Int)), al58, ys66) ⟨by first | omega | (dsimp only; omega), hnps⟩ (by first | omega | (dsimp only; omega)) ((.cons rfl (.cons rfl (.cons rfl (.cons rfl (.cons rfl (.cons rfl .nil))))))) rfl
              · refine Gx.seq ?_
                refine Gx.region ?_
                refine Gx.val rfl rfl rfl (val_move rfl rfl) ?_
                refine Gx.val rfl rfl rfl (val_move rfl rfl) ?_
                refine Gx.val rfl rfl rfl (val_geq rfl rfl rfl) ?_
                refine Gx.val rfl rfl rfl (val_assign rfl rfl) ?_
                refine Gx.done ?_
                refine Gx.thenN ?_
                refine Gx.seq ?_
                refine Gx.region ?_
                refine Gx.val rfl rfl rfl (val_move rfl rfl) ?_
                refine Gx.val rfl rfl rfl (val_move rfl rfl) ?_
                refine Gx.val rfl rfl rfl (val_add rfl rfl rfl (r := ((m57 + 1 : Nat) : Int)) (w64 (by omega) (by omega))) ?_
                refine Gx.val rfl rfl rfl (val_move rfl rfl) ?_
                refine Gx.val rfl rfl rfl (val_move rfl rfl) ?_
                refine Gx.eff rfl rfl rfl (eff_call (vs := [v, .int .i64 ((m57 + 1 : Nat) : Int), .int .i64 ((b1 : Nat) : Int), .int .i64 ((li - 1 : Nat) : Int)]) rfl Try.fn39 rfl (fun w H => ih (a := (m57 + 1)) (b := b1) (limit := li - 1) (by omega) (by omega) (by have := (((hps.sub hsy13).sub hsy24).sub hsy56).sh.len; omega) (by have := (((hps.sub hsy13).sub hsy24).sub hsy56).sh.len; omega) (by omega) (Bel.at_ hv61 hhi63) (H.at_ (k := 0) rfl))) ?_
                rintro _ l73 ⟨ys70, hsy71, hsr72, rfl, hl73⟩
                refine Gx.sepEq (l' := [Hp.own FU 1 v ys70, R]) hl73 ?_
                refine Gx.done ?_
                refine Gx.thenN ?_
                have hnps := ((((hps.sub hsy13).sub hsy24).sub hsy56).sub (hsy71.mono (by omega) (Nat.le_refl _))).right (by omega) (by omega) (by rw [hsy71.out (by omega)]; exact hv61) (hlo62.sh' hsy71 (by omega)) (hhi63.sh hsy71) hsr72
                refine Gx.region ?_
                refine Gx.val rfl rfl rfl (val_move rfl rfl) ?_
                refine Gx.val rfl rfl rfl (val_assign rfl rfl) ?_
                refine Gx.done ?_
                refine Gx.blkN ?_
                refine Gx.thenN ?_
                exact Gx.round (a1, m57, li - 1, decide ((((b1 - a1) / 8 : Nat) : Int) ≤ ((b1 - m57 : Nat) : Int)), al58, ys70) ⟨by first | omega | (dsimp only; omega), hnps⟩ (by first | omega | (dsimp only; omega)) ((.cons rfl (.cons rfl (.cons rfl (.cons rfl (.cons rfl (.cons rfl .nil))))))) rfl
          · refine Gx.skip ?_
            refine Gx.thenN ?_
            refine Gx.seq ?_
            refine Gx.seq ?_
            refine Gx.region ?_
            refine Gx.val rfl rfl rfl (val_move rfl rfl) ?_
            refine Gx.val rfl rfl rfl (val_move rfl rfl) ?_
            refine Gx.slot (t := 62) (v := .bool false) (look_boolF rfl (by simpa using h11)) ?_
            refine Gx.skipg rfl rfl rfl rfl rfl rfl ?_
            refine Gx.val rfl rfl rfl (val_pickF rfl rfl rfl) ?_
            refine Gx.val rfl rfl rfl (val_move rfl rfl) ?_
            refine Gx.skipg rfl rfl rfl rfl rfl rfl ?_
            refine Gx.skipg rfl rfl rfl rfl rfl rfl ?_
            refine Gx.val rfl rfl rfl (val_pickF rfl rfl rfl) ?_
            refine Gx.done ?_
            refine Gx.thenN ?_
            refine Gx.f rfl ?_
            refine Gx.skip ?_
            refine Gx.thenN ?_
            refine Gx.seq ?_
            refine Gx.seq ?_
            have hpc := (hps.sub hsy13).sh.len
            obtain ⟨pv, hpv⟩ := get_of_lt (xs := ys12) (k := p17) (by omega)
            refine Gx.regionQ Try.mixed (by kernel_rfl) ?_
            refine Gq.val rfl rfl rfl (val_move rfl rfl) ?_
            refine Gq.val rfl rfl rfl (val_gtr rfl rfl rfl) ?_
            refine Gq.val rfl rfl rfl (val_move rfl rfl) ?_
            refine Gq.cases (t := 75) rfl (fun h74 => ?_) (fun h74 => ?_)
            · obtain ⟨x0, hx0⟩ := get_of_lt (xs := ys12) (k := a1 - 1) (by omega)
              refine Gq.valg rfl rfl rfl rfl rfl (val_move rfl rfl) ?_
              refine Gq.valg rfl rfl rfl rfl rfl (val_move rfl rfl) ?_
              refine Gq.valg rfl rfl rfl rfl rfl (val_sub rfl rfl rfl (r := ((a1 - 1 : Nat) : Int)) (w64 (by omega) (by omega))) ?_
              refine Gq.valg rfl rfl rfl rfl rfl (val_ixa rfl Try.underlying22 Try.ty28 rfl rfl (j := a1 - 1) (rfl) (reach_own (k := 0) rfl hx0)) ?_
              refine Gq.valg rfl rfl rfl rfl rfl (val_load rfl Try.ty28 rfl rfl (cell_own (i := 0) (sz := 1) (j := a1 - 1) (k := 0) rfl hx0 rfl)) ?_
              refine Gq.valg rfl rfl rfl rfl rfl (val_move rfl rfl) ?_
              refine Gq.valg rfl rfl rfl rfl rfl (val_move rfl rfl) ?_
              refine Gq.valg rfl rfl rfl rfl rfl (val_ixa rfl Try.underlying22 Try.ty28 rfl rfl (j := p17) (rfl) (reach_own (k := 0) rfl hpv)) ?_
              refine Gq.valg rfl rfl rfl rfl rfl (val_load rfl Try.ty28 rfl rfl (cell_own (i := 0) (k := 0) rfl hpv rfl)) ?_
              refine Gq.valg rfl rfl rfl rfl rfl (val_call (vs := [.int .u32 ((x0 : Nat) : Int), .int .u32 ((pv : Nat) : Int)]) rfl Try.fn47 rfl (fun w H => less_any x0 pv)) ?_
              refine Gq.valg rfl rfl rfl rfl rfl (val_notD rfl rfl) ?_
              refine Gq.val rfl rfl rfl (val_pickT rfl rfl rfl) ?_
              refine Gq.done ?_
              refine Gx.thenN ?_
              refine Gx.dec rfl (fun h75 => ?_) (fun h75 => ?_)
              · refine Gx.seq ?_
                refine Gx.region ?_
                refine Gx.val rfl rfl rfl (val_move rfl rfl) ?_
                refine Gx.val rfl rfl rfl (val_move rfl rfl) ?_
                refine Gx.val rfl rfl rfl (val_move rfl rfl) ?_
                refine Gx.val rfl rfl rfl (val_move rfl rfl) ?_
                refine Gx.eff rfl rfl rfl (eff_call (vs := [v, .int .i64 ((a1 : Nat) : Int), .int .i64 ((b1 : Nat) : Int), .int .i64 ((p17 : Nat) : Int)]) rfl Try.fn48 rfl (fun w H => parteq_any (a := a1) (b := b1) (p := p17) (by omega) (by omega) (by have := (hps.sub hsy13).sh.len; omega) (by have := (hps.sub hsy13).sh.len; omega) hpv (H.at_ (k := 0) rfl))) ?_
                rintro _ l83 ⟨ys76, m78, hsy77, hm79, hn80, hlo81, hhi82, rfl, hl83⟩
                refine Gx.sepEq (l' := [Hp.own FU 1 v ys76, R]) hl83 ?_
                refine Gx.val rfl rfl rfl (val_assign rfl rfl) ?_
                refine Gx.done ?_
                refine Gx.thenN ?_
                refine Gx.seq ?_
                have hnps := ((hps.sub hsy13).sub hsy77).eq hB (by omega) (by omega) (by omega) (by rw [hsy77.out (by omega)]; exact hx0) (by omega) hlo81 hhi82
                refine Gx.region ?_
                refine Gx.val rfl rfl rfl (val_move rfl rfl) ?_
                refine Gx.val rfl rfl rfl (val_assign rfl rfl) ?_
                refine Gx.done ?_
                refine Gx.thenN ?_
                refine Gx.exit ?_
                refine Gx.thenE ?_
                refine Gx.blkE ?_
                refine Gx.thenN ?_
                exact Gx.round (m78, b1, li - 1, wb, wp, ys76) ⟨by first | omega | (dsimp only; omega), hnps⟩ (by first | omega | (dsimp only; omega)) ((.cons rfl (.cons rfl (.cons rfl (.cons rfl (.cons rfl (.cons rfl .nil))))))) rfl
              · refine Gx.skip ?_
                refine Gx.thenN ?_
                refine Gx.seq ?_
                refine Gx.region ?_
                refine Gx.val rfl rfl rfl (val_move rfl rfl) ?_
                refine Gx.val rfl rfl rfl (val_move rfl rfl) ?_
                refine Gx.val rfl rfl rfl (val_move rfl rfl) ?_
                refine Gx.val rfl rfl rfl (val_move rfl rfl) ?_
                refine Gx.eff rfl rfl rfl (eff_call (vs := [v, .int .i64 ((a1 : Nat) : Int), .int .i64 ((b1 : Nat) : Int), .int .i64 ((p17 : Nat) : Int)]) rfl Try.fn49 rfl (fun w H => part_any (a := a1) (b := b1) (p := p17) (by omega) (by omega) (by have := (hps.sub hsy13).sh.len; omega) (by have := (hps.sub hsy13).sh.len; omega) hpv (H.at_ (k := 0) rfl))) ?_
                rintro _ l93 ⟨ys84, m86, al87, hsy85, hm88, hn89, hv90, hlo91, hhi92, rfl, hl93⟩
                refine Gx.sepEq (l' := [Hp.own FU 1 v ys84, R]) hl93 ?_
                refine Gx.val rfl rfl rfl (val_move rfl rfl) ?_
                refine Gx.val rfl rfl rfl (val_extract rfl rfl rfl) ?_
                refine Gx.val rfl rfl rfl (val_extract rfl rfl rfl) ?_
                refine Gx.val rfl rfl rfl (val_assign rfl rfl) ?_
                refine Gx.val rfl rfl rfl (val_assign rfl rfl) ?_
                refine Gx.done ?_
                refine Gx.thenN ?_
                refine Gx.seq ?_
                refine Gx.region ?_
                refine Gx.val rfl rfl rfl (val_move rfl rfl) ?_
                refine Gx.val rfl rfl rfl (val_assign rfl rfl) ?_
                refine Gx.done ?_
                refine Gx.thenN ?_
                refine Gx.seq ?_
                refine Gx.region ?_
                refine Gx.val rfl rfl rfl (val_move rfl rfl) ?_
                refine Gx.val rfl rfl rfl (val_move rfl rfl) ?_
                refine Gx.val rfl rfl rfl (val_sub rfl rfl rfl (r := ((m86 - a1 : Nat) : Int)) (w64 (by omega) (by omega))) ?_
                refine Gx.val rfl rfl rfl (val_move rfl rfl) ?_
                refine Gx.val rfl rfl rfl (val_move rfl rfl) ?_
                refine Gx.val rfl rfl rfl (val_sub rfl rfl rfl (r := ((b1 - m86 : Nat) : Int)) (w64 (by omega) (by omega))) ?_
                refine Gx.val rfl rfl rfl (val_assign rfl rfl) ?_
                refine Gx.val rfl rfl rfl (val_assign rfl rfl) ?_
                refine Gx.done ?_
                refine Gx.thenN ?_
                refine Gx.seq ?_
                refine Gx.region ?_
                refine Gx.val rfl rfl rfl (val_move rfl rfl) ?_
                refine Gx.val rfl rfl rfl (val_quo rfl rfl rfl (r := (((b1 - a1) / 8 : Nat) : Int)) (by omega) (q64 (a := b1 - a1) (m := 8) (by omega) rfl (by omega))) ?_
                refine Gx.val rfl rfl rfl (val_assign rfl rfl) ?_
                refine Gx.done ?_
                refine Gx.thenN ?_
                refine Gx.seq ?_
                refine Gx.region ?_
                refine Gx.val rfl rfl rfl (val_move rfl rfl) ?_
                refine Gx.val rfl rfl rfl (val_move rfl rfl) ?_
                refine Gx.val rfl rfl rfl (val_lss rfl rfl rfl) ?_
                refine Gx.done ?_
                refine Gx.thenN ?_
                refine Gx.dec rfl (fun h94 => ?_) (fun h94 => ?_)
                · refine Gx.seq ?_
                  refine Gx.region ?_
                  refine Gx.val rfl rfl rfl (val_move rfl rfl) ?_
                  refine Gx.val rfl rfl rfl (val_move rfl rfl) ?_
                  refine Gx.val rfl rfl rfl (val_geq rfl rfl rfl) ?_
                  refine Gx.val rfl rfl rfl (val_assign rfl rfl) ?_
                  refine Gx.done ?_
                  refine Gx.thenN ?_
                  refine Gx.seq ?_
                  refine Gx.region ?_
                  refine Gx.val rfl rfl rfl (val_move rfl rfl) ?_
                  refine Gx.val rfl rfl rfl (val_move rfl rfl) ?_
                  refine Gx.val rfl rfl rfl (val_move rfl rfl) ?_
                  refine Gx.val rfl rfl rfl (val_move rfl rfl) ?_
                  refine Gx.eff rfl rfl rfl (eff_call (vs := [v, .int .i64 ((a1 : Nat) : Int), .int .i64 ((m86 : Nat) : Int), .int .i64 ((li - 1 : Nat) : Int)]) rfl Try.fn39 rfl (fun w H => ih (a := a1) (b := m86) (limit := li - 1) (by omega) (by omega) (by have := ((hps.sub hsy13).sub hsy85).sh.len; omega) (by have := ((hps.sub hsy13).sub hsy85).sh.len; omega) (by omega) ((((hps.sub hsy13).sub hsy85).bel hB).mono (by omega)) (H.at_ (k := 0) rfl))) ?_
                  rintro _ l98 ⟨ys95, hsy96, hsr97, rfl, hl98⟩
                  refine Gx.sepEq (l' := [Hp.own FU 1 v ys95, R]) hl98 ?_
                  refine Gx.done ?_
                  refine Gx.thenN ?_
                  have hnps := (((hps.sub hsy13).sub hsy85).sub (hsy96.mono (Nat.le_refl _) (by omega))).left (by omega) (by omega) (by rw [hsy96.out (by omega)]; exact hv90) (hlo91.sh hsy96) (hhi92.sh' hsy96 (by omega)) hsr97
                  refine Gx.region ?_
                  refine Gx.val rfl rfl rfl (val_move rfl rfl) ?_
                  refine Gx.val rfl rfl rfl (val_add rfl rfl rfl (r := ((m86 + 1 : Nat) : Int)) (w64 (by omega) (by omega))) ?_
                  refine Gx.val rfl rfl rfl (val_assign rfl rfl) ?_
                  refine Gx.done ?_
                  refine Gx.blkN ?_
                  refine Gx.thenN ?_
                  exact Gx.round (m86 + 1, b1, li - 1, decide ((((b1 - a1) / 8 : Nat) : Int) ≤ ((m86 - a1 : Nat) : Int)), al87, ys95) ⟨by first | omega | (dsimp only; omega), hnps⟩ (by first | omega | (dsimp only; omega)) ((.cons rfl (.cons rfl (.cons rfl (.cons rfl (.cons rfl (.cons rfl .nil))))))) rfl
                · refine Gx.seq ?_
                  refine Gx.region ?_
                  refine Gx.val rfl rfl rfl (val_move rfl rfl) ?_
                  refine Gx.val rfl rfl rfl (val_move rfl rfl) ?_
                  refine Gx.val rfl rfl rfl (val_geq rfl rfl rfl) ?_
                  refine Gx.val rfl rfl rfl (val_assign rfl rfl) ?_
                  refine Gx.done ?_
                  refine Gx.thenN ?_
                  refine Gx.seq ?_
                  refine Gx.region ?_
                  refine Gx.val rfl rfl rfl (val_move rfl rfl) ?_
                  refine Gx.val rfl rfl rfl (val_move rfl rfl) ?_
                  refine Gx.val rfl rfl rfl (val_add rfl rfl rfl (r := ((m86 + 1 : Nat) : Int)) (w64 (by omega) (by omega))) ?_
                  refine Gx.val rfl rfl rfl (val_move rfl rfl) ?_
                  refine Gx.val rfl rfl rfl (val_move rfl rfl) ?_
                  refine Gx.eff rfl rfl rfl (eff_call (vs := [v, .int .i64 ((m86 + 1 : Nat) : Int), .int .i64 ((b1 : Nat) : Int), .int .i64 ((li - 1 : Nat) : Int)]) rfl Try.fn39 rfl (fun w H => ih (a := (m86 + 1)) (b := b1) (limit := li - 1) (by omega) (by omega) (by have := ((hps.sub hsy13).sub hsy85).sh.len; omega) (by have := ((hps.sub hsy13).sub hsy85).sh.len; omega) (by omega) (Bel.at_ hv90 hhi92) (H.at_ (k := 0) rfl))) ?_
                  rintro _ l102 ⟨ys99, hsy100, hsr101, rfl, hl102⟩
                  refine Gx.sepEq (l' := [Hp.own FU 1 v ys99, R]) hl102 ?_
                  refine Gx.done ?_
                  refine Gx.thenN ?_
                  have hnps := (((hps.sub hsy13).sub hsy85).sub (hsy100.mono (by omega) (Nat.le_refl _))).right (by omega) (by omega) (by rw [hsy100.out (by omega)]; exact hv90) (hlo91.sh' hsy100 (by omega)) (hhi92.sh hsy100) hsr101
                  refine Gx.region ?_
                  refine Gx.val rfl rfl rfl (val_move rfl rfl) ?_
                  refine Gx.val rfl rfl rfl (val_assign rfl rfl) ?_
                  refine Gx.done ?_
                  refine Gx.blkN ?_
                  refine Gx.thenN ?_
                  exact Gx.round (a1, m86, li - 1, decide ((((b1 - a1) / 8 : Nat) : Int) ≤ ((b1 - m86 : Nat) : Int)), al87, ys99) ⟨by first | omega | (dsimp only; omega), hnps⟩ (by first | omega | (dsimp only; omega)) ((.cons rfl (.cons rfl (.cons rfl (.cons rfl (.cons rfl (.cons rfl .nil))))))) rfl
            · refine Gq.skipg rfl rfl rfl rfl rfl rfl ?_
              refine Gq.skipg rfl rfl rfl rfl rfl rfl ?_
              refine Gq.skipg rfl rfl rfl rfl rfl rfl ?_
              refine Gq.skipg rfl rfl rfl rfl rfl rfl ?_
              refine Gq.skipg rfl rfl rfl rfl rfl rfl ?_
              refine Gq.skipg rfl rfl rfl rfl rfl rfl ?_
              refine Gq.skipg rfl rfl rfl rfl rfl rfl ?_
              refine Gq.skipg rfl rfl rfl rfl rfl rfl ?_
              refine Gq.skipg rfl rfl rfl rfl rfl rfl ?_
              refine Gq.skipg rfl rfl rfl rfl rfl rfl ?_
              refine Gq.skipg rfl rfl rfl rfl rfl rfl ?_
              refine Gq.val rfl rfl rfl (val_pickF rfl rfl rfl) ?_
              refine Gq.done ?_
              refine Gx.thenN ?_
              refine Gx.f rfl ?_
              refine Gx.skip ?_
              refine Gx.thenN ?_
              refine Gx.seq ?_
              refine Gx.region ?_
              refine Gx.val rfl rfl rfl (val_move rfl rfl) ?_
              refine Gx.val rfl rfl rfl (val_move rfl rfl) ?_
              refine Gx.val rfl rfl rfl (val_move rfl rfl) ?_
              refine Gx.val rfl rfl rfl (val_move rfl rfl) ?_
              refine Gx.eff rfl rfl rfl (eff_call (vs := [v, .int .i64 ((a1 : Nat) : Int), .int .i64 ((b1 : Nat) : Int), .int .i64 ((p17 : Nat) : Int)]) rfl Try.fn49 rfl (fun w H => part_any (a := a1) (b := b1) (p := p17) (by omega) (by omega) (by have := (hps.sub hsy13).sh.len; omega) (by have := (hps.sub hsy13).sh.len; omega) hpv (H.at_ (k := 0) rfl))) ?_
              rintro _ l112 ⟨ys103, m105, al106, hsy104, hm107, hn108, hv109, hlo110, hhi111, rfl, hl112⟩
              refine Gx.sepEq (l' := [Hp.own FU 1 v ys103, R]) hl112 ?_
              refine Gx.val rfl rfl rfl (val_move rfl rfl) ?_
              refine Gx.val rfl rfl rfl (val_extract rfl rfl rfl) ?_
              refine Gx.val rfl rfl rfl (val_extract rfl rfl rfl) ?_
              refine Gx.val rfl rfl rfl (val_assign rfl rfl) ?_
              refine Gx.val rfl rfl rfl (val_assign rfl rfl) ?_
              refine Gx.done ?_
              refine Gx.thenN ?_
              refine Gx.seq ?_
              refine Gx.region ?_
              refine Gx.val rfl rfl rfl (val_move rfl rfl) ?_
              refine Gx.val rfl rfl rfl (val_assign rfl rfl) ?_
              refine Gx.done ?_
              refine Gx.thenN ?_
              refine Gx.seq ?_
              refine Gx.region ?_
              refine Gx.val rfl rfl rfl (val_move rfl rfl) ?_
              refine Gx.val rfl rfl rfl (val_move rfl rfl) ?_
              refine Gx.val rfl rfl rfl (val_sub rfl rfl rfl (r := ((m105 - a1 : Nat) : Int)) (w64 (by omega) (by omega))) ?_
              refine Gx.val rfl rfl rfl (val_move rfl rfl) ?_
              refine Gx.val rfl rfl rfl (val_move rfl rfl) ?_
              refine Gx.val rfl rfl rfl (val_sub rfl rfl rfl (r := ((b1 - m105 : Nat) : Int)) (w64 (by omega) (by omega))) ?_
              refine Gx.val rfl rfl rfl (val_assign rfl rfl) ?_
              refine Gx.val rfl rfl rfl (val_assign rfl rfl) ?_
              refine Gx.done ?_
              refine Gx.thenN ?_
              refine Gx.seq ?_
              refine Gx.region ?_
              refine Gx.val rfl rfl rfl (val_move rfl rfl) ?_
              refine Gx.val rfl rfl rfl (val_quo rfl rfl rfl (r := (((b1 - a1) / 8 : Nat) : Int)) (by omega) (q64 (a := b1 - a1) (m := 8) (by omega) rfl (by omega))) ?_
              refine Gx.val rfl rfl rfl (val_assign rfl rfl) ?_
              refine Gx.done ?_
              refine Gx.thenN ?_
              refine Gx.seq ?_
              refine Gx.region ?_
              refine Gx.val rfl rfl rfl (val_move rfl rfl) ?_
              refine Gx.val rfl rfl rfl (val_move rfl rfl) ?_
              refine Gx.val rfl rfl rfl (val_lss rfl rfl rfl) ?_
              refine Gx.done ?_
              refine Gx.thenN ?_
              refine Gx.dec rfl (fun h113 => ?_) (fun h113 => ?_)
              · refine Gx.seq ?_
                refine Gx.region ?_
                refine Gx.val rfl rfl rfl (val_move rfl rfl) ?_
                refine Gx.val rfl rfl rfl (val_move rfl rfl) ?_
                refine Gx.val rfl rfl rfl (val_geq rfl rfl rfl) ?_
                refine Gx.val rfl rfl rfl (val_assign rfl rfl) ?_
                refine Gx.done ?_
                refine Gx.thenN ?_
                refine Gx.seq ?_
                refine Gx.region ?_
                refine Gx.val rfl rfl rfl (val_move rfl rfl) ?_
                refine Gx.val rfl rfl rfl (val_move rfl rfl) ?_
                refine Gx.val rfl rfl rfl (val_move rfl rfl) ?_
                refine Gx.val rfl rfl rfl (val_move rfl rfl) ?_
                refine Gx.eff rfl rfl rfl (eff_call (vs := [v, .int .i64 ((a1 : Nat) : Int), .int .i64 ((m105 : Nat) : Int), .int .i64 ((li - 1 : Nat) : Int)]) rfl Try.fn39 rfl (fun w H => ih (a := a1) (b := m105) (limit := li - 1) (by omega) (by omega) (by have := ((hps.sub hsy13).sub hsy104).sh.len; omega) (by have := ((hps.sub hsy13).sub hsy104).sh.len; omega) (by omega) ((((hps.sub hsy13).sub hsy104).bel hB).mono (by omega)) (H.at_ (k := 0) rfl))) ?_
                rintro _ l117 ⟨ys114, hsy115, hsr116, rfl, hl117⟩
                refine Gx.sepEq (l' := [Hp.own FU 1 v ys114, R]) hl117 ?_
                refine Gx.done ?_
                refine Gx.thenN ?_
                have hnps := (((hps.sub hsy13).sub hsy104).sub (hsy115.mono (Nat.le_refl _) (by omega))).left (by omega) (by omega) (by rw [hsy115.out (by omega)]; exact hv109) (hlo110.sh hsy115) (hhi111.sh' hsy115 (by omega)) hsr116
                refine Gx.region ?_
                refine Gx.val rfl rfl rfl (val_move rfl rfl) ?_
                refine Gx.val rfl rfl rfl (val_add rfl rfl rfl (r := ((m105 + 1 : Nat) : Int)) (w64 (by omega) (by omega))) ?_
                refine Gx.val rfl rfl rfl (val_assign rfl rfl) ?_
                refine Gx.done ?_
                refine Gx.blkN ?_
                refine Gx.thenN ?_
                exact Gx.round (m105 + 1, b1, li - 1, decide ((((b1 - a1) / 8 : Nat) : Int) ≤ ((m105 - a1 : Nat) : Int)), al106, ys114) ⟨by first | omega | (dsimp only; omega), hnps⟩ (by first | omega | (dsimp only; omega)) ((.cons rfl (.cons rfl (.cons rfl (.cons rfl (.cons rfl (.cons rfl .nil))))))) rfl
              · refine Gx.seq ?_
                refine Gx.region ?_
                refine Gx.val rfl rfl rfl (val_move rfl rfl) ?_
                refine Gx.val rfl rfl rfl (val_move rfl rfl) ?_
                refine Gx.val rfl rfl rfl (val_geq rfl rfl rfl) ?_
                refine Gx.val rfl rfl rfl (val_assign rfl rfl) ?_
                refine Gx.done ?_
                refine Gx.thenN ?_
                refine Gx.seq ?_
                refine Gx.region ?_
                refine Gx.val rfl rfl rfl (val_move rfl rfl) ?_
                refine Gx.val rfl rfl rfl (val_move rfl rfl) ?_
                refine Gx.val rfl rfl rfl (val_add rfl rfl rfl (r := ((m105 + 1 : Nat) : Int)) (w64 (by omega) (by omega))) ?_
                refine Gx.val rfl rfl rfl (val_move rfl rfl) ?_
                refine Gx.val rfl rfl rfl (val_move rfl rfl) ?_
                refine Gx.eff rfl rfl rfl (eff_call (vs := [v, .int .i64 ((m105 + 1 : Nat) : Int), .int .i64 ((b1 : Nat) : Int), .int .i64 ((li - 1 : Nat) : Int)]) rfl Try.fn39 rfl (fun w H => ih (a := (m105 + 1)) (b := b1) (limit := li - 1) (by omega) (by omega) (by have := ((hps.sub hsy13).sub hsy104).sh.len; omega) (by have := ((hps.sub hsy13).sub hsy104).sh.len; omega) (by omega) (Bel.at_ hv109 hhi111) (H.at_ (k := 0) rfl))) ?_
                rintro _ l121 ⟨ys118, hsy119, hsr120, rfl, hl121⟩
                refine Gx.sepEq (l' := [Hp.own FU 1 v ys118, R]) hl121 ?_
                refine Gx.done ?_
                refine Gx.thenN ?_
                have hnps := (((hps.sub hsy13).sub hsy104).sub (hsy119.mono (by omega) (Nat.le_refl _))).right (by omega) (by omega) (by rw [hsy119.out (by omega)]; exact hv109) (hlo110.sh' hsy119 (by omega)) (hhi111.sh hsy119) hsr120
                refine Gx.region ?_
                refine Gx.val rfl rfl rfl (val_move rfl rfl) ?_
                refine Gx.val rfl rfl rfl (val_assign rfl rfl) ?_
                refine Gx.done ?_
                refine Gx.blkN ?_
                refine Gx.thenN ?_
                exact Gx.round (a1, m105, li - 1, decide ((((b1 - a1) / 8 : Nat) : Int) ≤ ((b1 - m105 : Nat) : Int)), al106, ys118) ⟨by first | omega | (dsimp only; omega), hnps⟩ (by first | omega | (dsimp only; omega)) ((.cons rfl (.cons rfl (.cons rfl (.cons rfl (.cons rfl (.cons rfl .nil))))))) rfl
        · refine Gx.skip ?_
          refine Gx.thenN ?_
          refine Gx.seq ?_
          refine Gx.region ?_
          refine Gx.val rfl rfl rfl (val_move rfl rfl) ?_
          refine Gx.val rfl rfl rfl (val_move rfl rfl) ?_
          refine Gx.val rfl rfl rfl (val_move rfl rfl) ?_
          refine Gx.eff rfl rfl rfl (eff_call (vs := [v, .int .i64 ((a1 : Nat) : Int), .int .i64 ((b1 : Nat) : Int)]) rfl Try.fn44 rfl (fun w H => pivot_any (a := a1) (b := b1) (by omega) (by have := hps.sh.len; omega) (by have := hps.sh.len; omega) (H.at_ (k := 0) rfl))) ?_
          rintro _ l128 ⟨p124, hh125, hp126, hq127, rfl, hl128⟩
          refine Gx.sepEq (l' := [Hp.own FU 1 v L, R]) hl128 ?_
          refine Gx.val rfl rfl rfl (val_move rfl rfl) ?_
          refine Gx.val rfl rfl rfl (val_extract rfl rfl rfl) ?_
          refine Gx.val rfl rfl rfl (val_extract rfl rfl rfl) ?_
          refine Gx.val rfl rfl rfl (val_assign rfl rfl) ?_
          refine Gx.val rfl rfl rfl (val_assign rfl rfl) ?_
          refine Gx.done ?_
          refine Gx.thenN ?_
          refine Gx.seq ?_
          refine Gx.seq ?_
          refine Gx.region ?_
          refine Gx.val rfl rfl rfl (val_move rfl rfl) ?_
          refine Gx.val rfl rfl rfl (val_eql rfl rfl rfl) ?_
          refine Gx.done ?_
          refine Gx.thenN ?_
          refine Gx.dec rfl (fun h129 => ?_) (fun h129 => ?_)
          · refine Gx.seq ?_
            refine Gx.region ?_
            refine Gx.val rfl rfl rfl (val_move rfl rfl) ?_
            refine Gx.val rfl rfl rfl (val_move rfl rfl) ?_
            refine Gx.val rfl rfl rfl (val_move rfl rfl) ?_
            refine Gx.eff rfl rfl rfl (eff_call (vs := [v, .int .i64 ((a1 : Nat) : Int), .int .i64 ((b1 : Nat) : Int)]) rfl Try.fn45 rfl (fun w H => rev_any (a := a1) (b := b1) (by omega) (by have := hps.sh.len; omega) (by have := hps.sh.len; omega) (H.at_ (k := 0) rfl))) ?_
            rintro _ l132 ⟨ys130, hsy131, rfl, hl132⟩
            refine Gx.sepEq (l' := [Hp.own FU 1 v ys130, R]) hl132 ?_
            refine Gx.done ?_
            refine Gx.thenN ?_
            refine Gx.seq ?_
            refine Gx.region ?_
            refine Gx.val rfl rfl rfl (val_move rfl rfl) ?_
            refine Gx.val rfl rfl rfl (val_sub rfl rfl rfl (r := ((b1 - 1 : Nat) : Int)) (w64 (by omega) (by omega))) ?_
            refine Gx.val rfl rfl rfl (val_move rfl rfl) ?_
            refine Gx.val rfl rfl rfl (val_move rfl rfl) ?_
            refine Gx.val rfl rfl rfl (val_sub rfl rfl rfl (r := ((p124 - a1 : Nat) : Int)) (w64 (by omega) (by omega))) ?_
            refine Gx.val rfl rfl rfl (val_sub rfl rfl rfl (r := ((b1 - 1 - (p124 - a1) : Nat) : Int)) (w64 (by omega) (by omega))) ?_
            refine Gx.val rfl rfl rfl (val_assign rfl rfl) ?_
            refine Gx.done ?_
            refine Gx.thenN ?_
            refine Gx.region ?_
            refine Gx.val rfl rfl rfl (val_assign rfl rfl) ?_
            refine Gx.done ?_
            refine Gx.thenN ?_
            refine Gx.seq ?_
            refine Gx.seq ?_
            refine Gx.region ?_
            refine Gx.val rfl rfl rfl (val_move rfl rfl) ?_
            refine Gx.val rfl rfl rfl (val_move rfl rfl) ?_
            refine Gx.slot (t := 62) (v := .bool true) (look_boolT rfl (by simpa using h11)) ?_
            refine Gx.valg rfl rfl rfl rfl rfl (val_move rfl rfl) ?_
            refine Gx.val rfl rfl rfl (val_pickT rfl rfl rfl) ?_
            refine Gx.val rfl rfl rfl (val_move rfl rfl) ?_
            refine Gx.casesB (t := 65) rfl (fun h133 => ?_) (fun h133 => ?_)
            · refine Gx.valg rfl rfl rfl rfl rfl (val_move rfl rfl) ?_
              refine Gx.valg rfl rfl rfl rfl rfl (Val.cast (val_eql rfl rfl rfl) (v' := .bool true) rfl) ?_
              refine Gx.val rfl rfl rfl (val_pickT rfl rfl rfl) ?_
              refine Gx.done ?_
              refine Gx.thenN ?_
              refine Gx.t rfl ?_
              refine Gx.seq ?_
              refine Gx.region ?_
              refine Gx.val rfl rfl rfl (val_move rfl rfl) ?_
              refine Gx.val rfl rfl rfl (val_move rfl rfl) ?_
              refine Gx.val rfl rfl rfl (val_move rfl rfl) ?_
              refine Gx.eff rfl rfl rfl (eff_call (vs := [v, .int .i64 ((a1 : Nat) : Int), .int .i64 ((b1 : Nat) : Int)]) rfl Try.fn46 rfl (fun w H => pins_any (a := a1) (b := b1) (by omega) (by have := (hps.sub hsy131).sh.len; omega) (by have := (hps.sub hsy131).sh.len; omega) ((hps.sub hsy131).bel hB) (H.at_ (k := 0) rfl))) ?_
              rintro _ l138 ⟨ys134, al136, hsy135, hal137, rfl, hl138⟩
              refine Gx.sepEq (l' := [Hp.own FU 1 v ys134, R]) hl138 ?_
              refine Gx.done ?_
              refine Gx.thenN ?_
              refine Gx.bool rfl (fun h139 => ?_) (fun h139 => ?_)
              · refine Gx.ret ?_
                refine Gx.thenR ?_
                refine Gx.blkR ?_
                refine Gx.thenR ?_
                refine Gx.blkR ?_
                refine Gx.ret0 Try.results39 ?_
                exact ⟨_, ((hps.sub hsy131).sub hsy135).sh, ((hps.sub hsy131).sub hsy135).done (hal137 (by assumption)), rfl, sep1 _ _⟩
              · refine Gx.skip ?_
                refine Gx.thenN ?_
                refine Gx.seq ?_
                refine Gx.seq ?_
                have hpc := ((hps.sub hsy131).sub hsy135).sh.len
                obtain ⟨pv, hpv⟩ := get_of_lt (xs := ys134) (k := b1 - 1 - (p124 - a1)) (by omega)
                refine Gx.regionQ Try.mixed (by kernel_rfl) ?_
                refine Gq.val rfl rfl rfl (val_move rfl rfl) ?_
                refine Gq.val rfl rfl rfl (val_gtr rfl rfl rfl) ?_
                refine Gq.val rfl rfl rfl (val_move rfl rfl) ?_
                refine Gq.cases (t := 75) rfl (fun h140 => ?_) (fun h140 => ?_)
                · obtain ⟨x0, hx0⟩ := get_of_lt (xs := ys134) (k := a1 - 1) (by omega)
                  refine Gq.valg rfl rfl rfl rfl rfl (val_move rfl rfl) ?_
                  refine Gq.valg rfl rfl rfl rfl rfl (val_move rfl rfl) ?_
                  refine Gq.valg rfl rfl rfl rfl rfl (val_sub rfl rfl rfl (r := ((a1 - 1 : Nat) : Int)) (w64 (by omega) (by omega))) ?_
                  refine Gq.valg rfl rfl rfl rfl rfl (val_ixa rfl Try.underlying22 Try.ty28 rfl rfl (j := a1 - 1) (rfl) (reach_own (k := 0) rfl hx0)) ?_
                  refine Gq.valg rfl rfl rfl rfl rfl (val_load rfl Try.ty28 rfl rfl (cell_own (i := 0) (sz := 1) (j := a1 - 1) (k := 0) rfl hx0 rfl)) ?_
                  refine Gq.valg rfl rfl rfl rfl rfl (val_move rfl rfl) ?_
                  refine Gq.valg rfl rfl rfl rfl rfl (val_move rfl rfl) ?_
                  refine Gq.valg rfl rfl rfl rfl rfl (val_ixa rfl Try.underlying22 Try.ty28 rfl rfl (j := b1 - 1 - (p124 - a1)) (rfl) (reach_own (k := 0) rfl hpv)) ?_
                  refine Gq.valg rfl rfl rfl rfl rfl (val_load rfl Try.ty28 rfl rfl (cell_own (i := 0) (sz := 1) (j := b1 - 1 - (p124 - a1)) (k := 0) rfl hpv rfl)) ?_
                  refine Gq.valg rfl rfl rfl rfl rfl (val_call (vs := [.int .u32 ((x0 : Nat) : Int), .int .u32 ((pv : Nat) : Int)]) rfl Try.fn47 rfl (fun w H => less_any x0 pv)) ?_
                  refine Gq.valg rfl rfl rfl rfl rfl (val_notD rfl rfl) ?_
                  refine Gq.val rfl rfl rfl (val_pickT rfl rfl rfl) ?_
                  refine Gq.done ?_
                  refine Gx.thenN ?_
                  refine Gx.dec rfl (fun h141 => ?_) (fun h141 => ?_)
                  · refine Gx.seq ?_
                    refine Gx.region ?_
                    refine Gx.val rfl rfl rfl (val_move rfl rfl) ?_
                    refine Gx.val rfl rfl rfl (val_move rfl rfl) ?_
                    refine Gx.val rfl rfl rfl (val_move rfl rfl) ?_
                    refine Gx.val rfl rfl rfl (val_move rfl rfl) ?_
                    refine Gx.eff rfl rfl rfl (eff_call (vs := [v, .int .i64 ((a1 : Nat) : Int), .int .i64 ((b1 : Nat) : Int), .int .i64 ((b1 - 1 - (p124 - a1) : Nat) : Int)]) rfl Try.fn48 rfl (fun w H => parteq_any (a := a1) (b := b1) (p := b1 - 1 - (p124 - a1)) (by omega) (by omega) (by have := ((hps.sub hsy131).sub hsy135).sh.len; omega) (by have := ((hps.sub hsy131).sub hsy135).sh.len; omega) hpv (H.at_ (k := 0) rfl))) ?_
                    rintro _ l149 ⟨ys142, m144, hsy143, hm145, hn146, hlo147, hhi148, rfl, hl149⟩
                    refine Gx.sepEq (l' := [Hp.own FU 1 v ys142, R]) hl149 ?_
                    refine Gx.val rfl rfl rfl (val_assign rfl rfl) ?_
                    refine Gx.done ?_
                    refine Gx.thenN ?_
                    refine Gx.seq ?_
                    have hnps := (((hps.sub hsy131).sub hsy135).sub hsy143).eq hB (by omega) (by omega) (by omega) (by rw [hsy143.out (by omega)]; exact hx0) (by omega) hlo147 hhi148
                    refine Gx.region ?_
                    refine Gx.val rfl rfl rfl (val_move rfl rfl) ?_
                    refine Gx.val rfl rfl rfl (val_assign rfl rfl) ?_
                    refine Gx.done ?_
                    refine Gx.thenN ?_
                    refine Gx.exit ?_
                    refine Gx.thenE ?_
                    refine Gx.blkE ?_
                    refine Gx.thenN ?_
                    exact Gx.round (m144, b1, li, wb, wp, ys142) ⟨by first | omega | (dsimp only; omega), hnps⟩ (by first | omega | (dsimp only; omega)) ((.cons rfl (.cons rfl (.cons rfl (.cons rfl (.cons rfl (.cons rfl .nil))))))) rfl
                  · refine Gx.skip ?_
                    refine Gx.thenN ?_
                    refine Gx.seq ?_
                    refine Gx.region ?_
                    refine Gx.val rfl rfl rfl (val_move rfl rfl) ?_
                    refine Gx.val rfl rfl rfl (val_move rfl rfl) ?_
                    refine Gx.val rfl rfl rfl (val_move rfl rfl) ?_
                    refine Gx.val rfl rfl rfl (val_move rfl rfl) ?_
                    refine Gx.eff rfl rfl rfl (eff_call (vs := [v, .int .i64 ((a1 : Nat) : Int), .int .i64 ((b1 : Nat) : Int), .int .i64 ((b1 - 1 - (p124 - a1) : Nat) : Int)]) rfl Try.fn49 rfl (fun w H => part_any (a := a1) (b := b1) (p := b1 - 1 - (p124 - a1)) (by omega) (by omega) (by have := ((hps.sub hsy131).sub hsy135).sh.len; omega) (by have := ((hps.sub hsy131).sub hsy135).sh.len; omega) hpv (H.at_ (k := 0) rfl))) ?_
                    rintro _ l159 ⟨ys150, m152, al153, hsy151, hm154, hn155, hv156, hlo157, hhi158, rfl, hl159⟩
                    refine Gx.sepEq (l' := [Hp.own FU 1 v ys150, R]) hl159 ?_
                    refine Gx.val rfl rfl rfl (val_move rfl rfl) ?_
                    refine Gx.val rfl rfl rfl (val_extract rfl rfl rfl) ?_
                    refine Gx.val rfl rfl rfl (val_extract rfl rfl rfl) ?_
                    refine Gx.val rfl rfl rfl (val_assign rfl rfl) ?_
                    refine Gx.val rfl rfl rfl (val_assign rfl rfl) ?_
                    refine Gx.done ?_
                    refine Gx.thenN ?_
                    refine Gx.seq ?_
                    refine Gx.region ?_
                    refine Gx.val rfl rfl rfl (val_move rfl rfl) ?_
                    refine Gx.val rfl rfl rfl (val_assign rfl rfl) ?_
                    refine Gx.done ?_
                    refine Gx.thenN ?_
                    refine Gx.seq ?_
                    refine Gx.region ?_
                    refine Gx.val rfl rfl rfl (val_move rfl rfl) ?_
                    refine Gx.val rfl rfl rfl (val_move rfl rfl) ?_
                    refine Gx.val rfl rfl rfl (val_sub rfl rfl rfl (r := ((m152 - a1 : Nat) : Int)) (w64 (by omega) (by omega))) ?_
                    refine Gx.val rfl rfl rfl (val_move rfl rfl) ?_
                    refine Gx.val rfl rfl rfl (val_move rfl rfl) ?_
                    refine Gx.val rfl rfl rfl (val_sub rfl rfl rfl (r := ((b1 - m152 : Nat) : Int)) (w64 (by omega) (by omega))) ?_
                    refine Gx.val rfl rfl rfl (val_assign rfl rfl) ?_
                    refine Gx.val rfl rfl rfl (val_assign rfl rfl) ?_
                    refine Gx.done ?_
                    refine Gx.thenN ?_
                    refine Gx.seq ?_
                    refine Gx.region ?_
                    refine Gx.val rfl rfl rfl (val_move rfl rfl) ?_
                    refine Gx.val rfl rfl rfl (val_quo rfl rfl rfl (r := (((b1 - a1) / 8 : Nat) : Int)) (by omega) (q64 (a := b1 - a1) (m := 8) (by omega) rfl (by omega))) ?_
                    refine Gx.val rfl rfl rfl (val_assign rfl rfl) ?_
                    refine Gx.done ?_
                    refine Gx.thenN ?_
                    refine Gx.seq ?_
                    refine Gx.region ?_
                    refine Gx.val rfl rfl rfl (val_move rfl rfl) ?_
                    refine Gx.val rfl rfl rfl (val_move rfl rfl) ?_
                    refine Gx.val rfl rfl rfl (val_lss rfl rfl rfl) ?_
                    refine Gx.done ?_
                    refine Gx.thenN ?_
                    refine Gx.dec rfl (fun h160 => ?_) (fun h160 => ?_)
                    · refine Gx.seq ?_
                      refine Gx.region ?_
                      refine Gx.val rfl rfl rfl (val_move rfl rfl) ?_
                      refine Gx.val rfl rfl rfl (val_move rfl rfl) ?_
                      refine Gx.val rfl rfl rfl (val_geq rfl rfl rfl) ?_
                      refine Gx.val rfl rfl rfl (val_assign rfl rfl) ?_
                      refine Gx.done ?_
                      refine Gx.thenN ?_
                      refine Gx.seq ?_
                      refine Gx.region ?_
                      refine Gx.val rfl rfl rfl (val_move rfl rfl) ?_
                      refine Gx.val rfl rfl rfl (val_move rfl rfl) ?_
                      refine Gx.val rfl rfl rfl (val_move rfl rfl) ?_
                      refine Gx.val rfl rfl rfl (val_move rfl rfl) ?_
                      refine Gx.eff rfl rfl rfl (eff_call (vs := [v, .int .i64 ((a1 : Nat) : Int), .int .i64 ((m152 : Nat) : Int), .int .i64 ((li : Nat) : Int)]) rfl Try.fn39 rfl (fun w H => ih (a := a1) (b := m152) (limit := li) (by omega) (by omega) (by have := (((hps.sub hsy131).sub hsy135).sub hsy151).sh.len; omega) (by have := (((hps.sub hsy131).sub hsy135).sub hsy151).sh.len; omega) (by omega) (((((hps.sub hsy131).sub hsy135).sub hsy151).bel hB).mono (by omega)) (H.at_ (k := 0) rfl))) ?_
                      rintro _ l164 ⟨ys161, hsy162, hsr163, rfl, hl164⟩
                      refine Gx.sepEq (l' := [Hp.own FU 1 v ys161, R]) hl164 ?_
                      refine Gx.done ?_
                      refine Gx.thenN ?_
                      have hnps := ((((hps.sub hsy131).sub hsy135).sub hsy151).sub (hsy162.mono (Nat.le_refl _) (by omega))).left (by omega) (by omega) (by rw [hsy162.out (by omega)]; exact hv156) (hlo157.sh hsy162) (hhi158.sh' hsy162 (by omega)) hsr163
                      refine Gx.region ?_
                      refine Gx.val rfl rfl rfl (val_move rfl rfl) ?_
                      refine Gx.val rfl rfl rfl (val_add rfl rfl rfl (r := ((m152 + 1 : Nat) : Int)) (w64 (by omega) (by omega))) ?_
                      refine Gx.val rfl rfl rfl (val_assign rfl rfl) ?_
                      refine Gx.done ?_
                      refine Gx.blkN ?_
                      refine Gx.thenN ?_
                      exact Gx.round (m152 + 1, b1, li, decide ((((b1 - a1) / 8 : Nat) : Int) ≤ ((m152 - a1 : Nat) : Int)), al153, ys161) ⟨by first | omega | (dsimp only; omega), hnps⟩ (by first | omega | (dsimp only; omega)) ((.cons rfl (.cons rfl (.cons rfl (.cons rfl (.cons rfl (.cons rfl .nil))))))) rfl
                    · refine Gx.seq ?_
                      refine Gx.region ?_
                      refine Gx.val rfl rfl rfl (val_move rfl rfl) ?_
                      refine Gx.val rfl rfl rfl (val_move rfl rfl) ?_
                      refine Gx.val rfl rfl rfl (val_geq rfl rfl rfl) ?_
                      refine Gx.val rfl rfl rfl (val_assign rfl rfl) ?_
                      refine Gx.done ?_
                      refine Gx.thenN ?_
                      refine Gx.seq ?_
                      refine Gx.region ?_
                      refine Gx.val rfl rfl rfl (val_move rfl rfl) ?_
                      refine Gx.val rfl rfl rfl (val_move rfl rfl) ?_
                      refine Gx.val rfl rfl rfl (val_add rfl rfl rfl (r := ((m152 + 1 : Nat) : Int)) (w64 (by omega) (by omega))) ?_
                      refine Gx.val rfl rfl rfl (val_move rfl rfl) ?_
                      refine Gx.val rfl rfl rfl (val_move rfl rfl) ?_
                      refine Gx.eff rfl rfl rfl (eff_call (vs := [v, .int .i64 ((m152 + 1 : Nat) : Int), .int .i64 ((b1 : Nat) : Int), .int .i64 ((li : Nat) : Int)]) rfl Try.fn39 rfl (fun w H => ih (a := (m152 + 1)) (b := b1) (limit := li) (by omega) (by omega) (by have := (((hps.sub hsy131).sub hsy135).sub hsy151).sh.len; omega) (by have := (((hps.sub hsy131).sub hsy135).sub hsy151).sh.len; omega) (by omega) (Bel.at_ hv156 hhi158) (H.at_ (k := 0) rfl))) ?_
                      rintro _ l168 ⟨ys165, hsy166, hsr167, rfl, hl168⟩
                      refine Gx.sepEq (l' := [Hp.own FU 1 v ys165, R]) hl168 ?_
                      refine Gx.done ?_
                      refine Gx.thenN ?_
                      have hnps := ((((hps.sub hsy131).sub hsy135).sub hsy151).sub (hsy166.mono (by omega) (Nat.le_refl _))).right (by omega) (by omega) (by rw [hsy166.out (by omega)]; exact hv156) (hlo157.sh' hsy166 (by omega)) (hhi158.sh hsy166) hsr167
                      refine Gx.region ?_
                      refine Gx.val rfl rfl rfl (val_move rfl rfl) ?_
                      refine Gx.val rfl rfl rfl (val_assign rfl rfl) ?_
                      refine Gx.done ?_
                      refine Gx.blkN ?_
                      refine Gx.thenN ?_
                      exact Gx.round (a1, m152, li, decide ((((b1 - a1) / 8 : Nat) : Int) ≤ ((b1 - m152 : Nat) : Int)), al153, ys165) ⟨by first | omega | (dsimp only; omega), hnps⟩ (by first | omega | (dsimp only; omega)) ((.cons rfl (.cons rfl (.cons rfl (.cons rfl (.cons rfl (.cons rfl .nil))))))) rfl
                · refine Gq.skipg rfl rfl rfl rfl rfl rfl ?_
                  refine Gq.skipg rfl rfl rfl rfl rfl rfl ?_
                  refine Gq.skipg rfl rfl rfl rfl rfl rfl ?_
                  refine Gq.skipg rfl rfl rfl rfl rfl rfl ?_
                  refine Gq.skipg rfl rfl rfl rfl rfl rfl ?_
                  refine Gq.skipg rfl rfl rfl rfl rfl rfl ?_
                  refine Gq.skipg rfl rfl rfl rfl rfl rfl ?_
                  refine Gq.skipg rfl rfl rfl rfl rfl rfl ?_
                  refine Gq.skipg rfl rfl rfl rfl rfl rfl ?_
                  refine Gq.skipg rfl rfl rfl rfl rfl rfl ?_
                  refine Gq.skipg rfl rfl rfl rfl rfl rfl ?_
                  refine Gq.val rfl rfl rfl (val_pickF rfl rfl rfl) ?_
                  refine Gq.done ?_
                  refine Gx.thenN ?_
                  refine Gx.f rfl ?_
                  refine Gx.skip ?_
                  refine Gx.thenN ?_
                  refine Gx.seq ?_
                  refine Gx.region ?_
                  refine Gx.val rfl rfl rfl (val_move rfl rfl) ?_
                  refine Gx.val rfl rfl rfl (val_move rfl rfl) ?_
                  refine Gx.val rfl rfl rfl (val_move rfl rfl) ?_
                  refine Gx.val rfl rfl rfl (val_move rfl rfl) ?_
                  refine Gx.eff rfl rfl rfl (eff_call (vs := [v, .int .i64 ((a1 : Nat) : Int), .int .i64 ((b1 : Nat) : Int), .int .i64 ((b1 - 1 - (p124 - a1) : Nat) : Int)]) rfl Try.fn49 rfl (fun w H => part_any (a := a1) (b := b1) (p := b1 - 1 - (p124 - a1)) (by omega) (by omega) (by have := ((hps.sub hsy131).sub hsy135).sh.len; omega) (by have := ((hps.sub hsy131).sub hsy135).sh.len; omega) hpv (H.at_ (k := 0) rfl))) ?_
                  rintro _ l178 ⟨ys169, m171, al172, hsy170, hm173, hn174, hv175, hlo176, hhi177, rfl, hl178⟩
                  refine Gx.sepEq (l' := [Hp.own FU 1 v ys169, R]) hl178 ?_
                  refine Gx.val rfl rfl rfl (val_move rfl rfl) ?_
                  refine Gx.val rfl rfl rfl (val_extract rfl rfl rfl) ?_
                  refine Gx.val rfl rfl rfl (val_extract rfl rfl rfl) ?_
                  refine Gx.val rfl rfl rfl (val_assign rfl rfl) ?_
                  refine Gx.val rfl rfl rfl (val_assign rfl rfl) ?_
                  refine Gx.done ?_
                  refine Gx.thenN ?_
                  refine Gx.seq ?_
                  refine Gx.region ?_
                  refine Gx.val rfl rfl rfl (val_move rfl rfl) ?_
                  refine Gx.val rfl rfl rfl (val_assign rfl rfl) ?_
                  refine Gx.done ?_
                  refine Gx.thenN ?_
                  refine Gx.seq ?_
                  refine Gx.region ?_
                  refine Gx.val rfl rfl rfl (val_move rfl rfl) ?_
                  refine Gx.val rfl rfl rfl (val_move rfl rfl) ?_
                  refine Gx.val rfl rfl rfl (val_sub rfl rfl rfl (r := ((m171 - a1 : Nat) : Int)) (w64 (by omega) (by omega))) ?_
                  refine Gx.val rfl rfl rfl (val_move rfl rfl) ?_
                  refine Gx.val rfl rfl rfl (val_move rfl rfl) ?_
                  refine Gx.val rfl rfl rfl (val_sub rfl rfl rfl (r := ((b1 - m171 : Nat) : Int)) (w64 (by omega) (by omega))) ?_
                  refine Gx.val rfl rfl rfl (val_assign rfl rfl) ?_
                  refine Gx.val rfl rfl rfl (val_assign rfl rfl) ?_
                  refine Gx.done ?_
                  refine Gx.thenN ?_
                  refine Gx.seq ?_
                  refine Gx.region ?_
                  refine Gx.val rfl rfl rfl (val_move rfl rfl) ?_
                  refine Gx.val rfl rfl rfl (val_quo rfl rfl rfl (r := (((b1 - a1) / 8 : Nat) : Int)) (by omega) (q64 (a := b1 - a1) (m := 8) (by omega) rfl (by omega))) ?_
                  refine Gx.val rfl rfl rfl (val_assign rfl rfl) ?_
                  refine Gx.done ?_
                  refine Gx.thenN ?_
                  refine Gx.seq ?_
                  refine Gx.region ?_
                  refine Gx.val rfl rfl rfl (val_move rfl rfl) ?_
                  refine Gx.val rfl rfl rfl (val_move rfl rfl) ?_
                  refine Gx.val rfl rfl rfl (val_lss rfl rfl rfl) ?_
                  refine Gx.done ?_
                  refine Gx.thenN ?_
                  refine Gx.dec rfl (fun h179 => ?_) (fun h179 => ?_)
                  · refine Gx.seq ?_
                    refine Gx.region ?_
                    refine Gx.val rfl rfl rfl (val_move rfl rfl) ?_
                    refine Gx.val rfl rfl rfl (val_move rfl rfl) ?_
                    refine Gx.val rfl rfl rfl (val_geq rfl rfl rfl) ?_
                    refine Gx.val rfl rfl rfl (val_assign rfl rfl) ?_
                    refine Gx.done ?_
                    refine Gx.thenN ?_
                    refine Gx.seq ?_
                    refine Gx.region ?_
                    refine Gx.val rfl rfl rfl (val_move rfl rfl) ?_
                    refine Gx.val rfl rfl rfl (val_move rfl rfl) ?_
                    refine Gx.val rfl rfl rfl (val_move rfl rfl) ?_
                    refine Gx.val rfl rfl rfl (val_move rfl rfl) ?_
                    refine Gx.eff rfl rfl rfl (eff_call (vs := [v, .int .i64 ((a1 : Nat) : Int), .int .i64 ((m171 : Nat) : Int), .int .i64 ((li : Nat) : Int)]) rfl Try.fn39 rfl (fun w H => ih (a := a1) (b := m171) (limit := li) (by omega) (by omega) (by have := (((hps.sub hsy131).sub hsy135).sub hsy170).sh.len; omega) (by have := (((hps.sub hsy131).sub hsy135).sub hsy170).sh.len; omega) (by omega) (((((hps.sub hsy131).sub hsy135).sub hsy170).bel hB).mono (by omega)) (H.at_ (k := 0) rfl))) ?_
                    rintro _ l183 ⟨ys180, hsy181, hsr182, rfl, hl183⟩
                    refine Gx.sepEq (l' := [Hp.own FU 1 v ys180, R]) hl183 ?_
                    refine Gx.done ?_
                    refine Gx.thenN ?_
                    have hnps := ((((hps.sub hsy131).sub hsy135).sub hsy170).sub (hsy181.mono (Nat.le_refl _) (by omega))).left (by omega) (by omega) (by rw [hsy181.out (by omega)]; exact hv175) (hlo176.sh hsy181) (hhi177.sh' hsy181 (by omega)) hsr182
                    refine Gx.region ?_
                    refine Gx.val rfl rfl rfl (val_move rfl rfl) ?_
                    refine Gx.val rfl rfl rfl (val_add rfl rfl rfl (r := ((m171 + 1 : Nat) : Int)) (w64 (by omega) (by omega))) ?_
                    refine Gx.val rfl rfl rfl (val_assign rfl rfl) ?_
                    refine Gx.done ?_
                    refine Gx.blkN ?_
                    refine Gx.thenN ?_
                    exact Gx.round (m171 + 1, b1, li, decide ((((b1 - a1) / 8 : Nat) : Int) ≤ ((m171 - a1 : Nat) : Int)), al172, ys180) ⟨by first | omega | (dsimp only; omega), hnps⟩ (by first | omega | (dsimp only; omega)) ((.cons rfl (.cons rfl (.cons rfl (.cons rfl (.cons rfl (.cons rfl .nil))))))) rfl
                  · refine Gx.seq ?_
                    refine Gx.region ?_
                    refine Gx.val rfl rfl rfl (val_move rfl rfl) ?_
                    refine Gx.val rfl rfl rfl (val_move rfl rfl) ?_
                    refine Gx.val rfl rfl rfl (val_geq rfl rfl rfl) ?_
                    refine Gx.val rfl rfl rfl (val_assign rfl rfl) ?_
                    refine Gx.done ?_
                    refine Gx.thenN ?_
                    refine Gx.seq ?_
                    refine Gx.region ?_
                    refine Gx.val rfl rfl rfl (val_move rfl rfl) ?_
                    refine Gx.val rfl rfl rfl (val_move rfl rfl) ?_
                    refine Gx.val rfl rfl rfl (val_add rfl rfl rfl (r := ((m171 + 1 : Nat) : Int)) (w64 (by omega) (by omega))) ?_
                    refine Gx.val rfl rfl rfl (val_move rfl rfl) ?_
                    refine Gx.val rfl rfl rfl (val_move rfl rfl) ?_
                    refine Gx.eff rfl rfl rfl (eff_call (vs := [v, .int .i64 ((m171 + 1 : Nat) : Int), .int .i64 ((b1 : Nat) : Int), .int .i64 ((li : Nat) : Int)]) rfl Try.fn39 rfl (fun w H => ih (a := (m171 + 1)) (b := b1) (limit := li) (by omega) (by omega) (by have := (((hps.sub hsy131).sub hsy135).sub hsy170).sh.len; omega) (by have := (((hps.sub hsy131).sub hsy135).sub hsy170).sh.len; omega) (by omega) (Bel.at_ hv175 hhi177) (H.at_ (k := 0) rfl))) ?_
                    rintro _ l187 ⟨ys184, hsy185, hsr186, rfl, hl187⟩
                    refine Gx.sepEq (l' := [Hp.own FU 1 v ys184, R]) hl187 ?_
                    refine Gx.done ?_
                    refine Gx.thenN ?_
                    have hnps := ((((hps.sub hsy131).sub hsy135).sub hsy170).sub (hsy185.mono (by omega) (Nat.le_refl _))).right (by omega) (by omega) (by rw [hsy185.out (by omega)]; exact hv175) (hlo176.sh' hsy185 (by omega)) (hhi177.sh hsy185) hsr186
                    refine Gx.region ?_
                    refine Gx.val rfl rfl rfl (val_move rfl rfl) ?_
                    refine Gx.val rfl rfl rfl (val_assign rfl rfl) ?_
                    refine Gx.done ?_
                    refine Gx.blkN ?_
                    refine Gx.thenN ?_
                    exact Gx.round (a1, m171, li, decide ((((b1 - a1) / 8 : Nat) : Int) ≤ ((b1 - m171 : Nat) : Int)), al172, ys184) ⟨by first | omega | (dsimp only; omega), hnps⟩ (by first | omega | (dsimp only; omega)) ((.cons rfl (.cons rfl (.cons rfl (.cons rfl (.cons rfl (.cons rfl .nil))))))) rfl
            · refine Gx.skipg rfl rfl rfl rfl rfl rfl ?_
              refine Gx.skipg rfl rfl rfl rfl rfl rfl ?_
              refine Gx.val rfl rfl rfl (val_pickF rfl rfl rfl) ?_
              refine Gx.done ?_
              refine Gx.thenN ?_
              refine Gx.f rfl ?_
              refine Gx.skip ?_
              refine Gx.thenN ?_
              refine Gx.seq ?_
              refine Gx.seq ?_
              have hpc := (hps.sub hsy131).sh.len
              obtain ⟨pv, hpv⟩ := get_of_lt (xs := ys130) (k := b1 - 1 - (p124 - a1)) (by omega)
              refine Gx.regionQ Try.mixed (by kernel_rfl) ?_
              refine Gq.val rfl rfl rfl (val_move rfl rfl) ?_
              refine Gq.val rfl rfl rfl (val_gtr rfl rfl rfl) ?_
              refine Gq.val rfl rfl rfl (val_move rfl rfl) ?_
              refine Gq.cases (t := 75) rfl (fun h188 => ?_) (fun h188 => ?_)
              · obtain ⟨x0, hx0⟩ := get_of_lt (xs := ys130) (k := a1 - 1) (by omega)
                refine Gq.valg rfl rfl rfl rfl rfl (val_move rfl rfl) ?_
                refine Gq.valg rfl rfl rfl rfl rfl (val_move rfl rfl) ?_
                refine Gq.valg rfl rfl rfl rfl rfl (val_sub rfl rfl rfl (r := ((a1 - 1 : Nat) : Int)) (w64 (by omega) (by omega))) ?_
                refine Gq.valg rfl rfl rfl rfl rfl (val_ixa rfl Try.underlying22 Try.ty28 rfl rfl (j := a1 - 1) (rfl) (reach_own (k := 0) rfl hx0)) ?_
                refine Gq.valg rfl rfl rfl rfl rfl (val_load rfl Try.ty28 rfl rfl (cell_own (i := 0) (sz := 1) (j := a1 - 1) (k := 0) rfl hx0 rfl)) ?_
                refine Gq.valg rfl rfl rfl rfl rfl (val_move rfl rfl) ?_
                refine Gq.valg rfl rfl rfl rfl rfl (val_move rfl rfl) ?_
                refine Gq.valg rfl rfl rfl rfl rfl (val_ixa rfl Try.underlying22 Try.ty28 rfl rfl (j := b1 - 1 - (p124 - a1)) (rfl) (reach_own (k := 0) rfl hpv)) ?_
                refine Gq.valg rfl rfl rfl rfl rfl (val_load rfl Try.ty28 rfl rfl (cell_own (i := 0) (sz := 1) (j := b1 - 1 - (p124 - a1)) (k := 0) rfl hpv rfl)) ?_
                refine Gq.valg rfl rfl rfl rfl rfl (val_call (vs := [.int .u32 ((x0 : Nat) : Int), .int .u32 ((pv : Nat) : Int)]) rfl Try.fn47 rfl (fun w H => less_any x0 pv)) ?_
                refine Gq.valg rfl rfl rfl rfl rfl (val_notD rfl rfl) ?_
                refine Gq.val rfl rfl rfl (val_pickT rfl rfl rfl) ?_
                refine Gq.done ?_
                refine Gx.thenN ?_
                refine Gx.dec rfl (fun h189 => ?_) (fun h189 => ?_)
                · refine Gx.seq ?_
                  refine Gx.region ?_
                  refine Gx.val rfl rfl rfl (val_move rfl rfl) ?_
                  refine Gx.val rfl rfl rfl (val_move rfl rfl) ?_
                  refine Gx.val rfl rfl rfl (val_move rfl rfl) ?_
                  refine Gx.val rfl rfl rfl (val_move rfl rfl) ?_
                  refine Gx.eff rfl rfl rfl (eff_call (vs := [v, .int .i64 ((a1 : Nat) : Int), .int .i64 ((b1 : Nat) : Int), .int .i64 ((b1 - 1 - (p124 - a1) : Nat) : Int)]) rfl Try.fn48 rfl (fun w H => parteq_any (a := a1) (b := b1) (p := b1 - 1 - (p124 - a1)) (by omega) (by omega) (by have := (hps.sub hsy131).sh.len; omega) (by have := (hps.sub hsy131).sh.len; omega) hpv (H.at_ (k := 0) rfl))) ?_
                  rintro _ l197 ⟨ys190, m192, hsy191, hm193, hn194, hlo195, hhi196, rfl, hl197⟩
                  refine Gx.sepEq (l' := [Hp.own FU 1 v ys190, R]) hl197 ?_
                  refine Gx.val rfl rfl rfl (val_assign rfl rfl) ?_
                  refine Gx.done ?_
                  refine Gx.thenN ?_
                  refine Gx.seq ?_
                  have hnps := ((hps.sub hsy131).sub hsy191).eq hB (by omega) (by omega) (by omega) (by rw [hsy191.out (by omega)]; exact hx0) (by omega) hlo195 hhi196
                  refine Gx.region ?_
                  refine Gx.val rfl rfl rfl (val_move rfl rfl) ?_
                  refine Gx.val rfl rfl rfl (val_assign rfl rfl) ?_
                  refine Gx.done ?_
                  refine Gx.thenN ?_
                  refine Gx.exit ?_
                  refine Gx.thenE ?_
                  refine Gx.blkE ?_
                  refine Gx.thenN ?_
                  exact Gx.round (m192, b1, li, wb, wp, ys190) ⟨by first | omega | (dsimp only; omega), hnps⟩ (by first | omega | (dsimp only; omega)) ((.cons rfl (.cons rfl (.cons rfl (.cons rfl (.cons rfl (.cons rfl .nil))))))) rfl
                · refine Gx.skip ?_
                  refine Gx.thenN ?_
                  refine Gx.seq ?_
                  refine Gx.region ?_
                  refine Gx.val rfl rfl rfl (val_move rfl rfl) ?_
                  refine Gx.val rfl rfl rfl (val_move rfl rfl) ?_
                  refine Gx.val rfl rfl rfl (val_move rfl rfl) ?_
                  refine Gx.val rfl rfl rfl (val_move rfl rfl) ?_
                  refine Gx.eff rfl rfl rfl (eff_call (vs := [v, .int .i64 ((a1 : Nat) : Int), .int .i64 ((b1 : Nat) : Int), .int .i64 ((b1 - 1 - (p124 - a1) : Nat) : Int)]) rfl Try.fn49 rfl (fun w H => part_any (a := a1) (b := b1) (p := b1 - 1 - (p124 - a1)) (by omega) (by omega) (by have := (hps.sub hsy131).sh.len; omega) (by have := (hps.sub hsy131).sh.len; omega) hpv (H.at_ (k := 0) rfl))) ?_
                  rintro _ l207 ⟨ys198, m200, al201, hsy199, hm202, hn203, hv204, hlo205, hhi206, rfl, hl207⟩
                  refine Gx.sepEq (l' := [Hp.own FU 1 v ys198, R]) hl207 ?_
                  refine Gx.val rfl rfl rfl (val_move rfl rfl) ?_
                  refine Gx.val rfl rfl rfl (val_extract rfl rfl rfl) ?_
                  refine Gx.val rfl rfl rfl (val_extract rfl rfl rfl) ?_
                  refine Gx.val rfl rfl rfl (val_assign rfl rfl) ?_
                  refine Gx.val rfl rfl rfl (val_assign rfl rfl) ?_
                  refine Gx.done ?_
                  refine Gx.thenN ?_
                  refine Gx.seq ?_
                  refine Gx.region ?_
                  refine Gx.val rfl rfl rfl (val_move rfl rfl) ?_
                  refine Gx.val rfl rfl rfl (val_assign rfl rfl) ?_
                  refine Gx.done ?_
                  refine Gx.thenN ?_
                  refine Gx.seq ?_
                  refine Gx.region ?_
                  refine Gx.val rfl rfl rfl (val_move rfl rfl) ?_
                  refine Gx.val rfl rfl rfl (val_move rfl rfl) ?_
                  refine Gx.val rfl rfl rfl (val_sub rfl rfl rfl (r := ((m200 - a1 : Nat) : Int)) (w64 (by omega) (by omega))) ?_
                  refine Gx.val rfl rfl rfl (val_move rfl rfl) ?_
                  refine Gx.val rfl rfl rfl (val_move rfl rfl) ?_
                  refine Gx.val rfl rfl rfl (val_sub rfl rfl rfl (r := ((b1 - m200 : Nat) : Int)) (w64 (by omega) (by omega))) ?_
                  refine Gx.val rfl rfl rfl (val_assign rfl rfl) ?_
                  refine Gx.val rfl rfl rfl (val_assign rfl rfl) ?_
                  refine Gx.done ?_
                  refine Gx.thenN ?_
                  refine Gx.seq ?_
                  refine Gx.region ?_
                  refine Gx.val rfl rfl rfl (val_move rfl rfl) ?_
                  refine Gx.val rfl rfl rfl (val_quo rfl rfl rfl (r := (((b1 - a1) / 8 : Nat) : Int)) (by omega) (q64 (a := b1 - a1) (m := 8) (by omega) rfl (by omega))) ?_
                  refine Gx.val rfl rfl rfl (val_assign rfl rfl) ?_
                  refine Gx.done ?_
                  refine Gx.thenN ?_
                  refine Gx.seq ?_
                  refine Gx.region ?_
                  refine Gx.val rfl rfl rfl (val_move rfl rfl) ?_
                  refine Gx.val rfl rfl rfl (val_move rfl rfl) ?_
                  refine Gx.val rfl rfl rfl (val_lss rfl rfl rfl) ?_
                  refine Gx.done ?_
                  refine Gx.thenN ?_
                  refine Gx.dec rfl (fun h208 => ?_) (fun h208 => ?_)
                  · refine Gx.seq ?_
                    refine Gx.region ?_
                    refine Gx.val rfl rfl rfl (val_move rfl rfl) ?_
                    refine Gx.val rfl rfl rfl (val_move rfl rfl) ?_
                    refine Gx.val rfl rfl rfl (val_geq rfl rfl rfl) ?_
                    refine Gx.val rfl rfl rfl (val_assign rfl rfl) ?_
                    refine Gx.done ?_
                    refine Gx.thenN ?_
                    refine Gx.seq ?_
                    refine Gx.region ?_
                    refine Gx.val rfl rfl rfl (val_move rfl rfl) ?_
                    refine Gx.val rfl rfl rfl (val_move rfl rfl) ?_
                    refine Gx.val rfl rfl rfl (val_move rfl rfl) ?_
                    refine Gx.val rfl rfl rfl (val_move rfl rfl) ?_
                    refine Gx.eff rfl rfl rfl (eff_call (vs := [v, .int .i64 ((a1 : Nat) : Int), .int .i64 ((m200 : Nat) : Int), .int .i64 ((li : Nat) : Int)]) rfl Try.fn39 rfl (fun w H => ih (a := a1) (b := m200) (limit := li) (by omega) (by omega) (by have := ((hps.sub hsy131).sub hsy199).sh.len; omega) (by have := ((hps.sub hsy131).sub hsy199).sh.len; omega) (by omega) ((((hps.sub hsy131).sub hsy199).bel hB).mono (by omega)) (H.at_ (k := 0) rfl))) ?_
                    rintro _ l212 ⟨ys209, hsy210, hsr211, rfl, hl212⟩
                    refine Gx.sepEq (l' := [Hp.own FU 1 v ys209, R]) hl212 ?_
                    refine Gx.done ?_
                    refine Gx.thenN ?_
                    have hnps := (((hps.sub hsy131).sub hsy199).sub (hsy210.mono (Nat.le_refl _) (by omega))).left (by omega) (by omega) (by rw [hsy210.out (by omega)]; exact hv204) (hlo205.sh hsy210) (hhi206.sh' hsy210 (by omega)) hsr211
                    refine Gx.region ?_
                    refine Gx.val rfl rfl rfl (val_move rfl rfl) ?_
                    refine Gx.val rfl rfl rfl (val_add rfl rfl rfl (r := ((m200 + 1 : Nat) : Int)) (w64 (by omega) (by omega))) ?_
                    refine Gx.val rfl rfl rfl (val_assign rfl rfl) ?_
                    refine Gx.done ?_
                    refine Gx.blkN ?_
                    refine Gx.thenN ?_
                    exact Gx.round (m200 + 1, b1, li, decide ((((b1 - a1) / 8 : Nat) : Int) ≤ ((m200 - a1 : Nat) : Int)), al201, ys209) ⟨by first | omega | (dsimp only; omega), hnps⟩ (by first | omega | (dsimp only; omega)) ((.cons rfl (.cons rfl (.cons rfl (.cons rfl (.cons rfl (.cons rfl .nil))))))) rfl
                  · refine Gx.seq ?_
                    refine Gx.region ?_
                    refine Gx.val rfl rfl rfl (val_move rfl rfl) ?_
                    refine Gx.val rfl rfl rfl (val_move rfl rfl) ?_
                    refine Gx.val rfl rfl rfl (val_geq rfl rfl rfl) ?_
                    refine Gx.val rfl rfl rfl (val_assign rfl rfl) ?_
                    refine Gx.done ?_
                    refine Gx.thenN ?_
                    refine Gx.seq ?_
                    refine Gx.region ?_
                    refine Gx.val rfl rfl rfl (val_move rfl rfl) ?_
                    refine Gx.val rfl rfl rfl (val_move rfl rfl) ?_
                    refine Gx.val rfl rfl rfl (val_add rfl rfl rfl (r := ((m200 + 1 : Nat) : Int)) (w64 (by omega) (by omega))) ?_
                    refine Gx.val rfl rfl rfl (val_move rfl rfl) ?_
                    refine Gx.val rfl rfl rfl (val_move rfl rfl) ?_
                    refine Gx.eff rfl rfl rfl (eff_call (vs := [v, .int .i64 ((m200 + 1 : Nat) : Int), .int .i64 ((b1 : Nat) : Int), .int .i64 ((li : Nat) : Int)]) rfl Try.fn39 rfl (fun w H => ih (a := (m200 + 1)) (b := b1) (limit := li) (by omega) (by omega) (by have := ((hps.sub hsy131).sub hsy199).sh.len; omega) (by have := ((hps.sub hsy131).sub hsy199).sh.len; omega) (by omega) (Bel.at_ hv204 hhi206) (H.at_ (k := 0) rfl))) ?_
                    rintro _ l216 ⟨ys213, hsy214, hsr215, rfl, hl216⟩
                    refine Gx.sepEq (l' := [Hp.own FU 1 v ys213, R]) hl216 ?_
                    refine Gx.done ?_
                    refine Gx.thenN ?_
                    have hnps := (((hps.sub hsy131).sub hsy199).sub (hsy214.mono (by omega) (Nat.le_refl _))).right (by omega) (by omega) (by rw [hsy214.out (by omega)]; exact hv204) (hlo205.sh' hsy214 (by omega)) (hhi206.sh hsy214) hsr215
                    refine Gx.region ?_
                    refine Gx.val rfl rfl rfl (val_move rfl rfl) ?_
                    refine Gx.val rfl rfl rfl (val_assign rfl rfl) ?_
                    refine Gx.done ?_
                    refine Gx.blkN ?_
                    refine Gx.thenN ?_
                    exact Gx.round (a1, m200, li, decide ((((b1 - a1) / 8 : Nat) : Int) ≤ ((b1 - m200 : Nat) : Int)), al201, ys213) ⟨by first | omega | (dsimp only; omega), hnps⟩ (by first | omega | (dsimp only; omega)) ((.cons rfl (.cons rfl (.cons rfl (.cons rfl (.cons rfl (.cons rfl .nil))))))) rfl
              · refine Gq.skipg rfl rfl rfl rfl rfl rfl ?_
                refine Gq.skipg rfl rfl rfl rfl rfl rfl ?_
                refine Gq.skipg rfl rfl rfl rfl rfl rfl ?_
                refine Gq.skipg rfl rfl rfl rfl rfl rfl ?_
                refine Gq.skipg rfl rfl rfl rfl rfl rfl ?_
                refine Gq.skipg rfl rfl rfl rfl rfl rfl ?_
                refine Gq.skipg rfl rfl rfl rfl rfl rfl ?_
                refine Gq.skipg rfl rfl rfl rfl rfl rfl ?_
                refine Gq.skipg rfl rfl rfl rfl rfl rfl ?_
                refine Gq.skipg rfl rfl rfl rfl rfl rfl ?_
                refine Gq.skipg rfl rfl rfl rfl rfl rfl ?_
                refine Gq.val rfl rfl rfl (val_pickF rfl rfl rfl) ?_
                refine Gq.done ?_
                refine Gx.thenN ?_
                refine Gx.f rfl ?_
                refine Gx.skip ?_
                refine Gx.thenN ?_
                refine Gx.seq ?_
                refine Gx.region ?_
                refine Gx.val rfl rfl rfl (val_move rfl rfl) ?_
                refine Gx.val rfl rfl rfl (val_move rfl rfl) ?_
                refine Gx.val rfl rfl rfl (val_move rfl rfl) ?_
                refine Gx.val rfl rfl rfl (val_move rfl rfl) ?_
                refine Gx.eff rfl rfl rfl (eff_call (vs := [v, .int .i64 ((a1 : Nat) : Int), .int .i64 ((b1 : Nat) : Int), .int .i64 ((b1 - 1 - (p124 - a1) : Nat) : Int)]) rfl Try.fn49 rfl (fun w H => part_any (a := a1) (b := b1) (p := b1 - 1 - (p124 - a1)) (by omega) (by omega) (by have := (hps.sub hsy131).sh.len; omega) (by have := (hps.sub hsy131).sh.len; omega) hpv (H.at_ (k := 0) rfl))) ?_
                rintro _ l226 ⟨ys217, m219, al220, hsy218, hm221, hn222, hv223, hlo224, hhi225, rfl, hl226⟩
                refine Gx.sepEq (l' := [Hp.own FU 1 v ys217, R]) hl226 ?_
                refine Gx.val rfl rfl rfl (val_move rfl rfl) ?_
                refine Gx.val rfl rfl rfl (val_extract rfl rfl rfl) ?_
                refine Gx.val rfl rfl rfl (val_extract rfl rfl rfl) ?_
                refine Gx.val rfl rfl rfl (val_assign rfl rfl) ?_
                refine Gx.val rfl rfl rfl (val_assign rfl rfl) ?_
                refine Gx.done ?_
                refine Gx.thenN ?_
                refine Gx.seq ?_
                refine Gx.region ?_
                refine Gx.val rfl rfl rfl (val_move rfl rfl) ?_
                refine Gx.val rfl rfl rfl (val_assign rfl rfl) ?_
                refine Gx.done ?_
                refine Gx.thenN ?_
                refine Gx.seq ?_
                refine Gx.region ?_
                refine Gx.val rfl rfl rfl (val_move rfl rfl) ?_
                refine Gx.val rfl rfl rfl (val_move rfl rfl) ?_
                refine Gx.val rfl rfl rfl (val_sub rfl rfl rfl (r := ((m219 - a1 : Nat) : Int)) (w64 (by omega) (by omega))) ?_
                refine Gx.val rfl rfl rfl (val_move rfl rfl) ?_
                refine Gx.val rfl rfl rfl (val_move rfl rfl) ?_
                refine Gx.val rfl rfl rfl (val_sub rfl rfl rfl (r := ((b1 - m219 : Nat) : Int)) (w64 (by omega) (by omega))) ?_
                refine Gx.val rfl rfl rfl (val_assign rfl rfl) ?_
                refine Gx.val rfl rfl rfl (val_assign rfl rfl) ?_
                refine Gx.done ?_
                refine Gx.thenN ?_
                refine Gx.seq ?_
                refine Gx.region ?_
                refine Gx.val rfl rfl rfl (val_move rfl rfl) ?_
                refine Gx.val rfl rfl rfl (val_quo rfl rfl rfl (r := (((b1 - a1) / 8 : Nat) : Int)) (by omega) (q64 (a := b1 - a1) (m := 8) (by omega) rfl (by omega))) ?_
                refine Gx.val rfl rfl rfl (val_assign rfl rfl) ?_
                refine Gx.done ?_
                refine Gx.thenN ?_
                refine Gx.seq ?_
                refine Gx.region ?_
                refine Gx.val rfl rfl rfl (val_move rfl rfl) ?_
                refine Gx.val rfl rfl rfl (val_move rfl rfl) ?_
                refine Gx.val rfl rfl rfl (val_lss rfl rfl rfl) ?_
                refine Gx.done ?_
                refine Gx.thenN ?_
                refine Gx.dec rfl (fun h227 => ?_) (fun h227 => ?_)
                · refine Gx.seq ?_
                  refine Gx.region ?_
                  refine Gx.val rfl rfl rfl (val_move rfl rfl) ?_
                  refine Gx.val rfl rfl rfl (val_move rfl rfl) ?_
                  refine Gx.val rfl rfl rfl (val_geq rfl rfl rfl) ?_
                  refine Gx.val rfl rfl rfl (val_assign rfl rfl) ?_
                  refine Gx.done ?_
                  refine Gx.thenN ?_
                  refine Gx.seq ?_
                  refine Gx.region ?_
                  refine Gx.val rfl rfl rfl (val_move rfl rfl) ?_
                  refine Gx.val rfl rfl rfl (val_move rfl rfl) ?_
                  refine Gx.val rfl rfl rfl (val_move rfl rfl) ?_
                  refine Gx.val rfl rfl rfl (val_move rfl rfl) ?_
                  refine Gx.eff rfl rfl rfl (eff_call (vs := [v, .int .i64 ((a1 : Nat) : Int), .int .i64 ((m219 : Nat) : Int), .int .i64 ((li : Nat) : Int)]) rfl Try.fn39 rfl (fun w H => ih (a := a1) (b := m219) (limit := li) (by omega) (by omega) (by have := ((hps.sub hsy131).sub hsy218).sh.len; omega) (by have := ((hps.sub hsy131).sub hsy218).sh.len; omega) (by omega) ((((hps.sub hsy131).sub hsy218).bel hB).mono (by omega)) (H.at_ (k := 0) rfl))) ?_
                  rintro _ l231 ⟨ys228, hsy229, hsr230, rfl, hl231⟩
                  refine Gx.sepEq (l' := [Hp.own FU 1 v ys228, R]) hl231 ?_
                  refine Gx.done ?_
                  refine Gx.thenN ?_
                  have hnps := (((hps.sub hsy131).sub hsy218).sub (hsy229.mono (Nat.le_refl _) (by omega))).left (by omega) (by omega) (by rw [hsy229.out (by omega)]; exact hv223) (hlo224.sh hsy229) (hhi225.sh' hsy229 (by omega)) hsr230
                  refine Gx.region ?_
                  refine Gx.val rfl rfl rfl (val_move rfl rfl) ?_
                  refine Gx.val rfl rfl rfl (val_add rfl rfl rfl (r := ((m219 + 1 : Nat) : Int)) (w64 (by omega) (by omega))) ?_
                  refine Gx.val rfl rfl rfl (val_assign rfl rfl) ?_
                  refine Gx.done ?_
                  refine Gx.blkN ?_
                  refine Gx.thenN ?_
                  exact Gx.round (m219 + 1, b1, li, decide ((((b1 - a1) / 8 : Nat) : Int) ≤ ((m219 - a1 : Nat) : Int)), al220, ys228) ⟨by first | omega | (dsimp only; omega), hnps⟩ (by first | omega | (dsimp only; omega)) ((.cons rfl (.cons rfl (.cons rfl (.cons rfl (.cons rfl (.cons rfl .nil))))))) rfl
                · refine Gx.seq ?_
                  refine Gx.region ?_
                  refine Gx.val rfl rfl rfl (val_move rfl rfl) ?_
                  refine Gx.val rfl rfl rfl (val_move rfl rfl) ?_
                  refine Gx.val rfl rfl rfl (val_geq rfl rfl rfl) ?_
                  refine Gx.val rfl rfl rfl (val_assign rfl rfl) ?_
                  refine Gx.done ?_
                  refine Gx.thenN ?_
                  refine Gx.seq ?_
                  refine Gx.region ?_
                  refine Gx.val rfl rfl rfl (val_move rfl rfl) ?_
                  refine Gx.val rfl rfl rfl (val_move rfl rfl) ?_
                  refine Gx.val rfl rfl rfl (val_add rfl rfl rfl (r := ((m219 + 1 : Nat) : Int)) (w64 (by omega) (by omega))) ?_
                  refine Gx.val rfl rfl rfl (val_move rfl rfl) ?_
                  refine Gx.val rfl rfl rfl (val_move rfl rfl) ?_
                  refine Gx.eff rfl rfl rfl (eff_call (vs := [v, .int .i64 ((m219 + 1 : Nat) : Int), .int .i64 ((b1 : Nat) : Int), .int .i64 ((li : Nat) : Int)]) rfl Try.fn39 rfl (fun w H => ih (a := (m219 + 1)) (b := b1) (limit := li) (by omega) (by omega) (by have := ((hps.sub hsy131).sub hsy218).sh.len; omega) (by have := ((hps.sub hsy131).sub hsy218).sh.len; omega) (by omega) (Bel.at_ hv223 hhi225) (H.at_ (k := 0) rfl))) ?_
                  rintro _ l235 ⟨ys232, hsy233, hsr234, rfl, hl235⟩
                  refine Gx.sepEq (l' := [Hp.own FU 1 v ys232, R]) hl235 ?_
                  refine Gx.done ?_
                  refine Gx.thenN ?_
                  have hnps := (((hps.sub hsy131).sub hsy218).sub (hsy233.mono (by omega) (Nat.le_refl _))).right (by omega) (by omega) (by rw [hsy233.out (by omega)]; exact hv223) (hlo224.sh' hsy233 (by omega)) (hhi225.sh hsy233) hsr234
                  refine Gx.region ?_
                  refine Gx.val rfl rfl rfl (val_move rfl rfl) ?_
                  refine Gx.val rfl rfl rfl (val_assign rfl rfl) ?_
                  refine Gx.done ?_
                  refine Gx.blkN ?_
                  refine Gx.thenN ?_
                  exact Gx.round (a1, m219, li, decide ((((b1 - a1) / 8 : Nat) : Int) ≤ ((b1 - m219 : Nat) : Int)), al220, ys232) ⟨by first | omega | (dsimp only; omega), hnps⟩ (by first | omega | (dsimp only; omega)) ((.cons rfl (.cons rfl (.cons rfl (.cons rfl (.cons rfl (.cons rfl .nil))))))) rfl
          · refine Gx.skip ?_
            refine Gx.thenN ?_
            refine Gx.seq ?_
            refine Gx.seq ?_
            refine Gx.region ?_
            refine Gx.val rfl rfl rfl (val_move rfl rfl) ?_
            refine Gx.val rfl rfl rfl (val_move rfl rfl) ?_
            refine Gx.slot (t := 62) (v := .bool true) (look_boolT rfl (by simpa using h11)) ?_
            refine Gx.valg rfl rfl rfl rfl rfl (val_move rfl rfl) ?_
            refine Gx.val rfl rfl rfl (val_pickT rfl rfl rfl) ?_
            refine Gx.val rfl rfl rfl (val_move rfl rfl) ?_
            refine Gx.casesB (t := 65) rfl (fun h236 => ?_) (fun h236 => ?_)
            · refine Gx.valg rfl rfl rfl rfl rfl (val_move rfl rfl) ?_
              refine Gx.valg rfl rfl rfl rfl rfl (val_eql rfl rfl rfl) ?_
              refine Gx.val rfl rfl rfl (val_pickT rfl rfl rfl) ?_
              refine Gx.done ?_
              refine Gx.thenN ?_
              refine Gx.dec rfl (fun h237 => ?_) (fun h237 => ?_)
              · refine Gx.seq ?_
                refine Gx.region ?_
                refine Gx.val rfl rfl rfl (val_move rfl rfl) ?_
                refine Gx.val rfl rfl rfl (val_move rfl rfl) ?_
                refine Gx.val rfl rfl rfl (val_move rfl rfl) ?_
                refine Gx.eff rfl rfl rfl (eff_call (vs := [v, .int .i64 ((a1 : Nat) : Int), .int .i64 ((b1 : Nat) : Int)]) rfl Try.fn46 rfl (fun w H => pins_any (a := a1) (b := b1) (by omega) (by have := hps.sh.len; omega) (by have := hps.sh.len; omega) (hps.bel hB) (H.at_ (k := 0) rfl))) ?_
                rintro _ l242 ⟨ys238, al240, hsy239, hal241, rfl, hl242⟩
                refine Gx.sepEq (l' := [Hp.own FU 1 v ys238, R]) hl242 ?_
                refine Gx.done ?_
                refine Gx.thenN ?_
                refine Gx.bool rfl (fun h243 => ?_) (fun h243 => ?_)
                · refine Gx.ret ?_
                  refine Gx.thenR ?_
                  refine Gx.blkR ?_
                  refine Gx.thenR ?_
                  refine Gx.blkR ?_
                  refine Gx.ret0 Try.results39 ?_
                  exact ⟨_, (hps.sub hsy239).sh, (hps.sub hsy239).done (hal241 (by assumption)), rfl, sep1 _ _⟩
                · refine Gx.skip ?_
                  refine Gx.thenN ?_
                  refine Gx.seq ?_
                  refine Gx.seq ?_
                  have hpc := (hps.sub hsy239).sh.len
                  obtain ⟨pv, hpv⟩ := get_of_lt (xs := ys238) (k := p124) (by omega)
                  refine Gx.regionQ Try.mixed (by kernel_rfl) ?_
                  refine Gq.val rfl rfl rfl (val_move rfl rfl) ?_
                  refine Gq.val rfl rfl rfl (val_gtr rfl rfl rfl) ?_
                  refine Gq.val rfl rfl rfl (val_move rfl rfl) ?_
                  refine Gq.cases (t := 75) rfl (fun h244 => ?_) (fun h244 => ?_)
                  · obtain ⟨x0, hx0⟩ := get_of_lt (xs := ys238) (k := a1 - 1) (by omega)
                    refine Gq.valg rfl rfl rfl rfl rfl (val_move rfl rfl) ?_
                    refine Gq.valg rfl rfl rfl rfl rfl (val_move rfl rfl) ?_
                    refine Gq.valg rfl rfl rfl rfl rfl (val_sub rfl rfl rfl (r := ((a1 - 1 : Nat) : Int)) (w64 (by omega) (by omega))) ?_
                    refine Gq.valg rfl rfl rfl rfl rfl (val_ixa rfl Try.underlying22 Try.ty28 rfl rfl (j := a1 - 1) (rfl) (reach_own (k := 0) rfl hx0)) ?_
                    refine Gq.valg rfl rfl rfl rfl rfl (val_load rfl Try.ty28 rfl rfl (cell_own (i := 0) (sz := 1) (j := a1 - 1) (k := 0) rfl hx0 rfl)) ?_
                    refine Gq.valg rfl rfl rfl rfl rfl (val_move rfl rfl) ?_
                    refine Gq.valg rfl rfl rfl rfl rfl (val_move rfl rfl) ?_
                    refine Gq.valg rfl rfl rfl rfl rfl (val_ixa rfl Try.underlying22 Try.ty28 rfl rfl (j := p124) (rfl) (reach_own (k := 0) rfl hpv)) ?_
                    refine Gq.valg rfl rfl rfl rfl rfl (val_load rfl Try.ty28 rfl rfl (cell_own (i := 0) (k := 0) rfl hpv rfl)) ?_
                    refine Gq.valg rfl rfl rfl rfl rfl (val_call (vs := [.int .u32 ((x0 : Nat) : Int), .int .u32 ((pv : Nat) : Int)]) rfl Try.fn47 rfl (fun w H => less_any x0 pv)) ?_
                    refine Gq.valg rfl rfl rfl rfl rfl (val_notD rfl rfl) ?_
                    refine Gq.val rfl rfl rfl (val_pickT rfl rfl rfl) ?_
                    refine Gq.done ?_
                    refine Gx.thenN ?_
                    refine Gx.dec rfl (fun h245 => ?_) (fun h245 => ?_)
                    · refine Gx.seq ?_
                      refine Gx.region ?_
                      refine Gx.val rfl rfl rfl (val_move rfl rfl) ?_
                      refine Gx.val rfl rfl rfl (val_move rfl rfl) ?_
                      refine Gx.val rfl rfl rfl (val_move rfl rfl) ?_
                      refine Gx.val rfl rfl rfl (val_move rfl rfl) ?_
                      refine Gx.eff rfl rfl rfl (eff_call (vs := [v, .int .i64 ((a1 : Nat) : Int), .int .i64 ((b1 : Nat) : Int), .int .i64 ((p124 : Nat) : Int)]) rfl Try.fn48 rfl (fun w H => parteq_any (a := a1) (b := b1) (p := p124) (by omega) (by omega) (by have := (hps.sub hsy239).sh.len; omega) (by have := (hps.sub hsy239).sh.len; omega) hpv (H.at_ (k := 0) rfl))) ?_
                      rintro _ l253 ⟨ys246, m248, hsy247, hm249, hn250, hlo251, hhi252, rfl, hl253⟩
                      refine Gx.sepEq (l' := [Hp.own FU 1 v ys246, R]) hl253 ?_
                      refine Gx.val rfl rfl rfl (val_assign rfl rfl) ?_
                      refine Gx.done ?_
                      refine Gx.thenN ?_
                      refine Gx.seq ?_
                      have hnps := ((hps.sub hsy239).sub hsy247).eq hB (by omega) (by omega) (by omega) (by rw [hsy247.out (by omega)]; exact hx0) (by omega) hlo251 hhi252
                      refine Gx.region ?_
                      refine Gx.val rfl rfl rfl (val_move rfl rfl) ?_
                      refine Gx.val rfl rfl rfl (val_assign rfl rfl) ?_
                      refine Gx.done ?_
                      refine Gx.thenN ?_
                      refine Gx.exit ?_
                      refine Gx.thenE ?_
                      refine Gx.blkE ?_
                      refine Gx.thenN ?_
                      exact Gx.round (m248, b1, li, wb, wp, ys246) ⟨by first | omega | (dsimp only; omega), hnps⟩ (by first | omega | (dsimp only; omega)) ((.cons rfl (.cons rfl (.cons rfl (.cons rfl (.cons rfl (.cons rfl .nil))))))) rfl
                    · refine Gx.skip ?_
                      refine Gx.thenN ?_
                      refine Gx.seq ?_
                      refine Gx.region ?_
                      refine Gx.val rfl rfl rfl (val_move rfl rfl) ?_
                      refine Gx.val rfl rfl rfl (val_move rfl rfl) ?_
                      refine Gx.val rfl rfl rfl (val_move rfl rfl) ?_
                      refine Gx.val rfl rfl rfl (val_move rfl rfl) ?_
                      refine Gx.eff rfl rfl rfl (eff_call (vs := [v, .int .i64 ((a1 : Nat) : Int), .int .i64 ((b1 : Nat) : Int), .int .i64 ((p124 : Nat) : Int)]) rfl Try.fn49 rfl (fun w H => part_any (a := a1) (b := b1) (p := p124) (by omega) (by omega) (by have := (hps.sub hsy239).sh.len; omega) (by have := (hps.sub hsy239).sh.len; omega) hpv (H.at_ (k := 0) rfl))) ?_
                      rintro _ l263 ⟨ys254, m256, al257, hsy255, hm258, hn259, hv260, hlo261, hhi262, rfl, hl263⟩
                      refine Gx.sepEq (l' := [Hp.own FU 1 v ys254, R]) hl263 ?_
                      refine Gx.val rfl rfl rfl (val_move rfl rfl) ?_
                      refine Gx.val rfl rfl rfl (val_extract rfl rfl rfl) ?_
                      refine Gx.val rfl rfl rfl (val_extract rfl rfl rfl) ?_
                      refine Gx.val rfl rfl rfl (val_assign rfl rfl) ?_
                      refine Gx.val rfl rfl rfl (val_assign rfl rfl) ?_
                      refine Gx.done ?_
                      refine Gx.thenN ?_
                      refine Gx.seq ?_
                      refine Gx.region ?_
                      refine Gx.val rfl rfl rfl (val_move rfl rfl) ?_
                      refine Gx.val rfl rfl rfl (val_assign rfl rfl) ?_
                      refine Gx.done ?_
                      refine Gx.thenN ?_
                      refine Gx.seq ?_
                      refine Gx.region ?_
                      refine Gx.val rfl rfl rfl (val_move rfl rfl) ?_
                      refine Gx.val rfl rfl rfl (val_move rfl rfl) ?_
                      refine Gx.val rfl rfl rfl (val_sub rfl rfl rfl (r := ((m256 - a1 : Nat) : Int)) (w64 (by omega) (by omega))) ?_
                      refine Gx.val rfl rfl rfl (val_move rfl rfl) ?_
                      refine Gx.val rfl rfl rfl (val_move rfl rfl) ?_
                      refine Gx.val rfl rfl rfl (val_sub rfl rfl rfl (r := ((b1 - m256 : Nat) : Int)) (w64 (by omega) (by omega))) ?_
                      refine Gx.val rfl rfl rfl (val_assign rfl rfl) ?_
                      refine Gx.val rfl rfl rfl (val_assign rfl rfl) ?_
                      refine Gx.done ?_
                      refine Gx.thenN ?_
                      refine Gx.seq ?_
                      refine Gx.region ?_
                      refine Gx.val rfl rfl rfl (val_move rfl rfl) ?_
                      refine Gx.val rfl rfl rfl (val_quo rfl rfl rfl (r := (((b1 - a1) / 8 : Nat) : Int)) (by omega) (q64 (a := b1 - a1) (m := 8) (by omega) rfl (by omega))) ?_
                      refine Gx.val rfl rfl rfl (val_assign rfl rfl) ?_
                      refine Gx.done ?_
                      refine Gx.thenN ?_
                      refine Gx.seq ?_
                      refine Gx.region ?_
                      refine Gx.val rfl rfl rfl (val_move rfl rfl) ?_
                      refine Gx.val rfl rfl rfl (val_move rfl rfl) ?_
                      refine Gx.val rfl rfl rfl (val_lss rfl rfl rfl) ?_
                      refine Gx.done ?_
                      refine Gx.thenN ?_
                      refine Gx.dec rfl (fun h264 => ?_) (fun h264 => ?_)
                      · refine Gx.seq ?_
                        refine Gx.region ?_
                        refine Gx.val rfl rfl rfl (val_move rfl rfl) ?_
                        refine Gx.val rfl rfl rfl (val_move rfl rfl) ?_
                        refine Gx.val rfl rfl rfl (val_geq rfl rfl rfl) ?_
                        refine Gx.val rfl rfl rfl (val_assign rfl rfl) ?_
                        refine Gx.done ?_
                        refine Gx.thenN ?_
                        refine Gx.seq ?_
                        refine Gx.region ?_
                        refine Gx.val rfl rfl rfl (val_move rfl rfl) ?_
                        refine Gx.val rfl rfl rfl (val_move rfl rfl) ?_
                        refine Gx.val rfl rfl rfl (val_move rfl rfl) ?_
                        refine Gx.val rfl rfl rfl (val_move rfl rfl) ?_
                        refine Gx.eff rfl rfl rfl (eff_call (vs := [v, .int .i64 ((a1 : Nat) : Int), .int .i64 ((m256 : Nat) : Int), .int .i64 ((li : Nat) : Int)]) rfl Try.fn39 rfl (fun w H => ih (a := a1) (b := m256) (limit := li) (by omega) (by omega) (by have := ((hps.sub hsy239).sub hsy255).sh.len; omega) (by have := ((hps.sub hsy239).sub hsy255).sh.len; omega) (by omega) ((((hps.sub hsy239).sub hsy255).bel hB).mono (by omega)) (H.at_ (k := 0) rfl))) ?_
                        rintro _ l268 ⟨ys265, hsy266, hsr267, rfl, hl268⟩
                        refine Gx.sepEq (l' := [Hp.own FU 1 v ys265, R]) hl268 ?_
                        refine Gx.done ?_
                        refine Gx.thenN ?_
                        have hnps := (((hps.sub hsy239).sub hsy255).sub (hsy266.mono (Nat.le_refl _) (by omega))).left (by omega) (by omega) (by rw [hsy266.out (by omega)]; exact hv260) (hlo261.sh hsy266) (hhi262.sh' hsy266 (by omega)) hsr267
                        refine Gx.region ?_
                        refine Gx.val rfl rfl rfl (val_move rfl rfl) ?_
                        refine Gx.val rfl rfl rfl (val_add rfl rfl rfl (r := ((m256 + 1 : Nat) : Int)) (w64 (by omega) (by omega))) ?_
                        refine Gx.val rfl rfl rfl (val_assign rfl rfl) ?_
                        refine Gx.done ?_
                        refine Gx.blkN ?_
                        refine Gx.thenN ?_
                        exact Gx.round (m256 + 1, b1, li, decide ((((b1 - a1) / 8 : Nat) : Int) ≤ ((m256 - a1 : Nat) : Int)), al257, ys265) ⟨by first | omega | (dsimp only; omega), hnps⟩ (by first | omega | (dsimp only; omega)) ((.cons rfl (.cons rfl (.cons rfl (.cons rfl (.cons rfl (.cons rfl .nil))))))) rfl
                      · refine Gx.seq ?_
                        refine Gx.region ?_
                        refine Gx.val rfl rfl rfl (val_move rfl rfl) ?_
                        refine Gx.val rfl rfl rfl (val_move rfl rfl) ?_
                        refine Gx.val rfl rfl rfl (val_geq rfl rfl rfl) ?_
                        refine Gx.val rfl rfl rfl (val_assign rfl rfl) ?_
                        refine Gx.done ?_
                        refine Gx.thenN ?_
                        refine Gx.seq ?_
                        refine Gx.region ?_
                        refine Gx.val rfl rfl rfl (val_move rfl rfl) ?_
                        refine Gx.val rfl rfl rfl (val_move rfl rfl) ?_
                        refine Gx.val rfl rfl rfl (val_add rfl rfl rfl (r := ((m256 + 1 : Nat) : Int)) (w64 (by omega) (by omega))) ?_
                        refine Gx.val rfl rfl rfl (val_move rfl rfl) ?_
                        refine Gx.val rfl rfl rfl (val_move rfl rfl) ?_
                        refine Gx.eff rfl rfl rfl (eff_call (vs := [v, .int .i64 ((m256 + 1 : Nat) : Int), .int .i64 ((b1 : Nat) : Int), .int .i64 ((li : Nat) : Int)]) rfl Try.fn39 rfl (fun w H => ih (a := (m256 + 1)) (b := b1) (limit := li) (by omega) (by omega) (by have := ((hps.sub hsy239).sub hsy255).sh.len; omega) (by have := ((hps.sub hsy239).sub hsy255).sh.len; omega) (by omega) (Bel.at_ hv260 hhi262) (H.at_ (k := 0) rfl))) ?_
                        rintro _ l272 ⟨ys269, hsy270, hsr271, rfl, hl272⟩
                        refine Gx.sepEq (l' := [Hp.own FU 1 v ys269, R]) hl272 ?_
                        refine Gx.done ?_
                        refine Gx.thenN ?_
                        have hnps := (((hps.sub hsy239).sub hsy255).sub (hsy270.mono (by omega) (Nat.le_refl _))).right (by omega) (by omega) (by rw [hsy270.out (by omega)]; exact hv260) (hlo261.sh' hsy270 (by omega)) (hhi262.sh hsy270) hsr271
                        refine Gx.region ?_
                        refine Gx.val rfl rfl rfl (val_move rfl rfl) ?_
                        refine Gx.val rfl rfl rfl (val_assign rfl rfl) ?_
                        refine Gx.done ?_
                        refine Gx.blkN ?_
                        refine Gx.thenN ?_
                        exact Gx.round (a1, m256, li, decide ((((b1 - a1) / 8 : Nat) : Int) ≤ ((b1 - m256 : Nat) : Int)), al257, ys269) ⟨by first | omega | (dsimp only; omega), hnps⟩ (by first | omega | (dsimp only; omega)) ((.cons rfl (.cons rfl (.cons rfl (.cons rfl (.cons rfl (.cons rfl .nil))))))) rfl
                  · refine Gq.skipg rfl rfl rfl rfl rfl rfl ?_
                    refine Gq.skipg rfl rfl rfl rfl rfl rfl ?_
                    refine Gq.skipg rfl rfl rfl rfl rfl rfl ?_
                    refine Gq.skipg rfl rfl rfl rfl rfl rfl ?_
                    refine Gq.skipg rfl rfl rfl rfl rfl rfl ?_
                    refine Gq.skipg rfl rfl rfl rfl rfl rfl ?_
                    refine Gq.skipg rfl rfl rfl rfl rfl rfl ?_
                    refine Gq.skipg rfl rfl rfl rfl rfl rfl ?_
                    refine Gq.skipg rfl rfl rfl rfl rfl rfl ?_
                    refine Gq.skipg rfl rfl rfl rfl rfl rfl ?_
                    refine Gq.skipg rfl rfl rfl rfl rfl rfl ?_
                    refine Gq.val rfl rfl rfl (val_pickF rfl rfl rfl) ?_
                    refine Gq.done ?_
                    refine Gx.thenN ?_
                    refine Gx.f rfl ?_
                    refine Gx.skip ?_
                    refine Gx.thenN ?_
                    refine Gx.seq ?_
                    refine Gx.region ?_
                    refine Gx.val rfl rfl rfl (val_move rfl rfl) ?_
                    refine Gx.val rfl rfl rfl (val_move rfl rfl) ?_
                    refine Gx.val rfl rfl rfl (val_move rfl rfl) ?_
                    refine Gx.val rfl rfl rfl (val_move rfl rfl) ?_
                    refine Gx.eff rfl rfl rfl (eff_call (vs := [v, .int .i64 ((a1 : Nat) : Int), .int .i64 ((b1 : Nat) : Int), .int .i64 ((p124 : Nat) : Int)]) rfl Try.fn49 rfl (fun w H => part_any (a := a1) (b := b1) (p := p124) (by omega) (by omega) (by have := (hps.sub hsy239).sh.len; omega) (by have := (hps.sub hsy239).sh.len; omega) hpv (H.at_ (k := 0) rfl))) ?_
                    rintro _ l282 ⟨ys273, m275, al276, hsy274, hm277, hn278, hv279, hlo280, hhi281, rfl, hl282⟩
                    refine Gx.sepEq (l' := [Hp.own FU 1 v ys273, R]) hl282 ?_
                    refine Gx.val rfl rfl rfl (val_move rfl rfl) ?_
                    refine Gx.val rfl rfl rfl (val_extract rfl rfl rfl) ?_
                    refine Gx.val rfl rfl rfl (val_extract rfl rfl rfl) ?_
                    refine Gx.val rfl rfl rfl (val_assign rfl rfl) ?_
                    refine Gx.val rfl rfl rfl (val_assign rfl rfl) ?_
                    refine Gx.done ?_
                    refine Gx.thenN ?_
                    refine Gx.seq ?_
                    refine Gx.region ?_
                    refine Gx.val rfl rfl rfl (val_move rfl rfl) ?_
                    refine Gx.val rfl rfl rfl (val_assign rfl rfl) ?_
                    refine Gx.done ?_
                    refine Gx.thenN ?_
                    refine Gx.seq ?_
                    refine Gx.region ?_
                    refine Gx.val rfl rfl rfl (val_move rfl rfl) ?_
                    refine Gx.val rfl rfl rfl (val_move rfl rfl) ?_
                    refine Gx.val rfl rfl rfl (val_sub rfl rfl rfl (r := ((m275 - a1 : Nat) : Int)) (w64 (by omega) (by omega))) ?_
                    refine Gx.val rfl rfl rfl (val_move rfl rfl) ?_
                    refine Gx.val rfl rfl rfl (val_move rfl rfl) ?_
                    refine Gx.val rfl rfl rfl (val_sub rfl rfl rfl (r := ((b1 - m275 : Nat) : Int)) (w64 (by omega) (by omega))) ?_
                    refine Gx.val rfl rfl rfl (val_assign rfl rfl) ?_
                    refine Gx.val rfl rfl rfl (val_assign rfl rfl) ?_
                    refine Gx.done ?_
                    refine Gx.thenN ?_
                    refine Gx.seq ?_
                    refine Gx.region ?_
                    refine Gx.val rfl rfl rfl (val_move rfl rfl) ?_
                    refine Gx.val rfl rfl rfl (val_quo rfl rfl rfl (r := (((b1 - a1) / 8 : Nat) : Int)) (by omega) (q64 (a := b1 - a1) (m := 8) (by omega) rfl (by omega))) ?_
                    refine Gx.val rfl rfl rfl (val_assign rfl rfl) ?_
                    refine Gx.done ?_
                    refine Gx.thenN ?_
                    refine Gx.seq ?_
                    refine Gx.region ?_
                    refine Gx.val rfl rfl rfl (val_move rfl rfl) ?_
                    refine Gx.val rfl rfl rfl (val_move rfl rfl) ?_
                    refine Gx.val rfl rfl rfl (val_lss rfl rfl rfl) ?_
                    refine Gx.done ?_
                    refine Gx.thenN ?_
                    refine Gx.dec rfl (fun h283 => ?_) (fun h283 => ?_)
                    · refine Gx.seq ?_
                      refine Gx.region ?_
                      refine Gx.val rfl rfl rfl (val_move rfl rfl) ?_
                      refine Gx.val rfl rfl rfl (val_move rfl rfl) ?_
                      refine Gx.val rfl rfl rfl (val_geq rfl rfl rfl) ?_
                      refine Gx.val rfl rfl rfl (val_assign rfl rfl) ?_
                      refine Gx.done ?_
                      refine Gx.thenN ?_
                      refine Gx.seq ?_
                      refine Gx.region ?_
                      refine Gx.val rfl rfl rfl (val_move rfl rfl) ?_
                      refine Gx.val rfl rfl rfl (val_move rfl rfl) ?_
                      refine Gx.val rfl rfl rfl (val_move rfl rfl) ?_
                      refine Gx.val rfl rfl rfl (val_move rfl rfl) ?_
                      refine Gx.eff rfl rfl rfl (eff_call (vs := [v, .int .i64 ((a1 : Nat) : Int), .int .i64 ((m275 : Nat) : Int), .int .i64 ((li : Nat) : Int)]) rfl Try.fn39 rfl (fun w H => ih (a := a1) (b := m275) (limit := li) (by omega) (by omega) (by have := ((hps.sub hsy239).sub hsy274).sh.len; omega) (by have := ((hps.sub hsy239).sub hsy274).sh.len; omega) (by omega) ((((hps.sub hsy239).sub hsy274).bel hB).mono (by omega)) (H.at_ (k := 0) rfl))) ?_
                      rintro _ l287 ⟨ys284, hsy285, hsr286, rfl, hl287⟩
                      refine Gx.sepEq (l' := [Hp.own FU 1 v ys284, R]) hl287 ?_
                      refine Gx.done ?_
                      refine Gx.thenN ?_
                      have hnps := (((hps.sub hsy239).sub hsy274).sub (hsy285.mono (Nat.le_refl _) (by omega))).left (by omega) (by omega) (by rw [hsy285.out (by omega)]; exact hv279) (hlo280.sh hsy285) (hhi281.sh' hsy285 (by omega)) hsr286
                      refine Gx.region ?_
                      refine Gx.val rfl rfl rfl (val_move rfl rfl) ?_
                      refine Gx.val rfl rfl rfl (val_add rfl rfl rfl (r := ((m275 + 1 : Nat) : Int)) (w64 (by omega) (by omega))) ?_
                      refine Gx.val rfl rfl rfl (val_assign rfl rfl) ?_
                      refine Gx.done ?_
                      refine Gx.blkN ?_
                      refine Gx.thenN ?_
                      exact Gx.round (m275 + 1, b1, li, decide ((((b1 - a1) / 8 : Nat) : Int) ≤ ((m275 - a1 : Nat) : Int)), al276, ys284) ⟨by first | omega | (dsimp only; omega), hnps⟩ (by first | omega | (dsimp only; omega)) ((.cons rfl (.cons rfl (.cons rfl (.cons rfl (.cons rfl (.cons rfl .nil))))))) rfl
                    · refine Gx.seq ?_
                      refine Gx.region ?_
                      refine Gx.val rfl rfl rfl (val_move rfl rfl) ?_
                      refine Gx.val rfl rfl rfl (val_move rfl rfl) ?_
                      refine Gx.val rfl rfl rfl (val_geq rfl rfl rfl) ?_
                      refine Gx.val rfl rfl rfl (val_assign rfl rfl) ?_
                      refine Gx.done ?_
                      refine Gx.thenN ?_
                      refine Gx.seq ?_
                      refine Gx.region ?_
                      refine Gx.val rfl rfl rfl (val_move rfl rfl) ?_
                      refine Gx.val rfl rfl rfl (val_move rfl rfl) ?_
                      refine Gx.val rfl rfl rfl (val_add rfl rfl rfl (r := ((m275 + 1 : Nat) : Int)) (w64 (by omega) (by omega))) ?_
                      refine Gx.val rfl rfl rfl (val_move rfl rfl) ?_
                      refine Gx.val rfl rfl rfl (val_move rfl rfl) ?_
                      refine Gx.eff rfl rfl rfl (eff_call (vs := [v, .int .i64 ((m275 + 1 : Nat) : Int), .int .i64 ((b1 : Nat) : Int), .int .i64 ((li : Nat) : Int)]) rfl Try.fn39 rfl (fun w H => ih (a := (m275 + 1)) (b := b1) (limit := li) (by omega) (by omega) (by have := ((hps.sub hsy239).sub hsy274).sh.len; omega) (by have := ((hps.sub hsy239).sub hsy274).sh.len; omega) (by omega) (Bel.at_ hv279 hhi281) (H.at_ (k := 0) rfl))) ?_
                      rintro _ l291 ⟨ys288, hsy289, hsr290, rfl, hl291⟩
                      refine Gx.sepEq (l' := [Hp.own FU 1 v ys288, R]) hl291 ?_
                      refine Gx.done ?_
                      refine Gx.thenN ?_
                      have hnps := (((hps.sub hsy239).sub hsy274).sub (hsy289.mono (by omega) (Nat.le_refl _))).right (by omega) (by omega) (by rw [hsy289.out (by omega)]; exact hv279) (hlo280.sh' hsy289 (by omega)) (hhi281.sh hsy289) hsr290
                      refine Gx.region ?_
                      refine Gx.val rfl rfl rfl (val_move rfl rfl) ?_
                      refine Gx.val rfl rfl rfl (val_assign rfl rfl) ?_
                      refine Gx.done ?_
                      refine Gx.blkN ?_
                      refine Gx.thenN ?_
                      exact Gx.round (a1, m275, li, decide ((((b1 - a1) / 8 : Nat) : Int) ≤ ((b1 - m275 : Nat) : Int)), al276, ys288) ⟨by first | omega | (dsimp only; omega), hnps⟩ (by first | omega | (dsimp only; omega)) ((.cons rfl (.cons rfl (.cons rfl (.cons rfl (.cons rfl (.cons rfl .nil))))))) rfl
              · refine Gx.skip ?_
                refine Gx.thenN ?_
                refine Gx.seq ?_
                refine Gx.seq ?_
                have hpc := hps.sh.len
                obtain ⟨pv, hpv⟩ := get_of_lt (xs := L) (k := p124) (by omega)
                refine Gx.regionQ Try.mixed (by kernel_rfl) ?_
                refine Gq.val rfl rfl rfl (val_move rfl rfl) ?_
                refine Gq.val rfl rfl rfl (val_gtr rfl rfl rfl) ?_
                refine Gq.val rfl rfl rfl (val_move rfl rfl) ?_
                refine Gq.cases (t := 75) rfl (fun h292 => ?_) (fun h292 => ?_)
                · obtain ⟨x0, hx0⟩ := get_of_lt (xs := L) (k := a1 - 1) (by omega)
                  refine Gq.valg rfl rfl rfl rfl rfl (val_move rfl rfl) ?_
                  refine Gq.valg rfl rfl rfl rfl rfl (val_move rfl rfl) ?_
                  refine Gq.valg rfl rfl rfl rfl rfl (val_sub rfl rfl rfl (r := ((a1 - 1 : Nat) : Int)) (w64 (by omega) (by omega))) ?_
                  refine Gq.valg rfl rfl rfl rfl rfl (val_ixa rfl Try.underlying22 Try.ty28 rfl rfl (j := a1 - 1) (rfl) (reach_own (k := 0) rfl hx0)) ?_
                  refine Gq.valg rfl rfl rfl rfl rfl (val_load rfl Try.ty28 rfl rfl (cell_own (i := 0) (sz := 1) (j := a1 - 1) (k := 0) rfl hx0 rfl)) ?_
                  refine Gq.valg rfl rfl rfl rfl rfl (val_move rfl rfl) ?_
                  refine Gq.valg rfl rfl rfl rfl rfl (val_move rfl rfl) ?_
                  refine Gq.valg rfl rfl rfl rfl rfl (val_ixa rfl Try.underlying22 Try.ty28 rfl rfl (j := p124) (rfl) (reach_own (k := 0) rfl hpv)) ?_
                  refine Gq.valg rfl rfl rfl rfl rfl (val_load rfl Try.ty28 rfl rfl (cell_own (i := 0) (k := 0) rfl hpv rfl)) ?_
                  refine Gq.valg rfl rfl rfl rfl rfl (val_call (vs := [.int .u32 ((x0 : Nat) : Int), .int .u32 ((pv : Nat) : Int)]) rfl Try.fn47 rfl (fun w H => less_any x0 pv)) ?_
                  refine Gq.valg rfl rfl rfl rfl rfl (val_notD rfl rfl) ?_
                  refine Gq.val rfl rfl rfl (val_pickT rfl rfl rfl) ?_
                  refine Gq.done ?_
                  refine Gx.thenN ?_
                  refine Gx.dec rfl (fun h293 => ?_) (fun h293 => ?_)
                  · refine Gx.seq ?_
                    refine Gx.region ?_
                    refine Gx.val rfl rfl rfl (val_move rfl rfl) ?_
                    refine Gx.val rfl rfl rfl (val_move rfl rfl) ?_
                    refine Gx.val rfl rfl rfl (val_move rfl rfl) ?_
                    refine Gx.val rfl rfl rfl (val_move rfl rfl) ?_
                    refine Gx.eff rfl rfl rfl (eff_call (vs := [v, .int .i64 ((a1 : Nat) : Int), .int .i64 ((b1 : Nat) : Int), .int .i64 ((p124 : Nat) : Int)]) rfl Try.fn48 rfl (fun w H => parteq_any (a := a1) (b := b1) (p := p124) (by omega) (by omega) (by have := hps.sh.len; omega) (by have := hps.sh.len; omega) hpv (H.at_ (k := 0) rfl))) ?_
                    rintro _ l301 ⟨ys294, m296, hsy295, hm297, hn298, hlo299, hhi300, rfl, hl301⟩
                    refine Gx.sepEq (l' := [Hp.own FU 1 v ys294, R]) hl301 ?_
                    refine Gx.val rfl rfl rfl (val_assign rfl rfl) ?_
                    refine Gx.done ?_
                    refine Gx.thenN ?_
                    refine Gx.seq ?_
                    have hnps := (hps.sub hsy295).eq hB (by omega) (by omega) (by omega) (by rw [hsy295.out (by omega)]; exact hx0) (by omega) hlo299 hhi300
                    refine Gx.region ?_
                    refine Gx.val rfl rfl rfl (val_move rfl rfl) ?_
                    refine Gx.val rfl rfl rfl (val_assign rfl rfl) ?_
                    refine Gx.done ?_
                    refine Gx.thenN ?_
                    refine Gx.exit ?_
                    refine Gx.thenE ?_
                    refine Gx.blkE ?_
                    refine Gx.thenN ?_
                    exact Gx.round (m296, b1, li, wb, wp, ys294) ⟨by first | omega | (dsimp only; omega), hnps⟩ (by first | omega | (dsimp only; omega)) ((.cons rfl (.cons rfl (.cons rfl (.cons rfl (.cons rfl (.cons rfl .nil))))))) rfl
                  · refine Gx.skip ?_
                    refine Gx.thenN ?_
                    refine Gx.seq ?_
                    refine Gx.region ?_
                    refine Gx.val rfl rfl rfl (val_move rfl rfl) ?_
                    refine Gx.val rfl rfl rfl (val_move rfl rfl) ?_
                    refine Gx.val rfl rfl rfl (val_move rfl rfl) ?_
                    refine Gx.val rfl rfl rfl (val_move rfl rfl) ?_
                    refine Gx.eff rfl rfl rfl (eff_call (vs := [v, .int .i64 ((a1 : Nat) : Int), .int .i64 ((b1 : Nat) : Int), .int .i64 ((p124 : Nat) : Int)]) rfl Try.fn49 rfl (fun w H => part_any (a := a1) (b := b1) (p := p124) (by omega) (by omega) (by have := hps.sh.len; omega) (by have := hps.sh.len; omega) hpv (H.at_ (k := 0) rfl))) ?_
                    rintro _ l311 ⟨ys302, m304, al305, hsy303, hm306, hn307, hv308, hlo309, hhi310, rfl, hl311⟩
                    refine Gx.sepEq (l' := [Hp.own FU 1 v ys302, R]) hl311 ?_
                    refine Gx.val rfl rfl rfl (val_move rfl rfl) ?_
                    refine Gx.val rfl rfl rfl (val_extract rfl rfl rfl) ?_
                    refine Gx.val rfl rfl rfl (val_extract rfl rfl rfl) ?_
                    refine Gx.val rfl rfl rfl (val_assign rfl rfl) ?_
                    refine Gx.val rfl rfl rfl (val_assign rfl rfl) ?_
                    refine Gx.done ?_
                    refine Gx.thenN ?_
                    refine Gx.seq ?_
                    refine Gx.region ?_
                    refine Gx.val rfl rfl rfl (val_move rfl rfl) ?_
                    refine Gx.val rfl rfl rfl (val_assign rfl rfl) ?_
                    refine Gx.done ?_
                    refine Gx.thenN ?_
                    refine Gx.seq ?_
                    refine Gx.region ?_
                    refine Gx.val rfl rfl rfl (val_move rfl rfl) ?_
                    refine Gx.val rfl rfl rfl (val_move rfl rfl) ?_
                    refine Gx.val rfl rfl rfl (val_sub rfl rfl rfl (r := ((m304 - a1 : Nat) : Int)) (w64 (by omega) (by omega))) ?_
                    refine Gx.val rfl rfl rfl (val_move rfl rfl) ?_
                    refine Gx.val rfl rfl rfl (val_move rfl rfl) ?_
                    refine Gx.val rfl rfl rfl (val_sub rfl rfl rfl (r := ((b1 - m304 : Nat) : Int)) (w64 (by omega) (by omega))) ?_
                    refine Gx.val rfl rfl rfl (val_assign rfl rfl) ?_
                    refine Gx.val rfl rfl rfl (val_assign rfl rfl) ?_
                    refine Gx.done ?_
                    refine Gx.thenN ?_
                    refine Gx.seq ?_
                    refine Gx.region ?_
                    refine Gx.val rfl rfl rfl (val_move rfl rfl) ?_
                    refine Gx.val rfl rfl rfl (val_quo rfl rfl rfl (r := (((b1 - a1) / 8 : Nat) : Int)) (by omega) (q64 (a := b1 - a1) (m := 8) (by omega) rfl (by omega))) ?_
                    refine Gx.val rfl rfl rfl (val_assign rfl rfl) ?_
                    refine Gx.done ?_
                    refine Gx.thenN ?_
                    refine Gx.seq ?_
                    refine Gx.region ?_
                    refine Gx.val rfl rfl rfl (val_move rfl rfl) ?_
                    refine Gx.val rfl rfl rfl (val_move rfl rfl) ?_
                    refine Gx.val rfl rfl rfl (val_lss rfl rfl rfl) ?_
                    refine Gx.done ?_
                    refine Gx.thenN ?_
                    refine Gx.dec rfl (fun h312 => ?_) (fun h312 => ?_)
                    · refine Gx.seq ?_
                      refine Gx.region ?_
                      refine Gx.val rfl rfl rfl (val_move rfl rfl) ?_
                      refine Gx.val rfl rfl rfl (val_move rfl rfl) ?_
                      refine Gx.val rfl rfl rfl (val_geq rfl rfl rfl) ?_
                      refine Gx.val rfl rfl rfl (val_assign rfl rfl) ?_
                      refine Gx.done ?_
                      refine Gx.thenN ?_
                      refine Gx.seq ?_
                      refine Gx.region ?_
                      refine Gx.val rfl rfl rfl (val_move rfl rfl) ?_
                      refine Gx.val rfl rfl rfl (val_move rfl rfl) ?_
                      refine Gx.val rfl rfl rfl (val_move rfl rfl) ?_
                      refine Gx.val rfl rfl rfl (val_move rfl rfl) ?_
                      refine Gx.eff rfl rfl rfl (eff_call (vs := [v, .int .i64 ((a1 : Nat) : Int), .int .i64 ((m304 : Nat) : Int), .int .i64 ((li : Nat) : Int)]) rfl Try.fn39 rfl (fun w H => ih (a := a1) (b := m304) (limit := li) (by omega) (by omega) (by have := (hps.sub hsy303).sh.len; omega) (by have := (hps.sub hsy303).sh.len; omega) (by omega) (((hps.sub hsy303).bel hB).mono (by omega)) (H.at_ (k := 0) rfl))) ?_
                      rintro _ l316 ⟨ys313, hsy314, hsr315, rfl, hl316⟩
                      refine Gx.sepEq (l' := [Hp.own FU 1 v ys313, R]) hl316 ?_
                      refine Gx.done ?_
                      refine Gx.thenN ?_
                      have hnps := ((hps.sub hsy303).sub (hsy314.mono (Nat.le_refl _) (by omega))).left (by omega) (by omega) (by rw [hsy314.out (by omega)]; exact hv308) (hlo309.sh hsy314) (hhi310.sh' hsy314 (by omega)) hsr315
                      refine Gx.region ?_
                      refine Gx.val rfl rfl rfl (val_move rfl rfl) ?_
                      refine Gx.val rfl rfl rfl (val_add rfl rfl rfl (r := ((m304 + 1 : Nat) : Int)) (w64 (by omega) (by omega))) ?_
                      refine Gx.val rfl rfl rfl (val_assign rfl rfl) ?_
                      refine Gx.done ?_
                      refine Gx.blkN ?_
                      refine Gx.thenN ?_
                      exact Gx.round (m304 + 1, b1, li, decide ((((b1 - a1) / 8 : Nat) : Int) ≤ ((m304 - a1 : Nat) : Int)), al305, ys313) ⟨by first | omega | (dsimp only; omega), hnps⟩ (by first | omega | (dsimp only; omega)) ((.cons rfl (.cons rfl (.cons rfl (.cons rfl (.cons rfl (.cons rfl .nil))))))) rfl
                    · refine Gx.seq ?_
                      refine Gx.region ?_
                      refine Gx.val rfl rfl rfl (val_move rfl rfl) ?_
                      refine Gx.val rfl rfl rfl (val_move rfl rfl) ?_
                      refine Gx.val rfl rfl rfl (val_geq rfl rfl rfl) ?_
                      refine Gx.val rfl rfl rfl (val_assign rfl rfl) ?_
                      refine Gx.done ?_
                      refine Gx.thenN ?_
                      refine Gx.seq ?_
                      refine Gx.region ?_
                      refine Gx.val rfl rfl rfl (val_move rfl rfl) ?_
                      refine Gx.val rfl rfl rfl (val_move rfl rfl) ?_
                      refine Gx.val rfl rfl rfl (val_add rfl rfl rfl (r := ((m304 + 1 : Nat) : Int)) (w64 (by omega) (by omega))) ?_
                      refine Gx.val rfl rfl rfl (val_move rfl rfl) ?_
                      refine Gx.val rfl rfl rfl (val_move rfl rfl) ?_
                      refine Gx.eff rfl rfl rfl (eff_call (vs := [v, .int .i64 ((m304 + 1 : Nat) : Int), .int .i64 ((b1 : Nat) : Int), .int .i64 ((li : Nat) : Int)]) rfl Try.fn39 rfl (fun w H => ih (a := (m304 + 1)) (b := b1) (limit := li) (by omega) (by omega) (by have := (hps.sub hsy303).sh.len; omega) (by have := (hps.sub hsy303).sh.len; omega) (by omega) (Bel.at_ hv308 hhi310) (H.at_ (k := 0) rfl))) ?_
                      rintro _ l320 ⟨ys317, hsy318, hsr319, rfl, hl320⟩
                      refine Gx.sepEq (l' := [Hp.own FU 1 v ys317, R]) hl320 ?_
                      refine Gx.done ?_
                      refine Gx.thenN ?_
                      have hnps := ((hps.sub hsy303).sub (hsy318.mono (by omega) (Nat.le_refl _))).right (by omega) (by omega) (by rw [hsy318.out (by omega)]; exact hv308) (hlo309.sh' hsy318 (by omega)) (hhi310.sh hsy318) hsr319
                      refine Gx.region ?_
                      refine Gx.val rfl rfl rfl (val_move rfl rfl) ?_
                      refine Gx.val rfl rfl rfl (val_assign rfl rfl) ?_
                      refine Gx.done ?_
                      refine Gx.blkN ?_
                      refine Gx.thenN ?_
                      exact Gx.round (a1, m304, li, decide ((((b1 - a1) / 8 : Nat) : Int) ≤ ((b1 - m304 : Nat) : Int)), al305, ys317) ⟨by first | omega | (dsimp only; omega), hnps⟩ (by first | omega | (dsimp only; omega)) ((.cons rfl (.cons rfl (.cons rfl (.cons rfl (.cons rfl (.cons rfl .nil))))))) rfl
                · refine Gq.skipg rfl rfl rfl rfl rfl rfl ?_
                  refine Gq.skipg rfl rfl rfl rfl rfl rfl ?_
                  refine Gq.skipg rfl rfl rfl rfl rfl rfl ?_
                  refine Gq.skipg rfl rfl rfl rfl rfl rfl ?_
                  refine Gq.skipg rfl rfl rfl rfl rfl rfl ?_
                  refine Gq.skipg rfl rfl rfl rfl rfl rfl ?_
                  refine Gq.skipg rfl rfl rfl rfl rfl rfl ?_
                  refine Gq.skipg rfl rfl rfl rfl rfl rfl ?_
                  refine Gq.skipg rfl rfl rfl rfl rfl rfl ?_
                  refine Gq.skipg rfl rfl rfl rfl rfl rfl ?_
                  refine Gq.skipg rfl rfl rfl rfl rfl rfl ?_
                  refine Gq.val rfl rfl rfl (val_pickF rfl rfl rfl) ?_
                  refine Gq.done ?_
                  refine Gx.thenN ?_
                  refine Gx.f rfl ?_
                  refine Gx.skip ?_
                  refine Gx.thenN ?_
                  refine Gx.seq ?_
                  refine Gx.region ?_
                  refine Gx.val rfl rfl rfl (val_move rfl rfl) ?_
                  refine Gx.val rfl rfl rfl (val_move rfl rfl) ?_
                  refine Gx.val rfl rfl rfl (val_move rfl rfl) ?_
                  refine Gx.val rfl rfl rfl (val_move rfl rfl) ?_
                  refine Gx.eff rfl rfl rfl (eff_call (vs := [v, .int .i64 ((a1 : Nat) : Int), .int .i64 ((b1 : Nat) : Int), .int .i64 ((p124 : Nat) : Int)]) rfl Try.fn49 rfl (fun w H => part_any (a := a1) (b := b1) (p := p124) (by omega) (by omega) (by have := hps.sh.len; omega) (by have := hps.sh.len; omega) hpv (H.at_ (k := 0) rfl))) ?_
                  rintro _ l330 ⟨ys321, m323, al324, hsy322, hm325, hn326, hv327, hlo328, hhi329, rfl, hl330⟩
                  refine Gx.sepEq (l' := [Hp.own FU 1 v ys321, R]) hl330 ?_
                  refine Gx.val rfl rfl rfl (val_move rfl rfl) ?_
                  refine Gx.val rfl rfl rfl (val_extract rfl rfl rfl) ?_
                  refine Gx.val rfl rfl rfl (val_extract rfl rfl rfl) ?_
                  refine Gx.val rfl rfl rfl (val_assign rfl rfl) ?_
                  refine Gx.val rfl rfl rfl (val_assign rfl rfl) ?_
                  refine Gx.done ?_
                  refine Gx.thenN ?_
                  refine Gx.seq ?_
                  refine Gx.region ?_
                  refine Gx.val rfl rfl rfl (val_move rfl rfl) ?_
                  refine Gx.val rfl rfl rfl (val_assign rfl rfl) ?_
                  refine Gx.done ?_
                  refine Gx.thenN ?_
                  refine Gx.seq ?_
                  refine Gx.region ?_
                  refine Gx.val rfl rfl rfl (val_move rfl rfl) ?_
                  refine Gx.val rfl rfl rfl (val_move rfl rfl) ?_
                  refine Gx.val rfl rfl rfl (val_sub rfl rfl rfl (r := ((m323 - a1 : Nat) : Int)) (w64 (by omega) (by omega))) ?_
                  refine Gx.val rfl rfl rfl (val_move rfl rfl) ?_
                  refine Gx.val rfl rfl rfl (val_move rfl rfl) ?_
                  refine Gx.val rfl rfl rfl (val_sub rfl rfl rfl (r := ((b1 - m323 : Nat) : Int)) (w64 (by omega) (by omega))) ?_
                  refine Gx.val rfl rfl rfl (val_assign rfl rfl) ?_
                  refine Gx.val rfl rfl rfl (val_assign rfl rfl) ?_
                  refine Gx.done ?_
                  refine Gx.thenN ?_
                  refine Gx.seq ?_
                  refine Gx.region ?_
                  refine Gx.val rfl rfl rfl (val_move rfl rfl) ?_
                  refine Gx.val rfl rfl rfl (val_quo rfl rfl rfl (r := (((b1 - a1) / 8 : Nat) : Int)) (by omega) (q64 (a := b1 - a1) (m := 8) (by omega) rfl (by omega))) ?_
                  refine Gx.val rfl rfl rfl (val_assign rfl rfl) ?_
                  refine Gx.done ?_
                  refine Gx.thenN ?_
                  refine Gx.seq ?_
                  refine Gx.region ?_
                  refine Gx.val rfl rfl rfl (val_move rfl rfl) ?_
                  refine Gx.val rfl rfl rfl (val_move rfl rfl) ?_
                  refine Gx.val rfl rfl rfl (val_lss rfl rfl rfl) ?_
                  refine Gx.done ?_
                  refine Gx.thenN ?_
                  refine Gx.dec rfl (fun h331 => ?_) (fun h331 => ?_)
                  · refine Gx.seq ?_
                    refine Gx.region ?_
                    refine Gx.val rfl rfl rfl (val_move rfl rfl) ?_
                    refine Gx.val rfl rfl rfl (val_move rfl rfl) ?_
                    refine Gx.val rfl rfl rfl (val_geq rfl rfl rfl) ?_
                    refine Gx.val rfl rfl rfl (val_assign rfl rfl) ?_
                    refine Gx.done ?_
                    refine Gx.thenN ?_
                    refine Gx.seq ?_
                    refine Gx.region ?_
                    refine Gx.val rfl rfl rfl (val_move rfl rfl) ?_
                    refine Gx.val rfl rfl rfl (val_move rfl rfl) ?_
                    refine Gx.val rfl rfl rfl (val_move rfl rfl) ?_
                    refine Gx.val rfl rfl rfl (val_move rfl rfl) ?_
                    refine Gx.eff rfl rfl rfl (eff_call (vs := [v, .int .i64 ((a1 : Nat) : Int), .int .i64 ((m323 : Nat) : Int), .int .i64 ((li : Nat) : Int)]) rfl Try.fn39 rfl (fun w H => ih (a := a1) (b := m323) (limit := li) (by omega) (by omega) (by have := (hps.sub hsy322).sh.len; omega) (by have := (hps.sub hsy322).sh.len; omega) (by omega) (((hps.sub hsy322).bel hB).mono (by omega)) (H.at_ (k := 0) rfl))) ?_
                    rintro _ l335 ⟨ys332, hsy333, hsr334, rfl, hl335⟩
                    refine Gx.sepEq (l' := [Hp.own FU 1 v ys332, R]) hl335 ?_
                    refine Gx.done ?_
                    refine Gx.thenN ?_
                    have hnps := ((hps.sub hsy322).sub (hsy333.mono (Nat.le_refl _) (by omega))).left (by omega) (by omega) (by rw [hsy333.out (by omega)]; exact hv327) (hlo328.sh hsy333) (hhi329.sh' hsy333 (by omega)) hsr334
                    refine Gx.region ?_
                    refine Gx.val rfl rfl rfl (val_move rfl rfl) ?_
                    refine Gx.val rfl rfl rfl (val_add rfl rfl rfl (r := ((m323 + 1 : Nat) : Int)) (w64 (by omega) (by omega))) ?_
                    refine Gx.val rfl rfl rfl (val_assign rfl rfl) ?_
                    refine Gx.done ?_
                    refine Gx.blkN ?_
                    refine Gx.thenN ?_
                    exact Gx.round (m323 + 1, b1, li, decide ((((b1 - a1) / 8 : Nat) : Int) ≤ ((m323 - a1 : Nat) : Int)), al324, ys332) ⟨by first | omega | (dsimp only; omega), hnps⟩ (by first | omega | (dsimp only; omega)) ((.cons rfl (.cons rfl (.cons rfl (.cons rfl (.cons rfl (.cons rfl .nil))))))) rfl
                  · refine Gx.seq ?_
                    refine Gx.region ?_
                    refine Gx.val rfl rfl rfl (val_move rfl rfl) ?_
                    refine Gx.val rfl rfl rfl (val_move rfl rfl) ?_
                    refine Gx.val rfl rfl rfl (val_geq rfl rfl rfl) ?_
                    refine Gx.val rfl rfl rfl (val_assign rfl rfl) ?_
                    refine Gx.done ?_
                    refine Gx.thenN ?_
                    refine Gx.seq ?_
                    refine Gx.region ?_
                    refine Gx.val rfl rfl rfl (val_move rfl rfl) ?_
                    refine Gx.val rfl rfl rfl (val_move rfl rfl) ?_
                    refine Gx.val rfl rfl rfl (val_add rfl rfl rfl (r := ((m323 + 1 : Nat) : Int)) (w64 (by omega) (by omega))) ?_
                    refine Gx.val rfl rfl rfl (val_move rfl rfl) ?_
                    refine Gx.val rfl rfl rfl (val_move rfl rfl) ?_
                    refine Gx.eff rfl rfl rfl (eff_call (vs := [v, .int .i64 ((m323 + 1 : Nat) : Int), .int .i64 ((b1 : Nat) : Int), .int .i64 ((li : Nat) : Int)]) rfl Try.fn39 rfl (fun w H => ih (a := (m323 + 1)) (b := b1) (limit := li) (by omega) (by omega) (by have := (hps.sub hsy322).sh.len; omega) (by have := (hps.sub hsy322).sh.len; omega) (by omega) (Bel.at_ hv327 hhi329) (H.at_ (k := 0) rfl))) ?_
                    rintro _ l339 ⟨ys336, hsy337, hsr338, rfl, hl339⟩
                    refine Gx.sepEq (l' := [Hp.own FU 1 v ys336, R]) hl339 ?_
                    refine Gx.done ?_
                    refine Gx.thenN ?_
                    have hnps := ((hps.sub hsy322).sub (hsy337.mono (by omega) (Nat.le_refl _))).right (by omega) (by omega) (by rw [hsy337.out (by omega)]; exact hv327) (hlo328.sh' hsy337 (by omega)) (hhi329.sh hsy337) hsr338
                    refine Gx.region ?_
                    refine Gx.val rfl rfl rfl (val_move rfl rfl) ?_
                    refine Gx.val rfl rfl rfl (val_assign rfl rfl) ?_
                    refine Gx.done ?_
                    refine Gx.blkN ?_
                    refine Gx.thenN ?_
                    exact Gx.round (a1, m323, li, decide ((((b1 - a1) / 8 : Nat) : Int) ≤ ((b1 - m323 : Nat) : Int)), al324, ys336) ⟨by first | omega | (dsimp only; omega), hnps⟩ (by first | omega | (dsimp only; omega)) ((.cons rfl (.cons rfl (.cons rfl (.cons rfl (.cons rfl (.cons rfl .nil))))))) rfl
            · refine Gx.skipg rfl rfl rfl rfl rfl rfl ?_
              refine Gx.skipg rfl rfl rfl rfl rfl rfl ?_
              refine Gx.val rfl rfl rfl (val_pickF rfl rfl rfl) ?_
              refine Gx.done ?_
              refine Gx.thenN ?_
              refine Gx.f rfl ?_
              refine Gx.skip ?_
              refine Gx.thenN ?_
              refine Gx.seq ?_
              refine Gx.seq ?_
              have hpc := hps.sh.len
              obtain ⟨pv, hpv⟩ := get_of_lt (xs := L) (k := p124) (by omega)
              refine Gx.regionQ Try.mixed (by kernel_rfl) ?_
              refine Gq.val rfl rfl rfl (val_move rfl rfl) ?_
              refine Gq.val rfl rfl rfl (val_gtr rfl rfl rfl) ?_
              refine Gq.val rfl rfl rfl (val_move rfl rfl) ?_
              refine Gq.cases (t := 75) rfl (fun h340 => ?_) (fun h340 => ?_)
              · obtain ⟨x0, hx0⟩ := get_of_lt (xs := L) (k := a1 - 1) (by omega)
                refine Gq.valg rfl rfl rfl rfl rfl (val_move rfl rfl) ?_
                refine Gq.valg rfl rfl rfl rfl rfl (val_move rfl rfl) ?_
                refine Gq.valg rfl rfl rfl rfl rfl (val_sub rfl rfl rfl (r := ((a1 - 1 : Nat) : Int)) (w64 (by omega) (by omega))) ?_
                refine Gq.valg rfl rfl rfl rfl rfl (val_ixa rfl Try.underlying22 Try.ty28 rfl rfl (j := a1 - 1) (rfl) (reach_own (k := 0) rfl hx0)) ?_
                refine Gq.valg rfl rfl rfl rfl rfl (val_load rfl Try.ty28 rfl rfl (cell_own (i := 0) (sz := 1) (j := a1 - 1) (k := 0) rfl hx0 rfl)) ?_
                refine Gq.valg rfl rfl rfl rfl rfl (val_move rfl rfl) ?_
                refine Gq.valg rfl rfl rfl rfl rfl (val_move rfl rfl) ?_
                refine Gq.valg rfl rfl rfl rfl rfl (val_ixa rfl Try.underlying22 Try.ty28 rfl rfl (j := p124) (rfl) (reach_own (k := 0) rfl hpv)) ?_
                refine Gq.valg rfl rfl rfl rfl rfl (val_load rfl Try.ty28 rfl rfl (cell_own (i := 0) (k := 0) rfl hpv rfl)) ?_
                refine Gq.valg rfl rfl rfl rfl rfl (val_call (vs := [.int .u32 ((x0 : Nat) : Int), .int .u32 ((pv : Nat) : Int)]) rfl Try.fn47 rfl (fun w H => less_any x0 pv)) ?_
                refine Gq.valg rfl rfl rfl rfl rfl (val_notD rfl rfl) ?_
                refine Gq.val rfl rfl rfl (val_pickT rfl rfl rfl) ?_
                refine Gq.done ?_
                refine Gx.thenN ?_
                refine Gx.dec rfl (fun h341 => ?_) (fun h341 => ?_)
                · refine Gx.seq ?_
                  refine Gx.region ?_
                  refine Gx.val rfl rfl rfl (val_move rfl rfl) ?_
                  refine Gx.val rfl rfl rfl (val_move rfl rfl) ?_
                  refine Gx.val rfl rfl rfl (val_move rfl rfl) ?_
                  refine Gx.val rfl rfl rfl (val_move rfl rfl) ?_
                  refine Gx.eff rfl rfl rfl (eff_call (vs := [v, .int .i64 ((a1 : Nat) : Int), .int .i64 ((b1 : Nat) : Int), .int .i64 ((p124 : Nat) : Int)]) rfl Try.fn48 rfl (fun w H => parteq_any (a := a1) (b := b1) (p := p124) (by omega) (by omega) (by have := hps.sh.len; omega) (by have := hps.sh.len; omega) hpv (H.at_ (k := 0) rfl))) ?_
                  rintro _ l349 ⟨ys342, m344, hsy343, hm345, hn346, hlo347, hhi348, rfl, hl349⟩
                  refine Gx.sepEq (l' := [Hp.own FU 1 v ys342, R]) hl349 ?_
                  refine Gx.val rfl rfl rfl (val_assign rfl rfl) ?_
                  refine Gx.done ?_
                  refine Gx.thenN ?_
                  refine Gx.seq ?_
                  have hnps := (hps.sub hsy343).eq hB (by omega) (by omega) (by omega) (by rw [hsy343.out (by omega)]; exact hx0) (by omega) hlo347 hhi348
                  refine Gx.region ?_
                  refine Gx.val rfl rfl rfl (val_move rfl rfl) ?_
                  refine Gx.val rfl rfl rfl (val_assign rfl rfl) ?_
                  refine Gx.done ?_
                  refine Gx.thenN ?_
                  refine Gx.exit ?_
                  refine Gx.thenE ?_
                  refine Gx.blkE ?_
                  refine Gx.thenN ?_
                  exact Gx.round (m344, b1, li, wb, wp, ys342) ⟨by first | omega | (dsimp only; omega), hnps⟩ (by first | omega | (dsimp only; omega)) ((.cons rfl (.cons rfl (.cons rfl (.cons rfl (.cons rfl (.cons rfl .nil))))))) rfl
                · refine Gx.skip ?_
                  refine Gx.thenN ?_
                  refine Gx.seq ?_
                  refine Gx.region ?_
                  refine Gx.val rfl rfl rfl (val_move rfl rfl) ?_
                  refine Gx.val rfl rfl rfl (val_move rfl rfl) ?_
                  refine Gx.val rfl rfl rfl (val_move rfl rfl) ?_
                  refine Gx.val rfl rfl rfl (val_move rfl rfl) ?_
                  refine Gx.eff rfl rfl rfl (eff_call (vs := [v, .int .i64 ((a1 : Nat) : Int), .int .i64 ((b1 : Nat) : Int), .int .i64 ((p124 : Nat) : Int)]) rfl Try.fn49 rfl (fun w H => part_any (a := a1) (b := b1) (p := p124) (by omega) (by omega) (by have := hps.sh.len; omega) (by have := hps.sh.len; omega) hpv (H.at_ (k := 0) rfl))) ?_
                  rintro _ l359 ⟨ys350, m352, al353, hsy351, hm354, hn355, hv356, hlo357, hhi358, rfl, hl359⟩
                  refine Gx.sepEq (l' := [Hp.own FU 1 v ys350, R]) hl359 ?_
                  refine Gx.val rfl rfl rfl (val_move rfl rfl) ?_
                  refine Gx.val rfl rfl rfl (val_extract rfl rfl rfl) ?_
                  refine Gx.val rfl rfl rfl (val_extract rfl rfl rfl) ?_
                  refine Gx.val rfl rfl rfl (val_assign rfl rfl) ?_
                  refine Gx.val rfl rfl rfl (val_assign rfl rfl) ?_
                  refine Gx.done ?_
                  refine Gx.thenN ?_
                  refine Gx.seq ?_
                  refine Gx.region ?_
                  refine Gx.val rfl rfl rfl (val_move rfl rfl) ?_
                  refine Gx.val rfl rfl rfl (val_assign rfl rfl) ?_
                  refine Gx.done ?_
                  refine Gx.thenN ?_
                  refine Gx.seq ?_
                  refine Gx.region ?_
                  refine Gx.val rfl rfl rfl (val_move rfl rfl) ?_
                  refine Gx.val rfl rfl rfl (val_move rfl rfl) ?_
                  refine Gx.val rfl rfl rfl (val_sub rfl rfl rfl (r := ((m352 - a1 : Nat) : Int)) (w64 (by omega) (by omega))) ?_
                  refine Gx.val rfl rfl rfl (val_move rfl rfl) ?_
                  refine Gx.val rfl rfl rfl (val_move rfl rfl) ?_
                  refine Gx.val rfl rfl rfl (val_sub rfl rfl rfl (r := ((b1 - m352 : Nat) : Int)) (w64 (by omega) (by omega))) ?_
                  refine Gx.val rfl rfl rfl (val_assign rfl rfl) ?_
                  refine Gx.val rfl rfl rfl (val_assign rfl rfl) ?_
                  refine Gx.done ?_
                  refine Gx.thenN ?_
                  refine Gx.seq ?_
                  refine Gx.region ?_
                  refine Gx.val rfl rfl rfl (val_move rfl rfl) ?_
                  refine Gx.val rfl rfl rfl (val_quo rfl rfl rfl (r := (((b1 - a1) / 8 : Nat) : Int)) (by omega) (q64 (a := b1 - a1) (m := 8) (by omega) rfl (by omega))) ?_
                  refine Gx.val rfl rfl rfl (val_assign rfl rfl) ?_
                  refine Gx.done ?_
                  refine Gx.thenN ?_
                  refine Gx.seq ?_
                  refine Gx.region ?_
                  refine Gx.val rfl rfl rfl (val_move rfl rfl) ?_
                  refine Gx.val rfl rfl rfl (val_move rfl rfl) ?_
                  refine Gx.val rfl rfl rfl (val_lss rfl rfl rfl) ?_
                  refine Gx.done ?_
                  refine Gx.thenN ?_
                  refine Gx.dec rfl (fun h360 => ?_) (fun h360 => ?_)
                  · refine Gx.seq ?_
                    refine Gx.region ?_
                    refine Gx.val rfl rfl rfl (val_move rfl rfl) ?_
                    refine Gx.val rfl rfl rfl (val_move rfl rfl) ?_
                    refine Gx.val rfl rfl rfl (val_geq rfl rfl rfl) ?_
                    refine Gx.val rfl rfl rfl (val_assign rfl rfl) ?_
                    refine Gx.done ?_
                    refine Gx.thenN ?_
                    refine Gx.seq ?_
                    refine Gx.region ?_
                    refine Gx.val rfl rfl rfl (val_move rfl rfl) ?_
                    refine Gx.val rfl rfl rfl (val_move rfl rfl) ?_
                    refine Gx.val rfl rfl rfl (val_move rfl rfl) ?_
                    refine Gx.val rfl rfl rfl (val_move rfl rfl) ?_
                    refine Gx.eff rfl rfl rfl (eff_call (vs := [v, .int .i64 ((a1 : Nat) : Int), .int .i64 ((m352 : Nat) : Int), .int .i64 ((li : Nat) : Int)]) rfl Try.fn39 rfl (fun w H => ih (a := a1) (b := m352) (limit := li) (by omega) (by omega) (by have := (hps.sub hsy351).sh.len; omega) (by have := (hps.sub hsy351).sh.len; omega) (by omega) (((hps.sub hsy351).bel hB).mono (by omega)) (H.at_ (k := 0) rfl))) ?_
                    rintro _ l364 ⟨ys361, hsy362, hsr363, rfl, hl364⟩
                    refine Gx.sepEq (l' := [Hp.own FU 1 v ys361, R]) hl364 ?_
                    refine Gx.done ?_
                    refine Gx.thenN ?_
                    have hnps := ((hps.sub hsy351).sub (hsy362.mono (Nat.le_refl _) (by omega))).left (by omega) (by omega) (by rw [hsy362.out (by omega)]; exact hv356) (hlo357.sh hsy362) (hhi358.sh' hsy362 (by omega)) hsr363
                    refine Gx.region ?_
                    refine Gx.val rfl rfl rfl (val_move rfl rfl) ?_
                    refine Gx.val rfl rfl rfl (val_add rfl rfl rfl (r := ((m352 + 1 : Nat) : Int)) (w64 (by omega) (by omega))) ?_
                    refine Gx.val rfl rfl rfl (val_assign rfl rfl) ?_
                    refine Gx.done ?_
                    refine Gx.blkN ?_
                    refine Gx.thenN ?_
                    exact Gx.round (m352 + 1, b1, li, decide ((((b1 - a1) / 8 : Nat) : Int) ≤ ((m352 - a1 : Nat) : Int)), al353, ys361) ⟨by first | omega | (dsimp only; omega), hnps⟩ (by first | omega | (dsimp only; omega)) ((.cons rfl (.cons rfl (.cons rfl (.cons rfl (.cons rfl (.cons rfl .nil))))))) rfl
                  · refine Gx.seq ?_
                    refine Gx.region ?_
                    refine Gx.val rfl rfl rfl (val_move rfl rfl) ?_
                    refine Gx.val rfl rfl rfl (val_move rfl rfl) ?_
                    refine Gx.val rfl rfl rfl (val_geq rfl rfl rfl) ?_
                    refine Gx.val rfl rfl rfl (val_assign rfl rfl) ?_
                    refine Gx.done ?_
                    refine Gx.thenN ?_
                    refine Gx.seq ?_
                    refine Gx.region ?_
                    refine Gx.val rfl rfl rfl (val_move rfl rfl) ?_
                    refine Gx.val rfl rfl rfl (val_move rfl rfl) ?_
                    refine Gx.val rfl rfl rfl (val_add rfl rfl rfl (r := ((m352 + 1 : Nat) : Int)) (w64 (by omega) (by omega))) ?_
                    refine Gx.val rfl rfl rfl (val_move rfl rfl) ?_
                    refine Gx.val rfl rfl rfl (val_move rfl rfl) ?_
                    refine Gx.eff rfl rfl rfl (eff_call (vs := [v, .int .i64 ((m352 + 1 : Nat) : Int), .int .i64 ((b1 : Nat) : Int), .int .i64 ((li : Nat) : Int)]) rfl Try.fn39 rfl (fun w H => ih (a := (m352 + 1)) (b := b1) (limit := li) (by omega) (by omega) (by have := (hps.sub hsy351).sh.len; omega) (by have := (hps.sub hsy351).sh.len; omega) (by omega) (Bel.at_ hv356 hhi358) (H.at_ (k := 0) rfl))) ?_
                    rintro _ l368 ⟨ys365, hsy366, hsr367, rfl, hl368⟩
                    refine Gx.sepEq (l' := [Hp.own FU 1 v ys365, R]) hl368 ?_
                    refine Gx.done ?_
                    refine Gx.thenN ?_
                    have hnps := ((hps.sub hsy351).sub (hsy366.mono (by omega) (Nat.le_refl _))).right (by omega) (by omega) (by rw [hsy366.out (by omega)]; exact hv356) (hlo357.sh' hsy366 (by omega)) (hhi358.sh hsy366) hsr367
                    refine Gx.region ?_
                    refine Gx.val rfl rfl rfl (val_move rfl rfl) ?_
                    refine Gx.val rfl rfl rfl (val_assign rfl rfl) ?_
                    refine Gx.done ?_
                    refine Gx.blkN ?_
                    refine Gx.thenN ?_
                    exact Gx.round (a1, m352, li, decide ((((b1 - a1) / 8 : Nat) : Int) ≤ ((b1 - m352 : Nat) : Int)), al353, ys365) ⟨by first | omega | (dsimp only; omega), hnps⟩ (by first | omega | (dsimp only; omega)) ((.cons rfl (.cons rfl (.cons rfl (.cons rfl (.cons rfl (.cons rfl .nil))))))) rfl
              · refine Gq.skipg rfl rfl rfl rfl rfl rfl ?_
                refine Gq.skipg rfl rfl rfl rfl rfl rfl ?_
                refine Gq.skipg rfl rfl rfl rfl rfl rfl ?_
                refine Gq.skipg rfl rfl rfl rfl rfl rfl ?_
                refine Gq.skipg rfl rfl rfl rfl rfl rfl ?_
                refine Gq.skipg rfl rfl rfl rfl rfl rfl ?_
                refine Gq.skipg rfl rfl rfl rfl rfl rfl ?_
                refine Gq.skipg rfl rfl rfl rfl rfl rfl ?_
                refine Gq.skipg rfl rfl rfl rfl rfl rfl ?_
                refine Gq.skipg rfl rfl rfl rfl rfl rfl ?_
                refine Gq.skipg rfl rfl rfl rfl rfl rfl ?_
                refine Gq.val rfl rfl rfl (val_pickF rfl rfl rfl) ?_
                refine Gq.done ?_
                refine Gx.thenN ?_
                refine Gx.f rfl ?_
                refine Gx.skip ?_
                refine Gx.thenN ?_
                refine Gx.seq ?_
                refine Gx.region ?_
                refine Gx.val rfl rfl rfl (val_move rfl rfl) ?_
                refine Gx.val rfl rfl rfl (val_move rfl rfl) ?_
                refine Gx.val rfl rfl rfl (val_move rfl rfl) ?_
                refine Gx.val rfl rfl rfl (val_move rfl rfl) ?_
                refine Gx.eff rfl rfl rfl (eff_call (vs := [v, .int .i64 ((a1 : Nat) : Int), .int .i64 ((b1 : Nat) : Int), .int .i64 ((p124 : Nat) : Int)]) rfl Try.fn49 rfl (fun w H => part_any (a := a1) (b := b1) (p := p124) (by omega) (by omega) (by have := hps.sh.len; omega) (by have := hps.sh.len; omega) hpv (H.at_ (k := 0) rfl))) ?_
                rintro _ l378 ⟨ys369, m371, al372, hsy370, hm373, hn374, hv375, hlo376, hhi377, rfl, hl378⟩
                refine Gx.sepEq (l' := [Hp.own FU 1 v ys369, R]) hl378 ?_
                refine Gx.val rfl rfl rfl (val_move rfl rfl) ?_
                refine Gx.val rfl rfl rfl (val_extract rfl rfl rfl) ?_
                refine Gx.val rfl rfl rfl (val_extract rfl rfl rfl) ?_
                refine Gx.val rfl rfl rfl (val_assign rfl rfl) ?_
                refine Gx.val rfl rfl rfl (val_assign rfl rfl) ?_
                refine Gx.done ?_
                refine Gx.thenN ?_
                refine Gx.seq ?_
                refine Gx.region ?_
                refine Gx.val rfl rfl rfl (val_move rfl rfl) ?_
                refine Gx.val rfl rfl rfl (val_assign rfl rfl) ?_
                refine Gx.done ?_
                refine Gx.thenN ?_
                refine Gx.seq ?_
                refine Gx.region ?_
                refine Gx.val rfl rfl rfl (val_move rfl rfl) ?_
                refine Gx.val rfl rfl rfl (val_move rfl rfl) ?_
                refine Gx.val rfl rfl rfl (val_sub rfl rfl rfl (r := ((m371 - a1 : Nat) : Int)) (w64 (by omega) (by omega))) ?_
                refine Gx.val rfl rfl rfl (val_move rfl rfl) ?_
                refine Gx.val rfl rfl rfl (val_move rfl rfl) ?_
                refine Gx.val rfl rfl rfl (val_sub rfl rfl rfl (r := ((b1 - m371 : Nat) : Int)) (w64 (by omega) (by omega))) ?_
                refine Gx.val rfl rfl rfl (val_assign rfl rfl) ?_
                refine Gx.val rfl rfl rfl (val_assign rfl rfl) ?_
                refine Gx.done ?_
                refine Gx.thenN ?_
                refine Gx.seq ?_
                refine Gx.region ?_
                refine Gx.val rfl rfl rfl (val_move rfl rfl) ?_
                refine Gx.val rfl rfl rfl (val_quo rfl rfl rfl (r := (((b1 - a1) / 8 : Nat) : Int)) (by omega) (q64 (a := b1 - a1) (m := 8) (by omega) rfl (by omega))) ?_
                refine Gx.val rfl rfl rfl (val_assign rfl rfl) ?_
                refine Gx.done ?_
                refine Gx.thenN ?_
                refine Gx.seq ?_
                refine Gx.region ?_
                refine Gx.val rfl rfl rfl (val_move rfl rfl) ?_
                refine Gx.val rfl rfl rfl (val_move rfl rfl) ?_
                refine Gx.val rfl rfl rfl (val_lss rfl rfl rfl) ?_
                refine Gx.done ?_
                refine Gx.thenN ?_
                refine Gx.dec rfl (fun h379 => ?_) (fun h379 => ?_)
                · refine Gx.seq ?_
                  refine Gx.region ?_
                  refine Gx.val rfl rfl rfl (val_move rfl rfl) ?_
                  refine Gx.val rfl rfl rfl (val_move rfl rfl) ?_
                  refine Gx.val rfl rfl rfl (val_geq rfl rfl rfl) ?_
                  refine Gx.val rfl rfl rfl (val_assign rfl rfl) ?_
                  refine Gx.done ?_
                  refine Gx.thenN ?_
                  refine Gx.seq ?_
                  refine Gx.region ?_
                  refine Gx.val rfl rfl rfl (val_move rfl rfl) ?_
                  refine Gx.val rfl rfl rfl (val_move rfl rfl) ?_
                  refine Gx.val rfl rfl rfl (val_move rfl rfl) ?_
                  refine Gx.val rfl rfl rfl (val_move rfl rfl) ?_
                  refine Gx.eff rfl rfl rfl (eff_call (vs := [v, .int .i64 ((a1 : Nat) : Int), .int .i64 ((m371 : Nat) : Int), .int .i64 ((li : Nat) : Int)]) rfl Try.fn39 rfl (fun w H => ih (a := a1) (b := m371) (limit := li) (by omega) (by omega) (by have := (hps.sub hsy370).sh.len; omega) (by have := (hps.sub hsy370).sh.len; omega) (by omega) (((hps.sub hsy370).bel hB).mono (by omega)) (H.at_ (k := 0) rfl))) ?_
                  rintro _ l383 ⟨ys380, hsy381, hsr382, rfl, hl383⟩
                  refine Gx.sepEq (l' := [Hp.own FU 1 v ys380, R]) hl383 ?_
                  refine Gx.done ?_
                  refine Gx.thenN ?_
                  have hnps := ((hps.sub hsy370).sub (hsy381.mono (Nat.le_refl _) (by omega))).left (by omega) (by omega) (by rw [hsy381.out (by omega)]; exact hv375) (hlo376.sh hsy381) (hhi377.sh' hsy381 (by omega)) hsr382
                  refine Gx.region ?_
                  refine Gx.val rfl rfl rfl (val_move rfl rfl) ?_
                  refine Gx.val rfl rfl rfl (val_add rfl rfl rfl (r := ((m371 + 1 : Nat) : Int)) (w64 (by omega) (by omega))) ?_
                  refine Gx.val rfl rfl rfl (val_assign rfl rfl) ?_
                  refine Gx.done ?_
                  refine Gx.blkN ?_
                  refine Gx.thenN ?_
                  exact Gx.round (m371 + 1, b1, li, decide ((((b1 - a1) / 8 : Nat) : Int) ≤ ((m371 - a1 : Nat) : Int)), al372, ys380) ⟨by first | omega | (dsimp only; omega), hnps⟩ (by first | omega | (dsimp only; omega)) ((.cons rfl (.cons rfl (.cons rfl (.cons rfl (.cons rfl (.cons rfl .nil))))))) rfl
                · refine Gx.seq ?_
                  refine Gx.region ?_
                  refine Gx.val rfl rfl rfl (val_move rfl rfl) ?_
                  refine Gx.val rfl rfl rfl (val_move rfl rfl) ?_
                  refine Gx.val rfl rfl rfl (val_geq rfl rfl rfl) ?_
                  refine Gx.val rfl rfl rfl (val_assign rfl rfl) ?_
                  refine Gx.done ?_
                  refine Gx.thenN ?_
                  refine Gx.seq ?_
                  refine Gx.region ?_
                  refine Gx.val rfl rfl rfl (val_move rfl rfl) ?_
                  refine Gx.val rfl rfl rfl (val_move rfl rfl) ?_
                  refine Gx.val rfl rfl rfl (val_add rfl rfl rfl (r := ((m371 + 1 : Nat) : Int)) (w64 (by omega) (by omega))) ?_
                  refine Gx.val rfl rfl rfl (val_move rfl rfl) ?_
                  refine Gx.val rfl rfl rfl (val_move rfl rfl) ?_
                  refine Gx.eff rfl rfl rfl (eff_call (vs := [v, .int .i64 ((m371 + 1 : Nat) : Int), .int .i64 ((b1 : Nat) : Int), .int .i64 ((li : Nat) : Int)]) rfl Try.fn39 rfl (fun w H => ih (a := (m371 + 1)) (b := b1) (limit := li) (by omega) (by omega) (by have := (hps.sub hsy370).sh.len; omega) (by have := (hps.sub hsy370).sh.len; omega) (by omega) (Bel.at_ hv375 hhi377) (H.at_ (k := 0) rfl))) ?_
                  rintro _ l387 ⟨ys384, hsy385, hsr386, rfl, hl387⟩
                  refine Gx.sepEq (l' := [Hp.own FU 1 v ys384, R]) hl387 ?_
                  refine Gx.done ?_
                  refine Gx.thenN ?_
                  have hnps := ((hps.sub hsy370).sub (hsy385.mono (by omega) (Nat.le_refl _))).right (by omega) (by omega) (by rw [hsy385.out (by omega)]; exact hv375) (hlo376.sh' hsy385 (by omega)) (hhi377.sh hsy385) hsr386
                  refine Gx.region ?_
                  refine Gx.val rfl rfl rfl (val_move rfl rfl) ?_
                  refine Gx.val rfl rfl rfl (val_assign rfl rfl) ?_
                  refine Gx.done ?_
                  refine Gx.blkN ?_
                  refine Gx.thenN ?_
                  exact Gx.round (a1, m371, li, decide ((((b1 - a1) / 8 : Nat) : Int) ≤ ((b1 - m371 : Nat) : Int)), al372, ys384) ⟨by first | omega | (dsimp only; omega), hnps⟩ (by first | omega | (dsimp only; omega)) ((.cons rfl (.cons rfl (.cons rfl (.cons rfl (.cons rfl (.cons rfl .nil))))))) rfl

theorem sort_any {W w : World} {v : Value} {xs : List Nat} {R : Hp} (hl : xs.length ≤ 65000) (H : Sat W w (Hp.own FU 1 v xs * R)) :
    Calls Try.prog 32 #[v] w (Ret W fun u l => ∃ ys, ys.Perm xs ∧ ys.Pairwise (· ≤ ·) ∧ u = .tuple #[] ∧ sep l = Hp.own FU 1 v ys * R) := by
  have hl7 := lenN_le xs.length
  refine Gx.enter (l := [Hp.own FU 1 v xs, R]) Try.func32 rfl Try.ntmps32 rfl (H.frame1) ?_
  refine Gx.know (m' := [(0, v)]) (.cons rfl .nil) ?_
  refine Gx.seq ?_
  refine Gx.region ?_
  refine Gx.val rfl rfl rfl (val_move rfl rfl) ?_
  refine Gx.val rfl rfl rfl (val_len rfl Try.underlying22 rfl (len_own (k := 0) rfl)) ?_
  refine Gx.val rfl rfl rfl (val_assign rfl rfl) ?_
  refine Gx.done ?_
  refine Gx.thenN ?_
  refine Gx.region ?_
  refine Gx.val rfl rfl rfl (val_move rfl rfl) ?_
  refine Gx.val rfl rfl rfl (val_move rfl rfl) ?_
  refine Gx.val rfl rfl rfl (val_move rfl rfl) ?_
  refine Gx.val rfl rfl rfl (val_conv rfl Try.underlying3 Try.underlying32 rfl (r := ((xs.length : Nat) : Int)) (u64id hl)) ?_
  refine Gx.val rfl rfl rfl (val_call (vs := [.int .u64 ((xs.length : Nat) : Int)]) rfl Try.fn40 rfl (fun w H => len_any hl)) ?_
  refine Gx.eff rfl rfl rfl (eff_call (vs := [v, .int .i64 0, .int .i64 ((xs.length : Nat) : Int), .int .i64 ((lenN xs.length : Nat) : Int)]) rfl Try.fn39 rfl (fun w H => pdq_any (xs.length + 1) (by omega) (Nat.zero_le _) (Nat.le_refl _) hl (by omega) (fun i x y h0 => absurd h0 (Nat.lt_irrefl _)) (H.at_ (k := 0) rfl))) ?_
  rintro _ l1 ⟨ys, hsh, hsr, rfl, hl1⟩
  refine Gx.sepEq (l' := [Hp.own FU 1 v ys, R]) hl1 ?_
  refine Gx.done ?_
  refine Gx.endN ?_
  refine Gx.ret0 Try.results32 ?_
  exact ⟨_, hsh.perm, by rw [List.pairwise_iff_getElem]; intro i j hi hj hij; have := hsh.len; exact hsr i j _ _ (Nat.zero_le _) hij (by omega) (List.getElem?_eq_getElem hi) (List.getElem?_eq_getElem hj), rfl, sep1 _ _⟩

end Go.Proofs.Ytpjkpnfelpfhaaa
