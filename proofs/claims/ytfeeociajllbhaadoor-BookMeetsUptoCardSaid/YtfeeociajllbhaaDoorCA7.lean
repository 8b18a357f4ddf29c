/- Which are decided. -/
import Derived.Test.YtfeeociajllbhaaDoorCA6
import Derived.Test.YtfeeociajllbhaaDoorW2
namespace Go.Proofs.YtfeeociajllbhaaDoor
open Go.RowKit
set_option linter.unusedVariables false
attribute [local go_sem] Oper.semAt_some
namespace Chn
abbrev SB (x : Bool) : List Value := [.bool x]
theorem SB_len (x : Bool) : (SB x).length = 1 := rfl

/-- a place in a list of marks -/
def On (ds : List Bool) (b : Nat) : Prop := ds[b]? = some true
/-- the one at c decides it -/
def DecBy (l : List (Int × Int)) (cs : List Bool) (c b : Nat) : Prop := 0 < c ∧ On cs c ∧ On cs (pr l c) ∧ (∃ x y, l[c]? = some x ∧ l[pr l c]? = some y ∧ x.2 = y.2 + 1) ∧ Anc l b (pr l c)
def IsDec (l : List (Int × Int)) (cs : List Bool) (n : Nat) (ds : List Bool) : Prop := ds.length = l.length ∧ ∀ b, On ds b ↔ ∃ c, c < n ∧ DecBy l cs c b
/-- the first k places set -/
def markL (xs : List Nat) : Nat → List Bool → List Bool
  | 0, ds => ds
  | k + 1, ds => match xs[k]? with | some b => (markL xs k ds).set b true | none => markL xs k ds
theorem markL_len (xs : List Nat) (ds : List Bool) : ∀ k, (markL xs k ds).length = ds.length
  | 0 => rfl
  | k + 1 => by
    unfold markL
    cases xs[k]? with
    | none => exact markL_len xs ds k
    | some b => simp [markL_len xs ds k]
theorem markL_on (xs : List Nat) (ds : List Bool) (hx : ∀ b ∈ xs, b < ds.length) : ∀ k b, On (markL xs k ds) b ↔ On ds b ∨ b ∈ xs.take k
  | 0, b => by simp [markL]
  | k + 1, b => by
    have ih := markL_on xs ds hx k b
    unfold markL
    cases hk : xs[k]? with
    | none =>
      have : xs.length ≤ k := List.getElem?_eq_none_iff.1 hk
      simp only
      rw [ih, List.take_of_length_le this, List.take_of_length_le (by omega)]
    | some c =>
      have hc : c < (markL xs k ds).length := by rw [markL_len]; exact hx c (List.mem_of_getElem? hk)
      have ht : xs.take (k + 1) = xs.take k ++ [c] := by rw [List.take_add_one, hk]; rfl
      simp only
      rw [ht, List.mem_append, List.mem_singleton]
      unfold On at *
      rw [List.getElem?_set]
      by_cases e : c = b
      · subst e; simp [hc]
      · rw [if_neg e, ih]
        constructor
        · rintro (h | h)
          · exact .inl h
          · exact .inr (.inl h)
        · rintro (h | h | h)
          · exact .inl h
          · exact .inr h
          · exact absurd h.symm e
theorem IsDec.zero (l : List (Int × Int)) (cs : List Bool) : IsDec l cs 0 (List.replicate l.length false) := by
  refine ⟨by simp, fun b => ⟨fun h => ?_, fun ⟨c, hc, _⟩ => by omega⟩⟩
  unfold On at h
  rw [List.getElem?_replicate] at h
  split at h <;> simp at h
theorem IsDec.skip {l : List (Int × Int)} {cs ds : List Bool} {n : Nat} (h : IsDec l cs n ds) (hn : ∀ b, ¬ DecBy l cs n b) : IsDec l cs (n + 1) ds := by
  refine ⟨h.1, fun b => ?_⟩
  rw [h.2 b]
  constructor
  · rintro ⟨c, h1, h2⟩; exact ⟨c, by omega, h2⟩
  · rintro ⟨c, h1, h2⟩
    by_cases e : c = n
    · subst e; exact absurd h2 (hn b)
    · exact ⟨c, by omega, h2⟩
theorem IsDec.next {l : List (Int × Int)} {cs ds : List Bool} {n : Nat} (hok : OkC l) (h : IsDec l cs n ds) (hn0 : 0 < n) (hnl : n < l.length) (h1 : On cs n) (h2 : On cs (pr l n)) (h3 : ∃ x y, l[n]? = some x ∧ l[pr l n]? = some y ∧ x.2 = y.2 + 1) :
    IsDec l cs (n + 1) (markL (ups l (pr l n) (pr l n)) (ups l (pr l n) (pr l n)).length ds) := by
  have hp := hok.prlt hn0 hnl
  have hm := hok.ups_mem (pr l n) (pr l n) (Nat.le_refl _) (by omega)
  refine ⟨by rw [markL_len]; exact h.1, fun b => ?_⟩
  rw [markL_on _ _ (fun b hb => by rw [h.1]; have := hok.anc_le ((hm b).1 hb) (by omega); omega), List.take_length, h.2 b, hm b]
  constructor
  · rintro (⟨c, k1, k2⟩ | k)
    · exact ⟨c, by omega, k2⟩
    · exact ⟨n, by omega, hn0, h1, h2, h3, k⟩
  · rintro ⟨c, k1, k2⟩
    by_cases e : c = n
    · subst e; exact .inr k2.2.2.2.2
    · exact .inl ⟨c, by omega, k2⟩

end Chn
theorem Sl.get' {α : Type} {f : α → Value} {w : World} {a : Option Addr} {n cap : Nat} {xs : List α} (h : Sl f w (.slice a n cap) xs) {j : Nat} {x : α} (hx : xs[j]? = some x) : ∃ b off, a = some ⟨b, off, none⟩ ∧ b < w.heap.size ∧ w.cell? ⟨b, off + j, none⟩ = some (f x) := by
  obtain ⟨a', cap', hv, _, _, hc⟩ := h
  cases hv
  exact hc j x hx
namespace Chn
theorem bounds_i64 {x : Int} (h : (Lit.int .i64 x).wf = true) : -9223372036854775808 ≤ x ∧ x ≤ 9223372036854775807 := by
  simp [Lit.wf] at h
  have e : IntKind.i64.min = -9223372036854775808 := rfl
  omega
theorem Tryd.eB : Elem Tryd.prog 28 4 (.bool false) 1 1 := ⟨Tryd.underlying28, by kernel_rfl, rfl, by decide⟩
/-- a variable that holds an own list of marks -/
def boxB (b : Nat) (xs : List Bool) : Hp := Hp.ex fun v => Hp.rec_ b [v] * Hp.own SB 1 v xs

set_option maxHeartbeats 8000000 in
set_option maxRecDepth 100000 in
theorem decided_any {W : World} {v vc : Value} {l : List (Int × Int)} {cs : List Bool} (hok : OkC l) (hlen : cs.length = l.length) (h : SlS FK 2 W v l) (hc : SlS SB 1 W vc cs) (hwf : ∀ t ∈ l, (Lit.int .i64 t.2).wf = true) :
    Calls Tryd.prog 22 #[v, vc] W fun e w' => ∃ ov ds, e = .returned ov ∧ Sat W w' (Hp.own SB 1 ov ds * 1) ∧ IsDec l cs l.length ds := by
  obtain ⟨al, cl, rfl, _⟩ := h.form
  obtain ⟨ac, cc, rfl, _⟩ := hc.form
  rw [hlen] at hc ⊢
  have HLN := Lib.hid hlen
  have HS := Lib.hid h
  have HC := Lib.hid hc
  have HOK := Lib.hid hok
  have HWF := Lib.hid hwf
  have hfew : (l.length : Int) ≤ 40 := by have := hok.few; omega
  have hl0 : (0 : Int) ≤ (l.length : Int) := by omega
  have HFEW := Lib.hid hok.few
  have hmk := run_mk Tryd.eB (t := 28) (n := l.length) (by have := hok.few; omega) (by have := hok.few; omega) W
  have H0 := Lib.hid (show Sat W ((W.alloc (.cells (madeRow (.bool false) 1 l.length) 4)).alloc (.cells #[.slice (some ⟨W.heap.size, 0, none⟩) l.length l.length] 28)) (Hp.rec_ (W.heap.size + 1) [.slice (some ⟨W.heap.size, 0, none⟩) l.length l.length] * (Hp.own SB 1 (.slice (some ⟨W.heap.size, 0, none⟩) l.length l.length) (List.replicate l.length false) * 1)) from
    ((Sat.start W).newOwnAt (b := W.heap.size) rfl (OwS.made (e := 4) (z := .bool false) _ _ l.length false SB_len rfl (Nat.le_refl _))).allocAt #[.slice (some ⟨W.heap.size, 0, none⟩) l.length l.length] 28 [.slice (some ⟨W.heap.size, 0, none⟩) l.length l.length] rfl (b := W.heap.size + 1) (by simp))
  have H1 := Lib.hid (show Sat W _ (marksH [] * (boxB (W.heap.size + 1) (List.replicate l.length false) * 1)) from by
    have h2 : Sat W _ (boxB (W.heap.size + 1) (List.replicate l.length false) * 1) := Sat.exI _ (H0.out.cast (Hp.mul_assoc _ _ _).symm)
    show Sat W _ (1 * _)
    rw [Hp.one_mul]; exact h2)
  clear h hc hok hwf hlen H0
  refine calls_marks Tryd.func22 rfl ?_
  simp only [Tryd.ntmps22, List.size_toArray, List.length_cons, List.length_nil, Nat.reduceAdd, Nat.reduceSub, Array.replicate_succ, Array.replicate_zero, List.push_toArray, List.append_toArray, List.nil_append, List.cons_append]
  go_wp2_with fail
  clear hmk
  refine wp_world (fun w2 => Sat W w2 (marksH [] * (boxB (W.heap.size + 1) (List.replicate l.length false) * 1))) H1.out ?_
  intro w2 hs2
  have HS2 := Lib.hid hs2
  have HWS := Lib.hid (show ∀ w', Below W.heap.size W w' → Below W.heap.size W w' from fun _ h => h)
  clear hs2 H1
  obtain ⟨B, hB⟩ : ∃ B, B = W.heap.size + 1 := ⟨_, rfl⟩
  obtain ⟨g0, hg0⟩ : ∃ g0, g0 = W.heap.size := ⟨_, rfl⟩
  rw [← hB] at HS2 ⊢
  rw [← hg0]
  clear hB hg0
  refine wp_loop (fun a w => ∃ (k : Nat) (ds : List Bool) (Ds : List Nat), (k ≤ l.length ∧ IsDec l cs k ds ∧ Sat W w (marksH Ds * (boxB B ds * 1))) ∧ ∃ u6 u7 u8 u15 u16 u17 u18 u19 u20 u21 u22 u23 u24 u25 u26 u27 u28 u29 u30 u31 u32 u33 u34 u35 u36 u37 u38 u39 u40 u41 u42 u43 u44 u45 u46 u47 u48 u49 u50 u51 u52 u53 u54 u55 u56 u57 : Value, a = { tmps := #[.slice al l.length cl, .slice ac l.length cc, undef, undef, .slice none 0 0, .pointer (some ⟨B, 0, none⟩), u6, u7, u8, .slice al l.length cl, .int .i64 l.length, .slice (some ⟨g0, 0, none⟩) l.length l.length, .slice al l.length cl, .int .i64 l.length, .int .i64 k, u15, u16, u17, u18, u19, u20, u21, u22, u23, u24, u25, u26, u27, u28, u29, u30, u31, u32, u33, u34, u35, u36, u37, u38, u39, u40, u41, u42, u43, u44, u45, u46, u47, u48, u49, u50, u51, u52, u53, u54, u55, u56, u57], defers := marksD Ds }) (fun a _ => l.length - (intOf (a.tmps.getD 14 undef)).toNat) ?_ ?_
  · refine ⟨0, _, [], ⟨Nat.zero_le _, IsDec.zero l cs, HS2.out⟩, ?_⟩
    repeat apply Exists.intro
    rfl
  rintro _ wr ⟨k, ds, Ds, ⟨hk, hd, hs⟩, u6, u7, u8, u15, u16, u17, u18, u19, u20, u21, u22, u23, u24, u25, u26, u27, u28, u29, u30, u31, u32, u33, u34, u35, u36, u37, u38, u39, u40, u41, u42, u43, u44, u45, u46, u47, u48, u49, u50, u51, u52, u53, u54, u55, u56, u57, rfl⟩
  have HD := Lib.hid hd
  have HS := HS
  have HSR := Lib.hid hs
  have i0 : (0 : Int) ≤ (k : Int) := by omega
  by_cases hlt : k < l.length
  · obtain ⟨x, hx⟩ := get_of_lt hlt
    obtain ⟨b0, off, rfl, hlb, hcx⟩ := (HS.out.below hs.below).el hx
    have c0 : wr.cell? ⟨b0, off + k * 2, none⟩ = some (.int .i64 x.1) := hcx 0 _ rfl
    have c1 : wr.cell? ⟨b0, off + k * 2 + 1, none⟩ = some (.int .i64 x.2) := hcx 1 _ rfl
    have i1 : (k : Int) < (l.length : Int) := by omega
    have HX := Lib.hid hx
    clear hx hcx hd hs
    go_wp2_with fail
    refine wp_world (fun w2 => Sat W w2 (marksH Ds * (boxB B ds * 1)) ∧ w2.cell? ⟨wr.heap.size, 0, none⟩ = some (.int .i64 x.1) ∧ w2.cell? ⟨wr.heap.size, 1, none⟩ = some (.int .i64 x.2)) ⟨HSR.out.of_below (below_alloc wr _), by rw [World.cell?_alloc_at _ _ _ _ rfl]; rfl, by rw [World.cell?_alloc_at _ _ _ _ rfl]; rfl⟩ ?_
    rintro w2 ⟨hs2, t0, t1⟩
    generalize wr.heap.size = T at *
    clear c0 c1 HSR
    have HS2 := Lib.hid hs2
    by_cases hk0 : k = 0
    · subst hk0
      have HN := Lib.hid (HD.out.skip (fun b h => by have := h.1; omega))
      clear hs2
      go_wp2_with fail
      go_quiet (fail)
      go_wp2_with fail
      refine ⟨⟨1, ds, Ds, ⟨by omega, HN.out, HS2.out.of_below (below_drewN (Below.refl _ _) _)⟩, ?_⟩, ?_⟩
      · repeat apply Exists.intro
        rfl
      · simp [intOf]; omega
    have j1 : ((k : Int) == 0) = false := by simpa using hk0
    have j2 : decide ((k : Int) = 0) = false := by simpa using hk0
    have j3 : ¬ (k : Int) = 0 := by simpa using hk0
    obtain ⟨p1, p2, y, p3, p4⟩ := HOK.out.par (by omega) HX.out
    obtain ⟨bk, hbk⟩ := get_of_lt (show k < cs.length by rw [HLN.out]; exact hlt)
    obtain ⟨bp, hbp⟩ := get_of_lt (show pr l k < cs.length by rw [HLN.out]; omega)
    obtain ⟨gc, oc, rfl, _, e1⟩ := (HC.out.below hs2.below).one.get' hbk
    obtain ⟨_, _, hge, _, e2⟩ := (HC.out.below hs2.below).one.get' hbp
    cases hge
    obtain ⟨_, _, hge, _, hcy⟩ := (HS.out.below hs2.below).el p3
    cases hge
    have e3 : w2.cell? ⟨b0, off + pr l k * 2 + 1, none⟩ = some (.int .i64 y.2) := hcy 1 _ rfl
    rw [p1] at t0
    have HBY := Lib.hid (show ∀ b, DecBy l cs k b → bk = true ∧ bp = true ∧ x.2 = y.2 + 1 from fun b h => by
      obtain ⟨h1, h2, h3, ⟨x', y', h4, h5, h6⟩, _⟩ := h
      rw [On, hbk] at h2; rw [On, hbp] at h3; rw [HX.out] at h4; rw [p3] at h5
      cases h2; cases h3; cases h4; cases h5
      exact ⟨rfl, rfl, h6⟩)
    have HBX := Lib.hid (show bk = true → bp = true → x.2 = y.2 + 1 → IsDec l cs (k + 1) (markL (ups l (pr l k) (pr l k)) (ups l (pr l k) (pr l k)).length ds) from fun h1 h2 h3 => HD.out.next HOK.out (by omega) hlt (by rw [On, hbk, h1]) (by rw [On, hbp, h2]) ⟨x, y, HX.out, p3, h3⟩)
    have q0 : (0 : Int) ≤ (pr l k : Int) := by omega
    have q1 : (pr l k : Int) < (l.length : Int) := by omega
    have hw := HWF.out x (List.mem_of_getElem? HX.out)
    have hwy := HWF.out y (List.mem_of_getElem? p3)
    have hw1 := (bounds_i64 hw).2
    have hw2 := (bounds_i64 hwy).1
    have hw3 : y.2 + 1 ≤ 9223372036854775807 := by omega
    have hw4 : -9223372036854775808 ≤ y.2 + 1 := by omega
    clear hw hwy
    have HPL := Lib.hid p2
    clear hs2 hbk hbp hcy p1 p2 p3
    cases bk
    · have HN := Lib.hid (HD.out.skip (fun b h => by have := (HBY.out b h).1; cases this))
      go_wp2_with fail
      go_quiet (fail)
      go_wp2_with fail
      refine ⟨⟨k + 1, ds, Ds, ⟨by omega, HN.out, HS2.out.of_below (below_drewN (Below.refl _ _) _)⟩, ?_⟩, ?_⟩
      · repeat apply Exists.intro
        rfl
      · simp [intOf]; omega
    cases bp
    · have HN := Lib.hid (HD.out.skip (fun b h => by have := (HBY.out b h).2.1; cases this))
      go_wp2_with fail
      go_quiet (fail)
      go_wp2_with fail
      refine ⟨⟨k + 1, ds, Ds, ⟨by omega, HN.out, HS2.out.of_below (below_drewN (Below.refl _ _) _)⟩, ?_⟩, ?_⟩
      · repeat apply Exists.intro
        rfl
      · simp [intOf]; omega
    by_cases hr : x.2 = y.2 + 1
    rotate_left
    · have HN := Lib.hid (HD.out.skip (fun b h => hr (HBY.out b h).2.2))
      have r1 : (x.2 != y.2 + 1) = true := by simpa using hr
      have r2 : (x.2 == y.2 + 1) = false := by simpa using hr
      go_wp2_with fail
      go_quiet (fail)
      go_wp2_with fail
      refine ⟨⟨k + 1, ds, Ds, ⟨by omega, HN.out, HS2.out.of_below (below_drewN (Below.refl _ _) _)⟩, ?_⟩, ?_⟩
      · repeat apply Exists.intro
        rfl
      · simp [intOf]; omega
    have HN := Lib.hid (HBX.out rfl rfl hr)
    rw [hr] at t1
    have r1 : (x.2 == y.2 + 1) = true := by simpa using hr
    clear hr
    go_wp2_with fail
    go_quiet (fail)
    go_wp2_with fail
    refine (upf_any (W := W) (R := marksH Ds * (boxB B ds * 1)) (HS2.out.of_below (below_drewN (Below.refl _ _) _)) rfl).mono ?_
    rintro e w3 ⟨Bb, Bl, rfl, hs3⟩
    obtain ⟨xs, hxs⟩ : ∃ xs, xs = ups l (pr l k) (pr l k) := ⟨_, rfl⟩
    rw [← hxs] at HN
    have HU := Lib.hid (show IsUp l xs from by rw [hxs]; exact HOK.out.ups_up _ _ (Nat.le_refl _) (by have := HPL.out; omega))
    rw [show ((pr l k : Nat) : Int) = at1 xs 0 by unfold at1; rw [hxs, ups_first]] at hs3
    have HR := Lib.hid (hs3.cast (Q := boxB B ds * (Hp.rec_ Bb [.int .i64 (at1 xs 0)] * (Hp.rec_ Bl [.slice (some ⟨b0, off, none⟩) l.length cl] * (marksH Ds * 1)))) (by ac_rfl))
    have HDL := Lib.hid HD.out.1
    clear hs3 hxs t0 t1 e1 e2 e3
    go_wp2_with fail
    apply wp_rangeFunc (W := W) (lb := #[.pointer (some ⟨Bb, 0, none⟩), .pointer (some ⟨Bl, 0, none⟩)]) rfl (fun args w => rfl) (fun k => #[.int .i64 (at1 xs k)]) xs.length (fun _ => rfl) (fun q => boxB B (markL xs q ds)) _ (Hp.rec_ Bb [.int .i64 (-1)] * (Hp.rec_ Bl [.slice (some ⟨b0, off, none⟩) l.length cl] * (marksH Ds * 1))) HR.out (fun lp B' w hy hs => up_any HS.out HU.out HOK.out.few hy hs)
    case hassign =>
      intro l k w1 K _ hK
      gi_wp2
      exact hK
    case hbody =>
      intro lp q w1 R hq hs
      obtain ⟨b, hb⟩ := get_of_lt hq
      have hbl := HU.out.lt q b hb
      have hat : at1 xs q = (b : Int) := by unfold at1; rw [hb]
      have hml : (markL xs q ds).length = l.length := by rw [markL_len]; exact HDL.out
      have HMK := Lib.hid (show markL xs (q + 1) ds = (markL xs q ds).set b true by rw [markL, hb])
      obtain ⟨v, hs⟩ := Sat.ex hs
      have h1 := hs.assoc
      have h2 := h1.sw
      obtain ⟨gx, ox, cx, hv⟩ := h2.ows.some_of (fun e => by rw [e] at hml; simp at hml; omega)
      rw [hml] at hv
      subst hv
      have c0 := h1.cell 0 rfl
      obtain ⟨z, hz⟩ := get_of_lt (show b < (markL xs q ds).length by omega)
      obtain ⟨d0, d1⟩ := h2.cell1 hz rfl
      have H3 := Lib.hid (h2.put1 SB_len (j := b) (by omega) (u := .bool true) (y := true) rfl)
      have m0 : (0 : Int) ≤ (b : Int) := by omega
      have m1 : (b : Int) < (l.length : Int) := by omega
      rw [← HMK.out] at H3
      clear hs h1 h2 hz hml hb
      simp only [hat]
      clear hat
      gi_wp2
      exact Sat.exI _ (H3.out.sw.cast (Hp.mul_assoc _ _ _).symm)
    case hdone =>
      intro D w' hD hs
      have H5 := Lib.hid (show Sat W w' (marksH (D :: Ds) * (boxB B (markL xs xs.length ds) * 1)) from
        ((hs.cast (Q := Hp.rec_ Bb [.int .i64 (-1)] * (Hp.rec_ Bl [.slice (some ⟨b0, off, none⟩) l.length cl] * (Hp.obj D (.deferred (some [])) * marksH Ds * (boxB B (markL xs xs.length ds) * 1)))) (by ac_rfl)).drop.drop))
      clear hs
      go_wp2_with fail
      refine ⟨⟨k + 1, _, D :: Ds, ⟨by omega, HN.out, H5.out⟩, ?_⟩, ?_⟩
      · repeat apply Exists.intro
        rfl
      · simp [intOf]; omega
  · obtain rfl : k = l.length := by omega
    obtain ⟨v, hs3⟩ := Sat.ex (hs.sw)
    have h1 := hs3.assoc
    have c0 := h1.cell 0 rfl
    have HM := Lib.hid (h1.cast (Q := marksH Ds * (Hp.own SB 1 v ds * (Hp.rec_ B [v] * 1))) (by ac_rfl))
    have HE := Lib.hid hd
    have hdl := hd.1
    obtain ⟨av, cv, hv, _⟩ := h1.drop.ows.form
    subst hv
    clear hs hs3 h1 hd hdl
    go_wp2_with fail
    refine marks_many HM.out (v := .slice av ds.length cv) (fun w' => by simp [results, Tryd.f22]) fun w' h => ?_
    exact ⟨_, ds, rfl, h.sw.drop, HE.out⟩
end Chn
end Go.Proofs.YtfeeociajllbhaaDoor
