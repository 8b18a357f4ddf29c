/- The walk of BakeryFirst. -/
import Derived.Test.YthpbdckiiljegaaM1
import Derived.Test.YthpbdckiiljegaaH
namespace Go.Proofs.Ythpbdckiiljegaa
open Go.RowKit
set_option linter.unusedVariables false

abbrev nI (l : List Nat) : List Int := l.map fun x : Nat => (x : Int)
theorem play_either (n : Int) (v : Value) (xs : List Int) (W : World) (h : SlI W v xs) :
    Calls Try.prog 7 #[.int .i64 n, v] W fun e w' => ∃ a1 n1 c1 a2 n2 c2 a3 n3 c3 a4 n4 c4 a5 n5 c5 c, e = .returned (.tuple #[.agg #[.slice a1 n1 c1, .slice a2 n2 c2, .slice a3 n3 c3, .slice a4 n4 c4, .slice a5 n5 c5], .int .i64 c]) ∧ Below W.heap.size W w' := by
  by_cases hb : n < 1 ∨ 4 < n ∨ 120 < xs.length
  · exact (play_bad n v xs W h hb).mono fun e w' ⟨he, hb⟩ => ⟨_, _, _, _, _, _, _, _, _, _, _, _, _, _, _, _, he, hb⟩
  · obtain ⟨m, rfl⟩ := Int.eq_ofNat_of_zero_le (show 0 ≤ n by omega)
    refine (play_run m v xs W h (by omega) (by omega) (by omega)).mono fun e w' ⟨vc, va, a3, n3, c3, a4, n4, c4, vi, he, k1, k2, k3, hb⟩ => ?_
    obtain ⟨a1, c1, rfl, _⟩ := k1.form
    obtain ⟨a2, c2, rfl, _⟩ := k2.form
    obtain ⟨a5, c5, rfl, _⟩ := k3.form
    exact ⟨_, _, _, _, _, _, _, _, _, _, _, _, _, _, _, _, he, hb⟩

theorem pos_nI {r : List Nat} {j : Nat} (h : j ∉ r) : posI (nI r) j = -1 := posI_none (by simp only [List.mem_map, not_exists, not_and]; intro x hx e; exact h (by rw [← show x = j by omega]; exact hx))
theorem Fst.pos {i j : Nat} {r : List Nat} (hij : i ≠ j) (h : Fst i j r) : posI (nI r) j < 0 ∨ (0 ≤ posI (nI r) i ∧ posI (nI r) i < posI (nI r) j) := by
  rcases h with h | ⟨r0, r1, rfl, h⟩
  · left; rw [pos_nI h]; omega
  by_cases hj : j ∈ r1
  · right
    have hi : (i : Int) ∈ nI (r0 ++ i :: r1) := by simp
    obtain ⟨a, b, e, hn⟩ := first_at hi
    have h1 := posI_at (l := nI (r0 ++ i :: r1)) (x := i) (j := a.length) (by rw [e]; simp) (by rw [e]; simpa using hn)
    have hal : a.length ≤ r0.length := by
      rcases Nat.lt_or_ge r0.length a.length with hlt | hge
      · exfalso
        apply hn
        have : (nI (r0 ++ i :: r1))[r0.length]? = some (i : Int) := by simp
        rw [e, List.getElem?_append_left hlt] at this
        exact List.mem_of_getElem? this
      · exact hge
    have hj' : (j : Int) ∈ nI (r0 ++ i :: r1) := List.mem_map.2 ⟨j, by simp [hj], rfl⟩
    obtain ⟨a', b', e', hn'⟩ := first_at hj'
    have h2 := posI_at (l := nI (r0 ++ i :: r1)) (x := j) (j := a'.length) (by rw [e']; simp) (by rw [e']; simpa using hn')
    have hal' : r0.length < a'.length := by
      have hx : (nI (r0 ++ i :: r1))[a'.length]? = some (j : Int) := by rw [e']; simp
      rcases Nat.lt_or_ge r0.length a'.length with hlt | hge
      · exact hlt
      · exfalso
        simp only [nI, List.getElem?_map] at hx
        rcases Nat.lt_or_eq_of_le hge with hlt | heq
        · rw [List.getElem?_append_left hlt] at hx
          cases hy : r0[a'.length]? with
          | none => rw [hy] at hx; simp at hx
          | some y => rw [hy] at hx; simp at hx; exact h (by rw [← show y = j by omega]; exact List.mem_of_getElem? hy)
        · rw [heq] at hx; simp at hx; omega
    omega
  · left
    rw [pos_nI]
    · omega
    · simp only [List.mem_append, List.mem_cons, not_or]; exact ⟨h, fun e => hij e.symm, hj⟩

set_option maxHeartbeats 4000000 in
set_option maxRecDepth 100000 in
theorem first_any (n : Int) (v : Value) (xs : List Int) (q : Int) (i j : Int) (W : World) (h : SlI W v xs) (hcap : ∀ a n c, v = .slice a n c → n ≤ c) (hq0 : 0 ≤ q) (hq : q ≤ 255) :
    Calls Try.prog 4 #[.int .i64 n, v, .int .u8 q, .int .i64 i, .int .i64 j] W fun e w' => e = .returned (.bool true) ∧ Below W.heap.size W w' := by
  obtain ⟨a, cap, rfl, hm⟩ := h.form
  have hcp := hcap _ _ _ rfl
  clear hcap
  obtain ⟨p, rfl⟩ := Int.eq_ofNat_of_zero_le hq0
  have hat : p % (xs.length + 1) ≤ xs.length := by have := Nat.mod_lt p (show 0 < xs.length + 1 by omega); omega
  have e1 : (p : Int) % ((xs.length : Int) + 1) = ((p % (xs.length + 1) : Nat) : Int) := by rw [Int.natCast_emod]; rfl
  have h2 := h.take hat
  generalize p % (xs.length + 1) = at_ at *
  have i0 : (0 : Int) ≤ (at_ : Int) := by omega
  have i1 : (at_ : Int) ≤ (xs.length : Int) := by omega
  have i2 : (at_ : Int) ≤ (cap : Int) := by omega
  by_cases hb : n < 1 ∨ 4 < n ∨ 120 < xs.length
  · have HX := Lib.hid (play_bad n _ xs W h hb)
    have HY := Lib.hid (fun w1 (hb : Below W.heap.size W w1) => play_either n _ _ w1 (h2.below hb))
    clear h h2 hb
    go_enter Try.func4, Try.ntmps4
    go_wp2_with (first | (go_at_call 7; (with_reducible refine HX.out.mono ?_); rintro e w1 ⟨rfl, hb1⟩; have HB1 := Lib.hid (hb1.alloc hb1.size (.cells #[.slice none 0 0, .slice none 0 0, .slice none 0 0, .slice none 0 0, .slice none 0 0] 26)); clear hb1) | (go_at_call 7; (with_reducible refine (HY.out _ HB1.out).mono ?_); rintro e w3 ⟨a1, n1, c1, a2, n2, c2, a3, n3, c3, a4, n4, c4, a5, n5, c5, c, rfl, hb3⟩))
    go_ret
    have hb4 := HB1.out.trans (hb3.mono HB1.out.size)
    exact ⟨rfl, hb4.alloc hb4.size _⟩
  · obtain ⟨m, rfl⟩ := Int.eq_ofNat_of_zero_le (show 0 ≤ n by omega)
    have HX := Lib.hid (play_run m _ xs W h (by omega) (by omega) (by omega))
    have HY := Lib.hid (fun w1 (hb : Below W.heap.size W w1) => play_run m _ _ w1 (h2.below hb) (by omega) (by omega) (by rw [List.length_take]; omega))
    have I1 := BInv.run (xs.take at_) (BInv.start m)
    have I2 := BInv.run xs (BInv.start m)
    have hru := runI_append m (s0 m) (xs.take at_) (xs.drop at_)
    rw [List.take_append_drop] at hru
    obtain ⟨r, hr⟩ := runI_front m (xs.drop at_) (runI m (s0 m) (xs.take at_))
    rw [← hru] at hr
    have HW := fun (i' j' : Nat) (hij : i' ≠ j') (p q : Pr) hi hj (hw : Wt i' j' p q) => Wt.run hij (xs.drop at_) I1 (i := i') (j := j') (p := p) (q := q) hi hj hw
    rw [← hru] at HW
    have hl1 := I1.len
    have hl2 := I2.len
    have hg1 := Good.run (xs.take at_) (Good.start m)
    have hg2 := Good.run xs (Good.start m)
    have HGT := Lib.hid (show ∀ (k : Nat) (y : Int), ((runI m (s0 m) (xs.take at_)).1.map fun p => (p.at_ : Int))[k]? = some y → ∃ p, (runI m (s0 m) (xs.take at_)).1[k]? = some p ∧ (p.at_ : Int) = y from fun k y hy => by
      rw [List.getElem?_map] at hy
      cases hp : (runI m (s0 m) (xs.take at_)).1[k]? with
      | none => rw [hp] at hy; cases hy
      | some p => rw [hp] at hy; cases hy; exact ⟨p, rfl, rfl⟩)
    have ha1 : ((runI m (s0 m) (xs.take at_)).1.map fun p => (p.at_ : Int)).length = m := by simpa using hl1
    have ha2 : ((runI m (s0 m) xs).1.map fun p => (p.at_ : Int)).length = m := by simpa using hl2
    have hcl : (xs.map (codeI m)).length = xs.length := by simp
    have hil2 := hg2.2.1
    generalize ((runI m (s0 m) xs).1.map fun p => (p.at_ : Int)) = ats at *
    generalize ((runI m (s0 m) (xs.take at_)).1.map fun p => (p.at_ : Int)) = atb at *
    generalize (runI m (s0 m) xs).2 = ins at *
    generalize hsb : runI m (s0 m) (xs.take at_) = sb at *
    generalize hinb : sb.2 = inb at *
    generalize (xs.map (codeI m)) = cs at *
    generalize ((xs.take at_).map (codeI m)) = csb at *
    have HR := Lib.hid hr
    clear hr
    have hcl' : ((cs.length : Int) != (xs.length : Int)) = false := by simp; omega
    have hv1' : ((atb.length : Int) != (m : Int)) = false := by simp; omega
    have hv2' : ((ats.length : Int) != (m : Int)) = false := by simp; omega
    have HLN := Lib.hid (show atb.length = m ∧ ats.length = m ∧ inb.length + r.length ≤ 120 from ⟨ha1, ha2, by rw [HR.out, List.length_append] at hil2; omega⟩)
    have HWT := Lib.hid HW
    clear h h2 I1 I2 hru hl1 hl2 hg1 hg2 ha1 ha2 hcl hil2 HW hsb hinb
    go_enter Try.func4, Try.ntmps4
    go_wp2_with (first | (go_at_call 7; (with_reducible refine HX.out.mono ?_); rintro e w1 ⟨vc, va, a3, n3, c3, a4, n4, c4, vi, rfl, k1, k2, k3, hb1⟩; obtain ⟨a1, c1, rfl, m1⟩ := k1.form; obtain ⟨a2, c2, rfl, m2⟩ := k2.form; obtain ⟨a5, c5, rfl, m5⟩ := k3.form; have HK := Lib.hid (And.intro k2 k3); have HB1 := Lib.hid (hb1.alloc hb1.size (.cells #[.slice a1 cs.length c1, .slice a2 ats.length c2, .slice a3 n3 c3, .slice a4 n4 c4, .slice a5 ins.length c5] 26)); clear k1 k2 k3 hb1) | (go_at_call 7; (with_reducible refine (HY.out _ HB1.out).mono ?_); rintro e w3 ⟨ub, vb, b3, p3, d3, b4, p4, d4, yb, rfl, l1, l2, l3, hb3⟩; obtain ⟨b1, d1, rfl, m6⟩ := l1.form; obtain ⟨b2, d2, rfl, m7⟩ := l2.form; obtain ⟨b5, d5, rfl, m8⟩ := l3.form; have HL := Lib.hid (And.intro l2 l3); have hTl : w1.heap.size < w3.heap.size := (by have := hb3.size; simp at this; omega); have z0 : w3.cell? ⟨w1.heap.size, 0, none⟩ = some (.slice a1 cs.length c1) := (hb3.cell (p := ⟨w1.heap.size, 0, none⟩) (by simp)).trans (by rw [World.cell?_alloc_at _ _ _ _ rfl]; rfl); have z1 : w3.cell? ⟨w1.heap.size, 1, none⟩ = some (.slice a2 ats.length c2) := (hb3.cell (p := ⟨w1.heap.size, 1, none⟩) (by simp)).trans (by rw [World.cell?_alloc_at _ _ _ _ rfl]; rfl); have z4 : w3.cell? ⟨w1.heap.size, 4, none⟩ = some (.slice a5 ins.length c5) := (hb3.cell (p := ⟨w1.heap.size, 4, none⟩) (by simp)).trans (by rw [World.cell?_alloc_at _ _ _ _ rfl]; rfl); have HB3 := Lib.hid hb3; clear l1 l2 l3 hb3))
    have hbA := below_alloc w3 (.cells #[.slice b1 csb.length d1, .slice b2 atb.length d2, .slice b3 p3 d3, .slice b4 p4 d4, .slice b5 inb.length d5] 26)
    have hb0 : Below (w1.alloc (.cells #[.slice a1 cs.length c1, .slice a2 ats.length c2, .slice a3 n3 c3, .slice a4 n4 c4, .slice a5 ins.length c5] 26)).heap.size (w1.alloc (.cells #[.slice a1 cs.length c1, .slice a2 ats.length c2, .slice a3 n3 c3, .slice a4 n4 c4, .slice a5 ins.length c5] 26)) w3 := HB3.out
    have hb1 := below_alloc w1 (.cells #[.slice a1 cs.length c1, .slice a2 ats.length c2, .slice a3 n3 c3, .slice a4 n4 c4, .slice a5 ins.length c5] 26)
    have hb13 := (hb1.trans (hb0.mono (by simp))).trans (hbA.mono (by omega))
    have hbW := (HB1.out.trans (hb0.mono HB1.out.size)).trans (hbA.mono (HB1.out.trans (hb0.mono HB1.out.size)).size)
    obtain ⟨k2, k3⟩ := HK.out
    obtain ⟨l2, l3⟩ := HL.out
    refine calls_world (fun w2 => Below W.heap.size W w2 ∧ (SlI w2 (.slice a5 ins.length c5) (nI ins) ∧ SlI w2 (.slice b5 inb.length d5) (nI inb) ∧ SlS FZ 1 w2 (.slice b2 atb.length d2) atb) ∧ (w2.cell? ⟨w1.heap.size, 4, none⟩ = some (.slice a5 ins.length c5) ∧ w1.heap.size < w2.heap.size) ∧ (w2.cell? ⟨w3.heap.size, 1, none⟩ = some (.slice b2 atb.length d2) ∧ w2.cell? ⟨w3.heap.size, 4, none⟩ = some (.slice b5 inb.length d5) ∧ w3.heap.size < w2.heap.size))
      ⟨hbW, ⟨by have := (k3.below hb13).nats; simpa using this, by have := (l3.below hbA).nats; simpa using this, l2.below hbA⟩, ⟨cell_alloc_old hTl z4, by simp; omega⟩, by rw [World.cell?_alloc_at _ _ _ _ rfl]; rfl, by rw [World.cell?_alloc_at _ _ _ _ rfl]; rfl, by simp⟩ ?_
    have hc5 := k3.cap.2
    have hd5 := l3.cap.2
    clear k2 k3 l2 l3 hbW hb13 hb1 hb0 hbA z0 z1 z4 hTl HB3 HK HL HB1
    rintro w2 ⟨hbW, ⟨s1, s2, s3⟩, ⟨t4, hTl⟩, u1, u4, hUl⟩
    generalize w1.heap.size = T at *
    generalize w3.heap.size = U at *
    have HW := Lib.hid hbW
    have HS := Lib.hid (And.intro s1 (And.intro s2 s3))
    have HBG := begins_any s2 s1 (fun a n c e => by cases e; simpa using hc5)
    rw [begI_of (by rw [HR.out]; simp)] at HBG
    clear hbW s1 s2 s3
    refine HBG.mono ?_
    rintro e w' ⟨rfl, q, rfl⟩
    clear HBG
    go_wp2_with fail
    have hbx := (below_drewN (Below.refl w2.heap.size w2) q).alloc (below_drewN (Below.refl w2.heap.size w2) q).size (.cells #[.int .i64 i, .int .i64 j] 3)
    refine calls_world (fun w5 => Below W.heap.size W w5 ∧ SlI w5 (.slice (some ⟨w2.heap.size, 0, none⟩) 2 2) [i, j] ∧ (SlI w5 (.slice a5 ins.length c5) (nI ins) ∧ SlS FZ 1 w5 (.slice b2 atb.length d2) atb) ∧ w5.cell? ⟨T, 4, none⟩ = some (.slice a5 ins.length c5) ∧ w5.cell? ⟨U, 1, none⟩ = some (.slice b2 atb.length d2) ∧ w5.cell? ⟨U, 4, none⟩ = some (.slice b5 inb.length d5))
      ⟨HW.out.trans (hbx.mono HW.out.size), Sl.lit (w := w2.drewN q) (e := 3) [i, j] #[.int .i64 i, .int .i64 j] rfl (by simp), ⟨HS.out.1.below hbx, HS.out.2.2.below hbx⟩, (hbx.cell (p := ⟨T, 4, none⟩) hTl).trans t4, (hbx.cell (p := ⟨U, 1, none⟩) hUl).trans u1, (hbx.cell (p := ⟨U, 4, none⟩) hUl).trans u4⟩ ?_
    clear t4 u1 u4 hTl hUl HS HW hbx
    rintro w5 ⟨hbW, s4, HSS, t4, u1, u4⟩
    have HS := Lib.hid HSS
    have HE := Lib.hid hbW
    refine (inside_any m s4).mono ?_
    clear HSS hbW s4
    rintro e w' ⟨rfl, rfl⟩
    by_cases hin : insI m [i, j] = true
    · obtain ⟨i', j', rfl, rfl, hi', hj'⟩ := insI_two hin
      by_cases hij : i' = j'
      · subst hij
        go_wp2_with fail
        go_ret
        exact ⟨rfl, HE.out⟩
      · have hij' : ((i' : Int) == (j' : Int)) = false := by simp; omega
        obtain ⟨x, hx⟩ := get_of_lt (show i' < atb.length by have := HLN.out; omega)
        obtain ⟨y, hy⟩ := get_of_lt (show j' < atb.length by have := HLN.out; omega)
        obtain ⟨b0, off, rfl, _, hcx⟩ := HS.out.2.el hx
        obtain ⟨b0', off', eb, _, hcy⟩ := HS.out.2.el hy
        cases eb
        have x0 : w5.cell? ⟨b0, off + i', none⟩ = some (.int .i64 x) := by have := hcx 0 _ rfl; simpa using this
        have y0 : w5.cell? ⟨b0, off + j', none⟩ = some (.int .i64 y) := by have := hcy 0 _ rfl; simpa using this
        have j0 : (0 : Int) ≤ (i' : Int) := by omega
        have j1 : (0 : Int) ≤ (j' : Int) := by omega
        have j2 : (i' : Int) < (atb.length : Int) := by have := HLN.out; omega
        have j3 : (j' : Int) < (atb.length : Int) := by have := HLN.out; omega
        have HX2 := Lib.hid (And.intro hx hy)
        clear hcx hcy hx hy
        by_cases h3 : x < 3
        · go_wp2_with fail
          go_ret
          exact ⟨rfl, HE.out⟩
        · by_cases h4 : 4 < x
          · go_wp2_with fail
            go_ret
            exact ⟨rfl, HE.out⟩
          · by_cases h5 : y = 0
            · subst h5
              have j4 : (0 : Int) ≤ (inb.length : Int) := by omega
              have j5 : (inb.length : Int) ≤ (ins.length : Int) := by rw [HR.out]; simp; omega
              have hle : inb.length ≤ ins.length := by rw [HR.out]; simp
              have hdr : (nI ins).drop inb.length = nI r := by rw [HR.out]; simp
              have HP := Lib.hid (show posI (nI r) j' < 0 ∨ (0 ≤ posI (nI r) i' ∧ posI (nI r) i' < posI (nI r) j') from by
                obtain ⟨pp, hpp, hpx⟩ := HGT.out _ _ HX2.out.1
                obtain ⟨pq, hpq, hqx⟩ := HGT.out _ _ HX2.out.2
                obtain ⟨r', hr1, hr2⟩ := HWT.out i' j' hij pp pq hpp hpq (Wt.start (by omega) (by omega))
                rw [HR.out] at hr1
                rw [List.append_cancel_left hr1]
                exact hr2.pos hij)
              have hcut := HS.out.1.cut hle hc5
              have hcut0 := fun e => HS.out.1.cut0 hle hc5 e
              rw [hdr] at hcut hcut0
              have HC := Lib.hid (And.intro hcut hcut0)
              clear hle hdr hij hcut hcut0
              go_wp2_with fail
              all_goals
                refine (position_any (xs := nI r) (i' : Int) ?_).mono ?_
                first | with_reducible exact HC.out.1 | exact HC.out.2 (by assumption)
                rintro e w' ⟨rfl, rfl⟩
                go_wp2_with fail
                refine (position_any (xs := nI r) (j' : Int) ?_).mono ?_
                first | with_reducible exact HC.out.1 | exact HC.out.2 (by assumption)
                rintro e w' ⟨rfl, rfl⟩
                have hPP := HP.out
                clear HP
                generalize posI (nI r) i' = pi at *
                generalize posI (nI r) j' = pj at *
                by_cases hy : pj < 0
                · clear hPP
                  go_wp2_with fail
                  all_goals
                    go_ret
                    exact ⟨rfl, HE.out⟩
                · have hz1 : 0 ≤ pi := by omega
                  have hz2 : pi < pj := by omega
                  clear hPP
                  go_wp2_with fail
                  all_goals
                    go_ret
                    exact ⟨rfl, HE.out⟩
            · have h5' : (y != 0) = true := by simpa using h5
              have h5'' : (y == 0) = false := by simpa using h5
              have h5d : decide (y = 0) = false := by simpa using h5
              go_wp2_with fail
              go_ret
              exact ⟨rfl, HE.out⟩
    · have hin' : insI m [i, j] = false := by simpa using hin
      clear hin
      go_wp2_with fail
      go_ret
      exact ⟨rfl, HE.out⟩

end Go.Proofs.Ythpbdckiiljegaa
