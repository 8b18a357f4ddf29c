/- The walk of ApproxHalves. -/
import Derived.Test.YtgbhbohleafibaaM1
namespace Go.Proofs.Ytgbhbohleafibaa
open Go.RowKit
set_option linter.unusedVariables false

theorem calls_world {P : Program} {f : FuncId} {args : Array Value} {Q : Ending → World → Prop} {w : World} (p : World → Prop) (hp : p w) (h : ∀ w', p w' → Calls P f args w' Q) : Calls P f args w Q := h w hp
theorem loy_bd {x n : Nat} {vs : List Int} (hv : vs.any farB = false) (hn : vs.length = n) : ∀ y ∈ loyL x vs n, -1099511627776 ≤ y ∧ y ≤ 1099511627776 := fun y hy => by
  obtain ⟨i, h1, _, h2⟩ := loyL_mem.1 hy
  obtain ⟨a, ha⟩ := get_of_lt (show i < vs.length by omega)
  have := List.any_eq_false.1 hv a (List.mem_of_getElem? ha)
  have := farB_no.1 (by simpa using this)
  rw [List.getD, ha] at h2
  simp at h2; omega

set_option maxHeartbeats 4000000 in
set_option maxRecDepth 100000 in
theorem halves_any (f : Int) (x : Nat) (v vl : Value) (vs ls : List Int) (W : World) (h : SlS SZ 1 W v vs) (hl : SlS SZ 1 W vl ls) (hx : x < 4294967296) (hm : ls.length * 8 ≤ 140737488351232) (wf : (Lit.int .i64 f).wf = true) :
    Calls Try.prog 3 #[.int .i64 f, .int .u32 x, v, vl] W fun e w' => e = .returned (.bool true) ∧ Below W.heap.size W w' := by
  obtain ⟨av, cv, hv, _⟩ := h.form
  obtain ⟨al, cl, hvl, _⟩ := hl.form
  by_cases ok : OkA f x vs ls
  · obtain ⟨h1, h9, hf0, hf3, hxn, hvf, hlf⟩ := id ok
    have HR := Lib.hid (round_good f x h hl.one ok hx)
    have HC := Lib.hid (fun w1 (hb : Below W.heap.size W w1) => check_any (W := w1) f x (h.below hb) (hl.below hb) hx hm wf)
    have HLY := Lib.hid (fun w1 (hb : Below W.heap.size W w1) => loyal_any (w := w1) x (h.below hb).one h9 hx)
    have HFW := Lib.hid (fun w => few_any x vs.length f w hx (by omega) (by omega))
    obtain ⟨f, rfl⟩ := Int.eq_ofNat_of_zero_le hf0
    rw [Int.toNat_natCast] at HR
    have hnl := newL_len f x vs ls vs.length
    have HNL := Lib.hid (fun (w1 : World) (v1 : Value) (h1 : SlI w1 v1 (newL f x vs ls vs.length)) => loyal_any (w := w1) (l := newL f x vs ls vs.length) x h1 (by rw [hnl]; exact h9) hx)
    rw [hnl] at HNL
    have HOK := Lib.hid ok
    have HBD := Lib.hid (loy_bd (x := x) hvf rfl)
    have HHV := Lib.hid (fun hf lo hi hb => halves (f := f) (x := x) (vs := vs) (ls := ls) (lo := lo) (hi := hi) (by omega) h9 hf hb)
    have HNW := Lib.hid (fun y => loy_new (f := f) (x := x) (k := vs.length) (vs := vs) (ls := ls) (y := y))
    have HLE := Lib.hid (loy_len_eq x vs (newL f x vs ls vs.length) vs.length)
    have HNN := Lib.hid hnl
    subst hv hvl
    clear h hl ok h1 h9 hf0 hf3 hxn hvf hlf hnl
    generalize newL f x vs ls vs.length = nw at *
    go_enter Try.func3, Try.ntmps3
    go_wp2_with fail
    refine HR.out.mono ?_
    rintro e w1 ⟨v', rfl, k1, hb1⟩
    obtain ⟨a1, c1, rfl, _⟩ := k1.form
    have HK1 := Lib.hid k1
    have HB1 := Lib.hid hb1
    have hnn : ((nw.length : Int) != (vs.length : Int)) = false := by have := HNN.out; simp; omega
    clear k1 hb1
    go_wp2_with fail
    refine (HC.out _ HB1.out).mono ?_
    rintro e w2 ⟨⟨c', rfl, hc'⟩, hb2⟩
    obtain rfl : c' = 0 := hc'.2 HOK.out
    have HB2 := Lib.hid (HB1.out.trans (hb2.mono HB1.out.size))
    have HK2 := Lib.hid (HK1.out.below hb2)
    clear hc' hb2
    go_wp2_with fail
    refine (HLY.out _ HB2.out).mono ?_
    rintro e w3 ⟨v3, rfl, k3, hb3⟩
    obtain ⟨a3, c3, rfl, _⟩ := k3.form
    have HK3 := Lib.hid k3
    have HB3 := Lib.hid (HB2.out.trans (hb3.mono HB2.out.size))
    have HK4 := Lib.hid (HK2.out.below hb3)
    clear k3 hb3
    go_wp2_with fail
    refine (HNL.out _ _ HK4.out.one).mono ?_
    rintro e w4 ⟨v4, rfl, k5, hb4⟩
    obtain ⟨a4, c4, rfl, _⟩ := k5.form
    have HK5 := Lib.hid k5
    have HK6 := Lib.hid (HK3.out.below hb4)
    have HB4 := Lib.hid (HB3.out.trans (hb4.mono HB3.out.size))
    clear k5 hb4
    go_wp2_with fail
    refine (HFW.out _).mono ?_
    rintro e w5 ⟨rfl, rfl⟩
    generalize hfe : fewF x vs.length f = fw at *
    cases fw
    · go_wp2_with fail
      go_ret
      exact ⟨rfl, HB4.out⟩
    · have HFE := Lib.hid hfe
      clear hfe
      by_cases hz : (loyL x vs vs.length).length = 0
      · have hz' : (((loyL x vs vs.length).length : Int) == 0) = true := by rw [cast_beq0]; exact beq_iff_eq.2 hz
        clear hz
        go_wp2_with fail
        go_ret
        exact ⟨rfl, HB4.out⟩
      · have hz' : (((loyL x vs vs.length).length : Int) == 0) = false := by rw [cast_beq0]; exact beq_eq_false_iff_ne.2 hz
        have hne : loyL x vs vs.length ≠ [] := fun e => hz (by rw [e]; rfl)
        have hne2 : loyL x nw vs.length ≠ [] := fun e => hz (by rw [HLE.out, e]; rfl)
        have HE1 := Lib.hid (ends_any HK6.out.one hne)
        have HE2 := Lib.hid (ends_any HK5.out.one hne2)
        clear hz hne hne2
        go_wp2_with fail
        refine HE1.out.mono ?_
        rintro e w6 ⟨⟨lo, hi, rfl, he1⟩, rfl⟩
        have HQ1 := Lib.hid he1
        clear he1
        go_wp2_with fail
        refine HE2.out.mono ?_
        rintro e w6 ⟨⟨c, d, rfl, he2⟩, rfl⟩
        obtain ⟨u1, u2, u3⟩ := HQ1.out
        obtain ⟨t1, t2, t3⟩ := he2
        obtain ⟨c0, d0, q1, q2, q3, q4⟩ := HHV.out (by first | trivial | rfl) lo hi u1
        obtain ⟨j1, _, _, rfl⟩ := HNW.out _ t2
        obtain ⟨j2, _, _, rfl⟩ := HNW.out _ t3
        have s1 := q4 j1
        have s2 := q4 j2
        have s3 := HBD.out _ u2
        have s4 := HBD.out _ u3
        generalize newF f x vs ls j1 = c at *
        generalize newF f x vs ls j2 = d at *
        have p1 : lo ≤ c := by omega
        have p2 : d ≤ hi := by omega
        have p3 : 2 * (d - c) ≤ hi - lo + 1 := by omega
        have p5 : c ≤ d := (t1 c t2).2
        have p6 : -1099511627776 ≤ lo := s3.1
        have p7 : hi ≤ 1099511627776 := s4.2
        have p8 : lo ≤ hi := (u1 lo u2).2
        clear u1 u2 u3 t1 t2 t3 q1 q2 q3 q4 s1 s2 s3 s4
        go_wp2_with fail
        all_goals first | (exfalso; omega) | skip
        go_ret
        exact ⟨rfl, HB4.out⟩
  · have HR := Lib.hid (round_bad f x h hl.one ok hx wf)
    have HC := Lib.hid (check_any f x h hl hx hm wf)
    have HOK := Lib.hid ok
    subst hv hvl
    clear h hl ok
    go_enter Try.func3, Try.ntmps3
    go_wp2_with fail
    refine HR.out.mono ?_
    rintro e w1 ⟨c, rfl, hc, rfl⟩
    have hc1 : (c != 0) = true := by simpa using hc
    clear hc
    go_wp2_with fail
    refine HC.out.mono ?_
    rintro e w2 ⟨⟨c', rfl, hc'⟩, hb2⟩
    have hc2 : (c' != 0) = true := by
      have : c' ≠ 0 := fun e => HOK.out (hc'.1 e)
      simpa using this
    have HB2 := Lib.hid hb2
    clear hc' hb2
    go_wp2_with fail
    go_ret
    exact ⟨rfl, HB2.out⟩

theorem halves_int (f x : Int) (a2 a3 : Option Addr) (n2 k2 n3 k3 : Nat) (vs ls : List Int) (W : World) (h : SlI W (.slice a2 n2 k2) vs) (h' : SlI W (.slice a3 n3 k3) ls) (c2 : n2 ≤ k2) (c3 : n3 ≤ k3) (hx : 0 ≤ x ∧ x ≤ 4294967295) (hm : n3 * 8 ≤ 140737488351232) (wf : (Lit.int .i64 f).wf = true) :
    Calls Try.prog 3 #[.int .i64 f, .int .u32 x, .slice a2 n2 k2, .slice a3 n3 k3] W fun e w' => e = .returned (.bool true) ∧ Below W.heap.size W w' := by
  obtain ⟨x, rfl⟩ := Int.eq_ofNat_of_zero_le hx.1
  exact halves_any f x _ _ vs ls W (h.sls c2) (h'.sls c3) (by omega) (by rw [← h'.len_eq]; exact hm) wf
end Go.Proofs.Ytgbhbohleafibaa
