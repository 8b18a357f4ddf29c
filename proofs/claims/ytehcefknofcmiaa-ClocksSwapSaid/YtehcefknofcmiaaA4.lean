/- Scalars. -/
import Derived.Test.YtehcefknofcmiaaA3
import Derived.Test.YtehcefknofcmiaaS10
import Derived.Test.YtehcefknofcmiaaH
namespace Go.Proofs.Ytehcefknofcmiaa
open Go.RowKit Go.Shelf
set_option linter.unusedVariables false
attribute [local go_sem] Oper.semAt_some

theorem marks_zero {P : Program} {fn : Func} {R : Ending → World → Prop} {tmps : Array Value} {w : World} {v : Value} (hr : ∀ w', (results fn tmps).run P w' = .ok v w') (h : R (.returned v) w) : bodyPostM Fence.wide 0 P fn R .ret { tmps := tmps, defers := [] } w := ⟨_, hr w, h⟩

theorem behindf_any {W w : World} {a : Option Addr} {n c : Nat} {R : Hp} (H : Sat W w R) :
    Calls Try.prog 21 #[.slice a n c] w fun e w' => ∃ Bl, e = .returned (.func (.func 24) #[] #[.pointer (some ⟨Bl, 0, none⟩)]) ∧ Sat W w' (Hp.rec_ Bl [.slice a n c] * R) := by
  have H1 := Lib.hid (H.allocAt #[.slice a n c] 22 [.slice a n c] rfl (b := w.heap.size) rfl)
  clear H
  go_enter Try.func21, Try.ntmps21
  go_wp2_with fail
  go_ret
  exact ⟨_, rfl, H1.out⟩

/-- a variable that holds an own list -/
def boxS (b : Nat) (xs : List Int) : Hp := Hp.ex fun v => Hp.rec_ b [v] * Hp.own SZ 1 v xs
/-- the greatest of what stands at some places -/
def mx (sc : List Int) (js : List Int) : Int := js.foldl (fun x j => max x (sc.getD j.toNat 0)) 0
theorem mx_snoc (sc js : List Int) (j : Int) : mx sc (js ++ [j]) = max (mx sc js) (sc.getD j.toNat 0) := by simp [mx, List.foldl_append]
theorem mx_le {sc : List Int} {m : Int} (h0 : 0 ≤ m) (h : ∀ x ∈ sc, x ≤ m) (js : List Int) : 0 ≤ mx sc js ∧ mx sc js ≤ m := by
  have key : ∀ (js : List Int) (a : Int), 0 ≤ a → a ≤ m → 0 ≤ js.foldl (fun x j => max x (sc.getD j.toNat 0)) a ∧ js.foldl (fun x j => max x (sc.getD j.toNat 0)) a ≤ m := by
    intro js
    induction js with
    | nil => intro a ha hb; exact ⟨ha, hb⟩
    | cons j js ih =>
      intro a ha hb
      have : sc.getD j.toNat 0 ≤ m := by
        rw [List.getD_eq_getElem?_getD]
        cases hx : sc[j.toNat]? with
        | none => simpa using h0
        | some x => exact h x (List.mem_of_getElem? hx)
      exact ih _ (by show 0 ≤ max _ _; omega) (by show max _ _ ≤ m; omega)
  exact key js 0 (Int.le_refl _) h0
/-- the first k numbers -/
def scalL (l : List Ev) : Nat → List Int
  | 0 => []
  | k + 1 => scalL l k ++ [mx (scalL l k) (fromL l k) + 1]
theorem scalL_len (l : List Ev) : ∀ k, (scalL l k).length = k
  | 0 => rfl
  | k + 1 => by simp [scalL, scalL_len l k]
theorem scalL_bd (l : List Ev) : ∀ k, ∀ x ∈ scalL l k, 1 ≤ x ∧ x ≤ k
  | 0, x, hx => by cases hx
  | k + 1, x, hx => by
    have ih := scalL_bd l k
    simp only [scalL, List.mem_append, List.mem_singleton] at hx
    rcases hx with hx | hx
    · have := ih x hx; omega
    · have := mx_le (m := (k : Int)) (by omega) (fun y hy => (ih y hy).2) (fromL l k); omega
theorem lastOf_lt {l : List Ev} {w : Int} : ∀ {k j : Nat}, lastOf l k w = some j → j < k
  | 0, j, h => by cases h
  | k + 1, j, h => by
    unfold lastOf at h
    split at h
    · split at h
      · cases h; omega
      · have := lastOf_lt h; omega
    · have := lastOf_lt h; omega
theorem from_lt {n : Int} {l : List Ev} (hok : OkE n l) (k : Nat) : ∀ j ∈ fromL l k, ∃ j' : Nat, j = j' ∧ j' < k := by
  intro j hj
  unfold fromL at hj
  cases he : l[k]? with
  | none => rw [he] at hj; cases hj
  | some e =>
    rw [he] at hj
    simp only [fromE, List.mem_append] at hj
    rcases hj with hj | hj
    · cases hl : lastOf l k e.who with
      | none => rw [hl] at hj; cases hj
      | some i => rw [hl] at hj; simp at hj; exact ⟨i, hj, lastOf_lt hl⟩
    · split at hj
      · rename_i h3
        simp at hj
        obtain ⟨q, s, h1, h2, _⟩ := (hok.all k e he).2.2.2 h3
        exact ⟨q, by rw [hj, h1], h2⟩
      · cases hj
theorem from_len (l : List Ev) (k : Nat) : (fromL l k).length ≤ 2 := by
  unfold fromL fromE
  split
  · rw [List.length_append]
    split <;> split <;> simp
  · simp

set_option maxHeartbeats 8000000 in
set_option maxRecDepth 100000 in
theorem scalars_any {W : World} {v : Value} {l : List Ev} (n : Int) (h : SlS FE 3 W v l) :
    Calls Try.prog 13 #[.int .i64 n, v] W fun e w' => (∃ (sv : Value) (c : Int), e = .returned (.tuple #[sv, .int .i64 c]) ∧ (c = 0 ↔ OkE n l) ∧ (c = 0 → SlS SZ 1 w' sv (scalL l l.length))) ∧ Below W.heap.size W w' := by
  have HC := Lib.hid (check_any n h)
  obtain ⟨al, cl, rfl, _⟩ := h.form
  have HS := Lib.hid h
  clear h
  refine calls_marks Try.func13 rfl ?_
  simp only [Try.ntmps13, List.size_toArray, List.length_cons, List.length_nil, Nat.reduceAdd, Nat.reduceSub, Array.replicate_succ, Array.replicate_zero, List.push_toArray, List.append_toArray, List.nil_append, List.cons_append]
  go_wp2_with fail
  refine HC.out.mono ?_
  rintro e w1 ⟨⟨c, rfl, hc⟩, hb⟩
  have HB := Lib.hid hb
  have HCC := Lib.hid hc
  clear hb hc
  by_cases hc : c = 0
  rotate_left
  · have hc1 : (c != 0) = true := by simpa using hc
    have hc2 : (c == 0) = false := by simpa using hc
    have HC0 := Lib.hid hc
    clear hc
    go_wp2_with fail
    refine marks_zero (v := .tuple #[.slice none 0 0, .int .i64 c]) (fun w' => by simp [results, Try.f13]) ?_
    exact ⟨⟨_, c, rfl, HCC.out, fun h => absurd h HC0.out⟩, HB.out⟩
  subst hc
  have HOK := Lib.hid (HCC.out.1 rfl)
  have HS1 := Lib.hid (HS.out.below HB.out)
  have H0 := (Sat.start w1).allocAt #[.slice none 0 0] 32 [.slice none 0 0] rfl (b := w1.heap.size) rfl
  have H1 := Lib.hid (show Sat w1 (w1.alloc (.cells #[.slice none 0 0] 32)) (boxS w1.heap.size (scalL l 0) * 1) from Sat.exI (.slice none 0 0) ((H0.nil SZ 1).sw.cast (Hp.mul_assoc _ _ _).symm))
  clear H0
  go_wp2_with fail
  refine (behindf_any H1.out).mono ?_
  rintro e w2 ⟨Bl, rfl, hs2⟩
  have H2 := Lib.hid hs2.sw
  obtain ⟨Bo, hBo⟩ : ∃ Bo, Bo = w1.heap.size := ⟨_, rfl⟩
  rw [← hBo] at H2 ⊢
  clear hBo hs2 H1
  go_wp2_with fail
  apply wp_rangeFuncV (W := w1) (lb := #[.pointer (some ⟨Bl, 0, none⟩)]) rfl (fun args w => rfl) (fun k v => #[.int .i64 k, v]) (fun k v => Hp.own SZ 1 v (fromL l k)) l.length (fun _ _ => rfl) (fun k => boxS Bo (scalL l k)) _ (Hp.rec_ Bl [.slice al l.length cl] * 1) H2.out (fun lp B w hy hs => behind_any HS1.out HOK.out hy hs)
  case hassign =>
    intro lp k v w1 K _ hK
    gi_wp2
    exact hK
  case hbody =>
    intro lp k v w4 R hk hs
    obtain ⟨vo, hs⟩ := Sat.ex hs.sw
    have h1 := hs.assoc
    have c0 := h1.cell 0 rfl
    have f0 := h1.free 0 rfl
    have hfl := from_lt HOK.out k
    have hlen := from_len l k
    have HN := Lib.hid (show scalL l (k + 1) = scalL l k ++ [mx (scalL l k) (fromL l k) + 1] from rfl)
    have hsl := scalL_len l k
    have hbd := mx_le (sc := scalL l k) (m := (k : Int)) (by omega) (fun y hy => (scalL_bd l k y hy).2) (fromL l k)
    have hfew := HOK.out.few
    rw [HN.out]
    generalize fromL l k = fr at *
    generalize scalL l k = sc at *
    obtain ⟨ao, co, hvo, _⟩ := h1.sw.ows.form
    rw [hsl] at hvo
    subst hvo
    have hsf : Sat w1 w4 (Hp.own SZ 1 v fr * (Hp.own SZ 1 (.slice ao k co) sc * (Hp.rec_ Bo [.slice ao k co] * R))) := h1.cast (by ac_rfl)
    obtain ⟨af, cf, rfl, _⟩ := hsf.ows.form
    have HSF := Lib.hid (hsf.sls (by omega))
    have HSO := Lib.hid (h1.sw.sls (by omega))
    have H3 := Lib.hid h1.sw
    have HSL := Lib.hid hsl
    have HFL := Lib.hid hfl
    clear hs h1 hsf hfl hsl
    have k0 : (0 : Int) ≤ (k : Int) := by omega
    have l2 : (fr.length : Int) ≤ 2 := by omega
    have k1 : (k : Int) ≤ 60 := by omega
    obtain ⟨b1, b2⟩ := hbd
    gi_wp2
    gi_loopw [10, 25] (fun x i wr => ∃ m : Nat, m ≤ fr.length ∧ x = .int .i64 (mx sc (fr.take m)) ∧ i = .int .i64 m ∧ wr = w4) (fun _ i _ => fr.length - (intOf i).toNat)
    case atStart => exact ⟨0, Nat.zero_le _, rfl, rfl, rfl⟩
    case round =>
      obtain ⟨m, hm, rfl, rfl, rfl⟩ := hrel
      have m0 : (0 : Int) ≤ (m : Int) := by omega
      by_cases hlt : m < fr.length
      · obtain ⟨j, hj⟩ := get_of_lt hlt
        obtain ⟨j, rfl, hjk⟩ := HFL.out j (List.mem_of_getElem? hj)
        obtain ⟨y, hy⟩ := get_of_lt (show j < sc.length by rw [HSL.out]; exact hjk)
        obtain ⟨bf, of, rfl, _, d0⟩ := HSF.out.one.get' hj
        obtain ⟨bo, oo, rfl, _, d1⟩ := HSO.out.one.get' hy
        have m1 : (m : Int) < (fr.length : Int) := by omega
        have j0 : (0 : Int) ≤ (j : Int) := by omega
        have j1 : (j : Int) < (k : Int) := by omega
        have HT := Lib.hid (show mx sc (fr.take (m + 1)) = max (mx sc (fr.take m)) y by
          rw [take_of hj, mx_snoc, List.getD_eq_getElem?_getD]
          congr 1
          rw [show ((j : Int)).toNat = j from rfl, hy]; rfl)
        clear hj hy
        generalize mx sc (fr.take m) = x at *
        have key : (x < y ∧ max x y = y) ∨ (y ≤ x ∧ max x y = x) := by omega
        rcases key with ⟨q1, q2⟩ | ⟨q1, q2⟩
        · rw [q2] at HT
          clear q2
          gi_wp2
          all_goals first | (exfalso; omega) | skip
          go_roundw
          case rel => exact ⟨m + 1, by omega, by rw [HT.out], by go_num, by first | rfl | trivial⟩
          case measure => simp [intOf]; omega
        · rw [q2] at HT
          clear q2
          gi_wp2
          all_goals first | (exfalso; omega) | skip
          go_roundw
          case rel => exact ⟨m + 1, by omega, by rw [HT.out], by go_num, by first | rfl | trivial⟩
          case measure => simp [intOf]; omega
      · obtain rfl : m = fr.length := by omega
        rw [List.take_length]
        clear hm hlt m0
        obtain ⟨x, hx⟩ : ∃ x, x = mx sc fr := ⟨_, rfl⟩
        rw [← hx] at b1 b2 ⊢
        have HX := Lib.hid hx
        clear hx
        gi_wp2_with (gi_at_builtin; refine wpListIn_pushH rfl (.tmp 36) (.tmp 39) 32 rfl Try.eZ SZ SZ_len SZ_one (x + 1) wr.heap.size rfl rfl (H3.out.allocAt #[.int .i64 (x + 1)] 3 [.int .i64 (x + 1)] rfl rfl) (by rw [HSL.out]; omega) (by rw [HSL.out]; omega) ?_; intro v' w5 hs' h'; rw [HSL.out] at hs'; have h2 := h'.sw; have e0 := h2.cell 0 rfl; have e1 := h2.free 0 rfl; have H5 := Lib.hid (h2.set 0 v'); obtain ⟨g', o', c', rfl⟩ := hs'; clear h' h2)
        show Sat w1 _ (boxS Bo (sc ++ [mx sc fr + 1]) * R)
        rw [← HX.out]
        have h6 := H5.out
        exact Sat.exI _ ((h6.cast (by ac_rfl) : Sat w1 _ (Hp.own SZ 1 (.slice af fr.length cf) fr * ((Hp.rec_ Bo [.slice (some ⟨g', o', none⟩) (k + 1) c'] * Hp.own SZ 1 (.slice (some ⟨g', o', none⟩) (k + 1) c') (sc ++ [x + 1])) * R))).drop)
  case hdone =>
    intro D w' hD hs
    obtain ⟨vo, hs⟩ := Sat.ex hs.sw
    have h1 := hs.assoc
    have c0 := h1.cell 0 rfl
    obtain ⟨ao, co, rfl, _⟩ := h1.sw.ows.form
    rw [scalL_len] at c0 h1
    have hfew := HOK.out.few
    have H5 := Lib.hid (h1.cast (Q := Hp.obj D (.deferred (some [])) * (Hp.own SZ 1 (.slice ao l.length co) (scalL l l.length) * (Hp.rec_ Bo [.slice ao l.length co] * (Hp.rec_ Bl [.slice al l.length cl] * 1)))) (by ac_rfl))
    clear hs h1
    try rw [scalL_len]
    go_wp2_with fail
    refine marks_ret (v := .tuple #[.slice ao l.length co, .int .i64 0]) H5.out (fun w' => by simp [results, Try.f13]) fun w9 h9 => ?_
    exact ⟨⟨_, 0, rfl, ⟨fun _ => HOK.out, fun _ => rfl⟩, fun _ => h9.drop.sls (by rw [scalL_len]; omega)⟩, HB.out.trans (h9.below.mono HB.out.size)⟩
end Go.Proofs.Ytehcefknofcmiaa
