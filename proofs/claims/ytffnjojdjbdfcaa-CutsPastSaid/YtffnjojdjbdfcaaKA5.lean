/- What each event knows of each process. -/
import Derived.Test.YtffnjojdjbdfcaaKA4
namespace Go.Proofs.Ytffnjojdjbdfcaa
open Go.RowKit Go.Shelf
set_option linter.unusedVariables false
attribute [local go_sem] Oper.semAt_some

/-- the greater ones, of the first q places -/
def jq (v x : List Int) : Nat → List Int
  | 0 => v
  | q + 1 => (jq v x q).set q (max (v.getD q 0) (x.getD q 0))
theorem jq_len (v x : List Int) : ∀ q, (jq v x q).length = v.length
  | 0 => rfl
  | q + 1 => by simp [jq, jq_len v x q]
theorem jq_get (v x : List Int) : ∀ (q i : Nat), i < v.length → (jq v x q)[i]? = some (if i < q then max (v.getD i 0) (x.getD i 0) else v.getD i 0)
  | 0, i, h => by simp [jq, List.getD_eq_getElem?_getD, List.getElem?_eq_getElem h]
  | q + 1, i, h => by
    have ih := jq_get v x q i h
    unfold jq
    rw [List.getElem?_set]
    by_cases e : q = i
    · subst e
      rw [if_pos rfl, if_pos (by rw [jq_len]; exact h), if_pos (by omega)]
    · rw [if_neg e, ih]
      by_cases e2 : i < q
      · rw [if_pos e2, if_pos (by omega)]
      · rw [if_neg e2, if_neg (by omega)]
/-- all that is known by some together -/
def joins (n : Nat) (vs : List (List Int)) (js : List Int) : List Int := js.foldl (fun v j => jq v (vs.getD j.toNat []) n) (List.replicate n 0)
theorem joins_snoc (n : Nat) (vs : List (List Int)) (js : List Int) (j : Int) : joins n vs (js ++ [j]) = jq (joins n vs js) (vs.getD j.toNat []) n := by simp [joins, List.foldl_append]
theorem joins_len (n : Nat) (vs : List (List Int)) (js : List Int) : (joins n vs js).length = n := by
  have key : ∀ (js : List Int) (v : List Int), v.length = n → (js.foldl (fun v j => jq v (vs.getD j.toNat []) n) v).length = n := by
    intro js
    induction js with
    | nil => intro v h; exact h
    | cons j js ih => intro v h; exact ih _ (by rw [jq_len]; exact h)
  exact key js _ (by simp)
def bump (v : List Int) (i : Nat) : List Int := v.set i (v.getD i 0 + 1)
def whoN (l : List Ev) (k : Nat) : Nat := match l[k]? with | some e => e.who.toNat | none => 0
/-- what the first k know -/
def vecL (l : List Ev) (n : Nat) : Nat → List (List Int)
  | 0 => []
  | k + 1 => vecL l n k ++ [bump (joins n (vecL l n k) (fromL l k)) (whoN l k)]
theorem vecL_len (l : List Ev) (n : Nat) : ∀ k, (vecL l n k).length = k
  | 0 => rfl
  | k + 1 => by simp [vecL, vecL_len l n k]
theorem vecL_each (l : List Ev) (n : Nat) : ∀ k, ∀ v ∈ vecL l n k, v.length = n
  | 0, v, h => by cases h
  | k + 1, v, h => by
    simp only [vecL, List.mem_append, List.mem_singleton] at h
    rcases h with h | h
    · exact vecL_each l n k v h
    · rw [h]; simp [bump, joins_len]
def Bd (m : Int) (v : List Int) : Prop := ∀ x ∈ v, 0 ≤ x ∧ x ≤ m
theorem Bd.getD {m : Int} {v : List Int} (h : Bd m v) (h0 : 0 ≤ m) (i : Nat) : 0 ≤ v.getD i 0 ∧ v.getD i 0 ≤ m := by
  rw [List.getD_eq_getElem?_getD]
  cases hx : v[i]? with
  | none => simpa using h0
  | some x => exact h x (List.mem_of_getElem? hx)
theorem Bd.set {m : Int} {v : List Int} (h : Bd m v) {i : Nat} {y : Int} (hy : 0 ≤ y ∧ y ≤ m) : Bd m (v.set i y) := by
  intro x hx
  rcases List.mem_or_eq_of_mem_set hx with hx | hx
  · exact h x hx
  · subst hx; exact hy
theorem Bd.mono {m m' : Int} {v : List Int} (h : Bd m v) (hm : m ≤ m') : Bd m' v := fun x hx => ⟨(h x hx).1, by have := (h x hx).2; omega⟩
theorem Bd.jq {m : Int} {v x : List Int} (h : Bd m v) (hx : Bd m x) (h0 : 0 ≤ m) : ∀ q, Bd m (jq v x q)
  | 0 => h
  | q + 1 => (Bd.jq h hx h0 q).set (by have := h.getD h0 q; have := hx.getD h0 q; omega)
theorem joins_bd {m : Int} (h0 : 0 ≤ m) (n : Nat) {vs : List (List Int)} (h : ∀ v ∈ vs, Bd m v) (js : List Int) : Bd m (joins n vs js) := by
  have hg : ∀ j : Int, Bd m (vs.getD j.toNat []) := by
    intro j
    rw [List.getD_eq_getElem?_getD]
    cases hx : vs[j.toNat]? with
    | none => intro x hx; cases hx
    | some v => exact h v (List.mem_of_getElem? hx)
  have key : ∀ (js : List Int) (v : List Int), Bd m v → Bd m (js.foldl (fun v j => jq v (vs.getD j.toNat []) n) v) := by
    intro js
    induction js with
    | nil => intro v h; exact h
    | cons j js ih => intro v h; exact ih _ (h.jq (hg j) h0 n)
  exact key js _ (fun x hx => by rw [List.mem_replicate] at hx; rw [hx.2]; omega)
theorem vecL_bd (l : List Ev) (n : Nat) : ∀ k, ∀ v ∈ vecL l n k, Bd k v
  | 0, v, h => by cases h
  | k + 1, v, h => by
    have ih := vecL_bd l n k
    simp only [vecL, List.mem_append, List.mem_singleton] at h
    rcases h with h | h
    · exact (ih v h).mono (by omega)
    · rw [h]
      have hj := joins_bd (m := (k : Int)) (by omega) n ih (fromL l k)
      have := hj.getD (by omega) (whoN l k)
      exact (hj.mono (by omega)).set (by omega)

/-- a row that is done -/
structure Vc where
  a : Option Addr
  c : Nat
  xs : List Int
def Vc.val (v : Vc) : Value := .slice v.a v.xs.length v.c
abbrev FV (v : Vc) : List Value := [.slice v.a v.xs.length v.c]
theorem FV_len (v : Vc) : (FV v).length = 1 := rfl
theorem FV_one (v : Vc) (u : Value) (h : u ∈ FV v) : u.oneCell' = true := by simp [FV] at h; subst h; rfl
theorem Try.eV : Elem Try.prog 37 23 (.slice none 0 0) 1 24 := ⟨Try.underlying37, by kernel_rfl, rfl, by decide⟩
abbrev bigV (ps : List Vc) : Hp := Hp.big (fun p : Vc => Hp.own SZ 1 (.slice p.a p.xs.length p.c) p.xs) ps
/-- a variable that holds rows -/
def boxV (b : Nat) (ls : List (List Int)) : Hp := Hp.ex fun vo => Hp.ex fun ps : {ps : List Vc // ps.map Vc.xs = ls} => Hp.rec_ b [vo] * (Hp.own FV 1 vo ps.1 * bigV ps.1)
theorem big_sls {W w : World} {ps : List Vc} {R : Hp} (H : Sat W w (bigV ps * R)) {j : Nat} {p : Vc} (hp : ps[j]? = some p) (hl : p.xs.length ≤ 140737488355328) : SlS SZ 1 w (.slice p.a p.xs.length p.c) p.xs := by
  obtain ⟨R', h1, _⟩ := Hp.big_focus (fun p : Vc => Hp.own SZ 1 (.slice p.a p.xs.length p.c) p.xs) ps j p hp
  unfold bigV at H
  rw [h1] at H
  exact H.assoc.sls hl

theorem OwS.some_of {α : Type} {f : α → List Value} {sz base : Nat} {w : World} {v : Value} {xs : List α} (h : OwS f sz w base v xs) (h0 : xs ≠ []) : ∃ g o c, v = .slice (some ⟨g, o, none⟩) xs.length c := by
  rcases h with ⟨_, h⟩ | ⟨g, o, c, h, _⟩
  · exact absurd h h0
  · exact ⟨g, o, c, h⟩

set_option maxHeartbeats 8000000 in
set_option maxRecDepth 100000 in
theorem vectors_any {W : World} {v : Value} {l : List Ev} (n : Nat) (h : SlS FE 3 W v l) (hok : OkE n l) :
    Calls Try.prog 28 #[.int .i64 n, v] W fun e w' => ∃ ov, e = .returned ov ∧ ∃ ps : List Vc, ps.map Vc.xs = vecL l n l.length ∧ ∃ Z, Sat W w' (Hp.own FV 1 ov ps * (bigV ps * Z)) := by
  obtain ⟨al, cl, rfl, _⟩ := h.form
  have HS := Lib.hid h
  have HOK := Lib.hid hok
  have H0 := (((Sat.start W).allocAt #[.int .i64 n] 3 [.int .i64 n] rfl (b := W.heap.size) rfl).allocAt #[.slice al l.length cl] 22 [.slice al l.length cl] rfl (b := W.heap.size + 1) (by simp)).allocAt #[.slice none 0 0] 37 [.slice none 0 0] rfl (b := W.heap.size + 1 + 1) (by simp)
  have H1 := Lib.hid (show Sat W _ (boxV (W.heap.size + 1 + 1) (vecL l n 0) * (Hp.rec_ (W.heap.size + 1) [.slice al l.length cl] * (Hp.rec_ W.heap.size [.int .i64 n] * 1))) from
    Sat.exI (.slice none 0 0) (Sat.exI (⟨[], rfl⟩ : {ps : List Vc // ps.map Vc.xs = vecL l n 0}) (((H0.nil FV 1).sw.cast (by show _ = (Hp.rec_ _ _ * (Hp.own FV 1 _ [] * 1)) * _; rw [Hp.mul_one (Hp.own FV 1 (Value.slice none 0 0) []), Hp.mul_assoc])))))
  clear h hok H0
  have e0 := H1.out
  refine calls_marks Try.func28 rfl ?_
  simp only [Try.ntmps28, List.size_toArray, List.length_cons, List.length_nil, Nat.reduceAdd, Nat.reduceSub, Array.replicate_succ, Array.replicate_zero, List.push_toArray, List.append_toArray, List.nil_append, List.cons_append]
  go_wp2_with fail
  refine (behindf_any H1.out).mono ?_
  rintro e w2 ⟨Bl, rfl, hs2⟩
  obtain ⟨Bn, hBn⟩ : ∃ Bn, Bn = W.heap.size := ⟨_, rfl⟩
  obtain ⟨Bl2, hBl2⟩ : ∃ Bl2, Bl2 = Bn + 1 := ⟨_, rfl⟩
  obtain ⟨Bo, hBo⟩ : ∃ Bo, Bo = Bl2 + 1 := ⟨_, rfl⟩
  rw [← hBn, ← hBl2, ← hBo] at hs2 ⊢
  have H2 := Lib.hid (hs2.cast (Q := (boxV Bo (vecL l n 0) * (Hp.rec_ Bl2 [.slice al l.length cl] * Hp.rec_ Bn [.int .i64 n])) * (Hp.rec_ Bl [.slice al l.length cl] * 1)) (by ac_rfl))
  clear hBn hBl2 hBo hs2 H1 e0
  go_wp2_with fail
  apply wp_rangeFuncV (W := W) (lb := #[.pointer (some ⟨Bl, 0, none⟩)]) rfl (fun args w => rfl) (fun k v => #[.int .i64 k, v]) (fun k v => Hp.own SZ 1 v (fromL l k)) l.length (fun _ _ => rfl) (fun k => boxV Bo (vecL l n k) * (Hp.rec_ Bl2 [.slice al l.length cl] * Hp.rec_ Bn [.int .i64 n])) _ (Hp.rec_ Bl [.slice al l.length cl] * 1) H2.out (fun lp B w hy hs => behind_any HS.out HOK.out hy hs)
  case hassign =>
    intro lp k v w1 K _ hK
    gi_wp2
    exact hK
  case hbody =>
    intro lp k v w4 R hk hs
    have hs1 := hs.cast (Q := boxV Bo (vecL l n k) * (Hp.rec_ Bl2 [.slice al l.length cl] * (Hp.rec_ Bn [.int .i64 n] * (Hp.own SZ 1 v (fromL l k) * R)))) (by ac_rfl)
    obtain ⟨vo, hs1⟩ := Sat.ex hs1
    obtain ⟨⟨ps, hps⟩, hs1⟩ := Sat.ex hs1
    have h1 : Sat W w4 (Hp.rec_ Bo [vo] * (Hp.own FV 1 vo ps * (bigV ps * (Hp.rec_ Bl2 [.slice al l.length cl] * (Hp.rec_ Bn [.int .i64 n] * (Hp.own SZ 1 v (fromL l k) * R)))))) := hs1.cast (by ac_rfl)
    have hfl := from_lt HOK.out k
    have hlen := from_len l k
    have hlow := HOK.out.low
    have hhigh := HOK.out.high
    have hfew := HOK.out.few
    have hpl : ps.length = k := by rw [← List.length_map (f := Vc.xs), hps, vecL_len]
    have hpx : ∀ j p, ps[j]? = some p → (vecL l n k).getD j [] = p.xs ∧ p.xs.length = n := fun j p hp => by
      have : (vecL l n k)[j]? = some p.xs := by rw [← hps, List.getElem?_map, hp]; rfl
      exact ⟨by rw [List.getD_eq_getElem?_getD, this]; rfl, vecL_each l n k _ (List.mem_of_getElem? this)⟩
    have hpb : ∀ p ∈ ps, Bd k p.xs := fun p hp => vecL_bd l n k _ (by rw [← hps]; exact List.mem_map.2 ⟨p, hp, rfl⟩)
    have HNX := Lib.hid (show vecL l n (k + 1) = vecL l n k ++ [bump (joins n (vecL l n k) (fromL l k)) (whoN l k)] from rfl)
    have HJB := Lib.hid (fun js => joins_bd (m := (k : Int)) (by omega) n (vecL_bd l n k) js)
    have HJL := Lib.hid (fun js => joins_len n (vecL l n k) js)
    have HJS := Lib.hid (fun js j => joins_snoc n (vecL l n k) js j)
    have HJ0 := Lib.hid (show joins n (vecL l n k) [] = List.replicate n 0 from rfl)
    have HPS := Lib.hid hps
    obtain ⟨e, he⟩ := get_of_lt hk
    obtain ⟨q1, q2, q3, _⟩ := HOK.out.all k e he
    have HWH := Lib.hid (show e.who = (whoN l k : Int) ∧ whoN l k < n by unfold whoN; rw [he]; simp only; omega)
    have HE := Lib.hid he
    generalize fromL l k = fr at *
    obtain ⟨ao, co, hvo, _⟩ := h1.sw.ows.form
    rw [hpl] at hvo
    subst hvo
    have hsf : Sat W w4 (Hp.own SZ 1 v fr * _) := h1.cast (Q := Hp.own SZ 1 v fr * (Hp.rec_ Bo [.slice ao k co] * (Hp.own FV 1 (.slice ao k co) ps * (bigV ps * (Hp.rec_ Bl2 [.slice al l.length cl] * (Hp.rec_ Bn [.int .i64 n] * R)))))) (by ac_rfl)
    obtain ⟨af, cf, rfl, _⟩ := hsf.ows.form
    have hmk := run_mk Try.eZ (t := 23) (n := n) (by omega) (by omega) w4
    have n1 : (1 : Int) ≤ (n : Int) := by omega
    have n2 : (n : Int) ≤ 6 := by omega
    have cn : w4.cell? ⟨Bn, 0, none⟩ = some (.int .i64 n) := (h1.cast (Q := Hp.rec_ Bn [.int .i64 n] * (Hp.rec_ Bo [.slice ao k co] * (Hp.own FV 1 (.slice ao k co) ps * (bigV ps * (Hp.rec_ Bl2 [.slice al l.length cl] * (Hp.own SZ 1 (.slice af fr.length cf) fr * R)))))) (by ac_rfl)).cell 0 rfl
    have H5 := Lib.hid (h1.newOwnAt (b := w4.heap.size) (f := SZ) (sz := 1) (xs := List.replicate n 0) rfl (OwS.made (e := 3) (z := .int .i64 0) _ _ n 0 SZ_len rfl (Nat.le_refl _)))
    have HPL := Lib.hid hpl
    have HPX := Lib.hid hpx
    have HPB := Lib.hid hpb
    have HFL := Lib.hid hfl
    have k0 : (0 : Int) ≤ (k : Int) := by omega
    have l2 : (fr.length : Int) ≤ 2 := by omega
    have k1 : (k : Int) ≤ 60 := by omega
    clear hs hs1 h1 hsf hpl hpx hpb hps hfl he q1 q2 q3
    gi_wp2
    clear hmk cn
    obtain ⟨G, hG⟩ : ∃ G, G = w4.heap.size := ⟨_, rfl⟩
    rw [← hG] at H5 ⊢
    clear hG
    gi_loopw [21] (fun i wr => ∃ m : Nat, m ≤ fr.length ∧ i = .int .i64 m ∧ Sat W wr (Hp.own SZ 1 (.slice (some ⟨G, 0, none⟩) n n) (joins n (vecL l n k) (fr.take m)) * (Hp.rec_ Bo [.slice ao k co] * (Hp.own FV 1 (.slice ao k co) ps * (bigV ps * (Hp.rec_ Bl2 [.slice al l.length cl] * (Hp.rec_ Bn [.int .i64 n] * (Hp.own SZ 1 (.slice af fr.length cf) fr * (R))))))))) (fun i _ => fr.length - (intOf i).toNat)
    case atStart => exact ⟨0, Nat.zero_le _, rfl, H5.out⟩
    case round =>
      obtain ⟨m, hm, rfl, hsat⟩ := hrel
      have m0 : (0 : Int) ≤ (m : Int) := by omega
      have HSAT := Lib.hid hsat
      by_cases hlt : m < fr.length
      · obtain ⟨j, hj⟩ := get_of_lt hlt
        obtain ⟨j, rfl, hjk⟩ := HFL.out j (List.mem_of_getElem? hj)
        obtain ⟨p, hp⟩ := get_of_lt (show j < ps.length by rw [HPL.out]; exact hjk)
        obtain ⟨hpx1, hpx2⟩ := HPX.out j p hp
        have hpb := HPB.out p (List.mem_of_getElem? hp)
        have hcl := HJL.out (fr.take m)
        have hcb := HJB.out (fr.take m)
        have HT := Lib.hid (show joins n (vecL l n k) (fr.take (m + 1)) = jq (joins n (vecL l n k) (fr.take m)) p.xs n by
          rw [take_of hj, HJS.out]
          show jq _ ((vecL l n k).getD j []) n = _
          rw [hpx1])
        obtain ⟨bf, of, rfl, _, d0⟩ := ((hsat.cast (Q := Hp.own SZ 1 (.slice af fr.length cf) fr * (Hp.own SZ 1 (.slice (some ⟨G, 0, none⟩) n n) (joins n (vecL l n k) (fr.take m)) * (Hp.rec_ Bo [.slice ao k co] * (Hp.own FV 1 (.slice ao k co) ps * (bigV ps * (Hp.rec_ Bl2 [.slice al l.length cl] * (Hp.rec_ Bn [.int .i64 n] * (R)))))))) (by ac_rfl)).sls (by omega)).one.get' hj
        obtain ⟨bo, oo, rfl, _, hd1⟩ := ((hsat.cast (Q := Hp.own FV 1 (.slice ao k co) ps * (Hp.own SZ 1 (.slice (some ⟨G, 0, none⟩) n n) (joins n (vecL l n k) (fr.take m)) * (Hp.rec_ Bo [.slice ao k co] * (bigV ps * (Hp.rec_ Bl2 [.slice al l.length cl] * (Hp.rec_ Bn [.int .i64 n] * (Hp.own SZ 1 (.slice (some ⟨bf, of, none⟩) fr.length cf) fr * (R)))))))) (by ac_rfl)).sls (by rw [HPL.out]; omega)).el hp
        have d1 := hd1 0 _ rfl
        have d2 := (hsat.cast (Q := Hp.rec_ Bo [.slice (some ⟨bo, oo, none⟩) k co] * (Hp.own SZ 1 (.slice (some ⟨G, 0, none⟩) n n) (joins n (vecL l n k) (fr.take m)) * (Hp.own FV 1 (.slice (some ⟨bo, oo, none⟩) k co) ps * (bigV ps * (Hp.rec_ Bl2 [.slice al l.length cl] * (Hp.rec_ Bn [.int .i64 n] * (Hp.own SZ 1 (.slice (some ⟨bf, of, none⟩) fr.length cf) fr * (R)))))))) (by ac_rfl)).cell 0 rfl
        have HPJ := Lib.hid hp
        obtain ⟨pa, pc, px⟩ := p
        simp only [Nat.mul_one, Nat.add_zero] at d1 hpx2 hpb HT
        rw [hpx2] at d1
        have HPXL := Lib.hid hpx2
        have HCB := Lib.hid hcb
        have HPB2 := Lib.hid hpb
        have m1 : (m : Int) < (fr.length : Int) := by omega
        have j0 : (0 : Int) ≤ (j : Int) := by omega
        have j1 : (j : Int) < (k : Int) := by omega
        clear hj hp hd1 hpx1 hpx2 hpb hcb hsat
        generalize joins n (vecL l n k) (fr.take m) = cur at *
        have HCL := Lib.hid hcl
        clear hcl
        gi_wp2
        clear d0 d1 d2
        gi_loopw [30] (fun i wr => ∃ q : Nat, q ≤ n ∧ i = .int .i64 q ∧ Sat W wr (Hp.own SZ 1 (.slice (some ⟨G, 0, none⟩) n n) (jq cur px q) * (Hp.rec_ Bo [.slice (some ⟨bo, oo, none⟩) k co] * (Hp.own FV 1 (.slice (some ⟨bo, oo, none⟩) k co) ps * (bigV ps * (Hp.rec_ Bl2 [.slice al l.length cl] * (Hp.rec_ Bn [.int .i64 n] * (Hp.own SZ 1 (.slice (some ⟨bf, of, none⟩) fr.length cf) fr * (R))))))))) (fun i _ => n - (intOf i).toNat)
        case atStart => exact ⟨0, Nat.zero_le _, rfl, HSAT.out⟩
        case round =>
          obtain ⟨q, hq, rfl, hsat⟩ := hrel
          have q0 : (0 : Int) ≤ (q : Int) := by omega
          by_cases hqt : q < n
          · have hql : q < cur.length := by rw [HCL.out]; exact hqt
            obtain ⟨x, hx⟩ := get_of_lt (show q < px.length by rw [HPXL.out]; exact hqt)
            have hy := jq_get cur px q q hql
            rw [if_neg (by omega)] at hy
            have hxd : px.getD q 0 = x := by rw [List.getD_eq_getElem?_getD, hx]; rfl
            have HQ := Lib.hid (show jq cur px (q + 1) = (jq cur px q).set q (max (cur.getD q 0) x) by rw [jq, hxd])
            have hb := big_sls (hsat.cast (Q := bigV ps * (Hp.own SZ 1 (.slice (some ⟨G, 0, none⟩) n n) (jq cur px q) * (Hp.rec_ Bo [.slice (some ⟨bo, oo, none⟩) k co] * (Hp.own FV 1 (.slice (some ⟨bo, oo, none⟩) k co) ps * (Hp.rec_ Bl2 [.slice al l.length cl] * (Hp.rec_ Bn [.int .i64 n] * (Hp.own SZ 1 (.slice (some ⟨bf, of, none⟩) fr.length cf) fr * (R)))))))) (by ac_rfl)) HPJ.out (by show px.length ≤ _; rw [HPXL.out]; omega)
            obtain ⟨b2, o2, hpa, _, d0⟩ := (show SlS SZ 1 _ (.slice pa px.length pc) px from hb).one.get' hx
            obtain rfl : pa = some ⟨b2, o2, none⟩ := hpa
            obtain ⟨d1, d2⟩ := hsat.cell1 hy rfl
            have HJQ := Lib.hid (show q < (jq cur px q).length by rw [jq_len]; exact hql)
            have H6 := Lib.hid (fun z => hsat.put1 SZ_len (j := q) HJQ.out (u := .int .i64 z) (y := z) rfl)
            have q1 : (q : Int) < (n : Int) := by omega
            simp only [Nat.zero_add] at d1 d2
            clear hb hx hy hxd hsat hql
            generalize cur.getD q 0 = y at *
            have key : (y < x ∧ max y x = x) ∨ (x ≤ y ∧ max y x = y) := by omega
            rcases key with ⟨z1, z2⟩ | ⟨z1, z2⟩
            · rw [z2] at HQ
              have H7 := Lib.hid (H6.out x)
              rw [← HQ.out] at H7
              simp only [Nat.zero_add] at H7
              clear z2
              gi_wp2
              all_goals first | (exfalso; omega) | skip
              go_roundw
              case rel => exact ⟨q + 1, by omega, by go_num, H7.out⟩
              case measure => simp [intOf]; omega
            · rw [z2] at HQ
              have H7 := Lib.hid (H6.out y)
              rw [← HQ.out] at H7
              simp only [Nat.zero_add] at H7
              clear z2
              gi_wp2
              all_goals first | (exfalso; omega) | skip
              go_roundw
              case rel => exact ⟨q + 1, by omega, by go_num, H7.out⟩
              case measure => simp [intOf]; omega
          · obtain rfl : q = n := by omega
            rw [← HT.out] at hsat
            have H7 := Lib.hid hsat
            clear hsat
            gi_wp2
            go_roundw
            case rel => exact ⟨m + 1, by omega, by go_num, H7.out⟩
            case measure => simp [intOf]; omega
      · obtain rfl : m = fr.length := by omega
        rw [List.take_length] at hsat HSAT
        obtain ⟨b0, off, rfl, _, hc⟩ := (HS.out.below hsat.below).el HE.out
        have c1 : wr.cell? ⟨b0, off + k * 3 + 1, none⟩ = some (.int .i64 e.who) := hc 1 _ rfl
        rw [HWH.out.1] at c1
        have hjl := HJL.out fr
        have hjb := HJB.out fr
        obtain ⟨wh, hwh⟩ : ∃ wh, wh = whoN l k := ⟨_, rfl⟩
        have hwl := HWH.out.2
        rw [← hwh] at c1 hwl
        have HNX2 := Lib.hid HNX.out
        rw [← hwh] at HNX2
        have c2 := (hsat.cast (Q := Hp.rec_ Bl2 [.slice (some ⟨b0, off, none⟩) l.length cl] * (Hp.own SZ 1 (.slice (some ⟨G, 0, none⟩) n n) (joins n (vecL l n k) fr) * (Hp.rec_ Bo [.slice ao k co] * (Hp.own FV 1 (.slice ao k co) ps * (bigV ps * (Hp.rec_ Bn [.int .i64 n] * (Hp.own SZ 1 (.slice af fr.length cf) fr * (R)))))))) (by ac_rfl)).cell 0 rfl
        have c3 := hsat.sw.cell 0 rfl
        have n1 : G ≠ Bo := hsat.ne_own
        have n2' : Bo ≠ G := n1.symm
        obtain ⟨y, hy⟩ := get_of_lt (show wh < (joins n (vecL l n k) fr).length by rw [hjl]; exact hwl)
        have hyd : (joins n (vecL l n k) fr).getD wh 0 = y := by rw [List.getD_eq_getElem?_getD, hy]; rfl
        have hyb := hjb y (List.mem_of_getElem? hy)
        obtain ⟨c4, c5⟩ := hsat.cell1 hy rfl
        have h7 := hsat.put1 SZ_len (j := wh) (by rw [hjl]; exact hwl) (u := .int .i64 (y + 1)) (y := y + 1) rfl
        obtain ⟨nv, hnv⟩ : ∃ nv, nv = (joins n (vecL l n k) fr).set wh (y + 1) := ⟨_, rfl⟩
        have HNV := Lib.hid (show nv = bump (joins n (vecL l n k) fr) wh by rw [hnv, bump, hyd])
        have hnl : nv.length = n := by rw [hnv, List.length_set, hjl]
        have HNL := Lib.hid hnl
        rw [← hnv] at h7
        simp only [Nat.zero_add] at c4 c5 h7
        have h8 : Sat W ((wr.setCell ⟨G, wh, none⟩ (.int .i64 (y + 1))).alloc (.cells #[.slice (some ⟨G, 0, none⟩) n n] 23)) (Hp.rec_ wr.heap.size (FV ⟨some ⟨G, 0, none⟩, n, nv⟩) * (Hp.own FV 1 (.slice ao k co) ps * (Hp.own SZ 1 (.slice (some ⟨G, 0, none⟩) n n) nv * (Hp.rec_ Bo [.slice ao k co] * (bigV ps * (Hp.rec_ Bl2 [.slice (some ⟨b0, off, none⟩) l.length cl] * (Hp.rec_ Bn [.int .i64 n] * (Hp.own SZ 1 (.slice af fr.length cf) fr * (R))))))))) := by
          rw [show FV ⟨some ⟨G, 0, none⟩, n, nv⟩ = [.slice (some ⟨G, 0, none⟩) n n] by simp [FV, hnl]]
          exact (h7.cast (by ac_rfl)).allocAt #[.slice (some ⟨G, 0, none⟩) n n] 23 [.slice (some ⟨G, 0, none⟩) n n] rfl (by simp)
        have H8 := Lib.hid h8
        have w0 : (0 : Int) ≤ (wh : Int) := by omega
        have w1' : (wh : Int) < (n : Int) := by omega
        have w2' : (k : Int) < (l.length : Int) := by omega
        obtain ⟨y0, y1⟩ := hyb
        clear hc hwh hy hyd h7 h8 hnv hjl hjb hsat HSAT hm hlt hnl
        gi_wp2_with (gi_at_builtin; (refine wpListIn_pushH rfl (.tmp 56) (.tmp 58) 37 rfl Try.eV FV FV_len FV_one ⟨some ⟨G, 0, none⟩, n, nv⟩ wr.heap.size rfl rfl H8.out (by rw [HPL.out]; omega) (by rw [HPL.out]; omega) ?_; intro v' w6 hs' h'; rw [HPL.out] at hs'; have h9 := h'.cast (Q := Hp.rec_ Bo [.slice ao k co] * (Hp.own SZ 1 (.slice (some ⟨G, 0, none⟩) n n) nv * (Hp.own FV 1 v' (ps ++ [⟨some ⟨G, 0, none⟩, n, nv⟩]) * (bigV ps * (Hp.rec_ Bl2 [.slice (some ⟨b0, off, none⟩) l.length cl] * (Hp.rec_ Bn [.int .i64 n] * (Hp.own SZ 1 (.slice af fr.length cf) fr * (R)))))))) (by ac_rfl); have z0 := h9.cell 0 rfl; have z1 := h9.free 0 rfl; have H9 := Lib.hid (h9.set 0 v'); obtain ⟨g', o', c', rfl⟩ := hs'; clear h' h9))
        have hbig : bigV (ps ++ [⟨some ⟨G, 0, none⟩, n, nv⟩]) = bigV ps * Hp.own SZ 1 (.slice (some ⟨G, 0, none⟩) n n) nv := by
          unfold bigV
          rw [Hp.big_append]
          show _ * (Hp.own SZ 1 (.slice (some ⟨G, 0, none⟩) nv.length n) nv * 1) = _
          rw [Hp.mul_one, HNL.out]
        have hx : Sat W _ (boxV Bo (vecL l n (k + 1)) * (Hp.rec_ Bl2 [.slice (some ⟨b0, off, none⟩) l.length cl] * (Hp.rec_ Bn [.int .i64 n] * (Hp.own SZ 1 (.slice af fr.length cf) fr * R)))) :=
          Sat.exI (.slice (some ⟨g', o', none⟩) (k + 1) c') (Sat.exI (⟨ps ++ [⟨some ⟨G, 0, none⟩, n, nv⟩], by rw [List.map_append, HPS.out, HNX2.out, HNV.out]; rfl⟩ : {ps : List Vc // ps.map Vc.xs = vecL l n (k + 1)}) (H9.out.cast (by rw [hbig]; ac_rfl)))
        exact (hx.cast (Q := Hp.own SZ 1 (.slice af fr.length cf) fr * ((boxV Bo (vecL l n (k + 1)) * (Hp.rec_ Bl2 [.slice (some ⟨b0, off, none⟩) l.length cl] * Hp.rec_ Bn [.int .i64 n])) * R)) (by ac_rfl)).drop
  case hdone =>
    intro D w' hD hs
    have hs1 := hs.cast (Q := boxV Bo (vecL l n l.length) * (Hp.obj D (.deferred (some [])) * (Hp.rec_ Bl2 [.slice al l.length cl] * (Hp.rec_ Bn [.int .i64 n] * (Hp.rec_ Bl [.slice al l.length cl] * 1))))) (by ac_rfl)
    obtain ⟨vo, hs1⟩ := Sat.ex hs1
    obtain ⟨⟨ps, hps⟩, hs1⟩ := Sat.ex hs1
    have h1 := hs1.assoc
    have c0 := h1.cell 0 rfl
    have H5 := Lib.hid (hs1.cast (Q := Hp.obj D (.deferred (some [])) * (Hp.own FV 1 vo ps * (bigV ps * (Hp.rec_ Bo [vo] * (Hp.rec_ Bl2 [.slice al l.length cl] * (Hp.rec_ Bn [.int .i64 n] * (Hp.rec_ Bl [.slice al l.length cl] * 1))))))) (by ac_rfl))
    have HPS := Lib.hid hps
    obtain ⟨ao, co, rfl, _⟩ := (h1.drop.assoc).ows.form
    clear hs hs1 h1
    go_wp2_with fail
    refine marks_ret (v := .slice ao ps.length co) H5.out (fun w' => by simp [results, Try.f28]) fun w9 h9 => ?_
    exact ⟨_, rfl, ps, HPS.out, _, h9.drop⟩
end Go.Proofs.Ytffnjojdjbdfcaa
