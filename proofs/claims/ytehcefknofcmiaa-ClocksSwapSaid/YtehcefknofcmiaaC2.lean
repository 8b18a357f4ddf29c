/- Before: is an event before another one? The walk. No condition. -/
import Derived.Test.YtehcefknofcmiaaC1
namespace Go.Proofs.Ytehcefknofcmiaa
open Go.RowKit
set_option linter.unusedVariables false
set_option maxRecDepth 100000

/-- a row's number -/
def atV (V : List (List Int)) (i w : Nat) : Int := (V.getD i []).getD w 0
/-- is i before j, by what is known? -/
def befB (n : Nat) (l : List Ev) (i j : Nat) : Bool := decide (i ≠ j ∧ atV (vecL l n l.length) i (whoN l i) ≤ atV (vecL l n l.length) j (whoN l i))
theorem atV_of {V : List (List Int)} {i w : Nat} {r : List Int} {x : Int} (h : V[i]? = some r) (hx : r[w]? = some x) : atV V i w = x := by
  simp [atV, List.getD_eq_getElem?_getD, h, hx]
theorem whoN_of {l : List Ev} {i : Nat} {e : Ev} (h : l[i]? = some e) : whoN l i = e.who.toNat := by unfold whoN; rw [h]
theorem vectors_vs {W : World} {v : Value} {l : List Ev} (n : Nat) (h : SlS FE 3 W v l) (hok : OkE n l) :
    Calls Try.prog 20 #[.int .i64 n, v] W fun e w' => ∃ ov, e = .returned ov ∧ Vs w' ov (vecL l n l.length) ∧ Below W.heap.size W w' := by
  refine (vectors_any n h hok).mono ?_
  rintro e w' ⟨ov, rfl, ps, hps, Z, H⟩
  have hlp : ps.length = l.length := by rw [← List.length_map (f := Vc.xs), hps, vecL_len]
  refine ⟨ov, rfl, ⟨ps, hps, H.sls (by rw [hlp]; have := hok.few; omega), fun p hp => ?_⟩, H.below⟩
  obtain ⟨j, hj⟩ := List.getElem?_of_mem hp
  refine big_sls H.drop hj ?_
  have : p.xs ∈ vecL l n l.length := by rw [← hps]; exact List.mem_map.2 ⟨p, hp, rfl⟩
  rw [vecL_each l n _ _ this]; have := hok.high; omega
theorem check_ok {W : World} {v : Value} {l : List Ev} (n : Int) (h : SlS FE 3 W v l) (hok : OkE n l) : Calls Try.prog 10 #[.int .i64 n, v] W fun e w' => e = .returned (.int .i64 0) ∧ Below W.heap.size W w' := by
  refine (check_any n h).mono ?_
  rintro e w' ⟨⟨c, rfl, hc⟩, hb⟩
  rw [hc.2 hok]; exact ⟨rfl, hb⟩
theorem check_no {W : World} {v : Value} {l : List Ev} (n : Int) (h : SlS FE 3 W v l) (hok : ¬ OkE n l) : Calls Try.prog 10 #[.int .i64 n, v] W fun e w' => ∃ u, e = .returned u ∧ (∃ c : Int, u = .int .i64 c ∧ c ≠ 0) ∧ Below W.heap.size W w' := by
  refine (check_any n h).mono ?_
  rintro e w' ⟨⟨c, rfl, hc⟩, hb⟩
  exact ⟨_, rfl, ⟨c, rfl, fun e => hok (hc.1 e)⟩, hb⟩
theorem len_bd {W : World} {v : Value} {α : Type} {f : α → List Value} {sz : Nat} {xs : List α} (h : SlS f sz W v xs) : xs.length ≤ 140737488355328 := by obtain ⟨_, _, _, hm, _⟩ := h; exact hm
theorem inB_yes {n i : Nat} (h : i < n) : inB n i = true := by unfold inB; simp; omega
theorem befB_same {n : Nat} {l : List Ev} {i j : Nat} (h : i = j) : befB n l i j = false := by unfold befB; simp [h]
theorem befB_ne {n : Nat} {l : List Ev} {i j : Nat} {e : Ev} {r s : List Int} {x y : Int} (h : i ≠ j) (he : l[i]? = some e) (hr : (vecL l n l.length)[i]? = some r) (hs : (vecL l n l.length)[j]? = some s) (hx : r[e.who.toNat]? = some x) (hy : s[e.who.toNat]? = some y) : befB n l i j = decide (x ≤ y) := by
  unfold befB
  rw [whoN_of he, atV_of hr hx, atV_of hs hy]
  simp [h]
theorem rec_sz {W w : World} {b : Nat} {x : Int} {R : Hp} (H : Sat W w (Hp.rec_ b [.int .i64 x] * R)) : SlS SZ 1 w (.slice (some ⟨b, 0, none⟩) 1 1) [x] := by
  refine ⟨_, 1, rfl, by simp, ⟨(fun h => by cases h), Nat.le_refl _⟩, fun j y hy => ⟨b, 0, rfl, H.rec_.1, fun i u hu => ?_⟩⟩
  match j, i with
  | 0, 0 => simp at hy hu; subst hy; subst hu; exact H.cell 0 rfl
  | 0, i + 1 => simp at hu
  | j + 1, _ => simp at hy
theorem contains1 {P : Program} {f : FuncId} {args : Array Value} {W : World} {n : Nat} {x : Int} (h : Calls P f args W fun e w' => e = .returned (.bool (decide (0 ≤ firstI (inB n) [x]))) ∧ Below W.heap.size W w') : Calls P f args W fun e w' => e = .returned (.bool (inB n x)) ∧ Below W.heap.size W w' := by
  have : decide (0 ≤ firstI (inB n) [x]) = inB n x := by unfold firstI firstI; cases inB n x <;> simp
  rw [this] at h; exact h
theorem before_ok {W : World} {v : Value} {l : List Ev} (n i j : Nat) (hs : SlS FE 3 W v l) (hok : OkE n l) (hi : i < l.length) (hj : j < l.length) :
    Calls Try.prog 16 #[.int .i64 n, v, .int .i64 i, .int .i64 j] W fun e w' => e = .returned (.tuple #[.bool (befB n l i j), .int .i64 0]) ∧ Below W.heap.size W w' := by
  have hm := len_bd hs
  obtain ⟨e, he⟩ := get_of_lt hi
  obtain ⟨_, hw0, hwn, _⟩ := hok.all i e he
  have hn := hok.low
  refine calls_pure (Gx.enter (l := []) Try.func16 rfl Try.ntmps16 rfl (Sat.start W) ?_)
  refine Gx.know (m' := [(0, .int .i64 ((n : Nat) : Int)), (1, v), (2, .int .i64 ((i : Nat) : Int)), (3, .int .i64 ((j : Nat) : Int))]) (.cons rfl (.cons rfl (.cons rfl (.cons rfl .nil)))) ?_
  refine Gx.seq ?_
  refine Gx.region ?_
  refine Gx.eff rfl rfl rfl (eff_box rfl rfl (vs := [v]) hs.isS.cellsL) ?_
  rintro _ _ ⟨b1, rfl, rfl⟩
  refine Gx.val rfl rfl rfl (val_assign rfl rfl) ?_
  refine Gx.val rfl rfl rfl (val_assign rfl rfl) ?_
  refine Gx.done ?_
  refine Gx.thenN ?_
  refine Gx.seq ?_
  refine Gx.seq ?_
  refine Gx.region ?_
  refine Gx.val rfl rfl rfl (val_move rfl rfl) ?_
  refine Gx.val rfl rfl rfl (val_load rfl Try.ty22 rfl rfl (cell_rec (k := 0) rfl rfl)) ?_
  refine Gx.val rfl rfl rfl (val_call (vs := [.int .i64 ((n : Nat) : Int), v]) rfl Try.fn10 rfl (fun w H => check_ok n (hs.below H.below) hok)) ?_
  refine Gx.val rfl rfl rfl (val_assign rfl rfl) ?_
  refine Gx.done ?_
  refine Gx.thenN ?_
  refine Gx.seq ?_
  refine Gx.region ?_
  refine Gx.val rfl rfl rfl (val_move rfl rfl) ?_
  refine Gx.val rfl rfl rfl (Val.cast (val_neq rfl rfl rfl) (v' := .bool false) rfl) ?_
  refine Gx.done ?_
  refine Gx.thenN ?_
  refine Gx.f rfl ?_
  refine Gx.skip ?_
  refine Gx.thenN ?_
  refine Gx.seq ?_
  refine Gx.region ?_
  refine Gx.val rfl rfl rfl (Val.cast (val_makeFunc (us := []) (vs := [ptr b1 0]) rfl rfl rfl) (v' := .func (.func 22) #[] #[ptr b1 0]) rfl) ?_
  refine Gx.val rfl rfl rfl (val_assign rfl rfl) ?_
  refine Gx.done ?_
  refine Gx.thenN ?_
  refine Gx.seq ?_
  refine Gx.seq ?_
  refine Gx.region ?_
  refine Gx.val rfl rfl rfl (val_move rfl rfl) ?_
  refine Gx.eff rfl rfl rfl (eff_buildSlice rfl (qs := [(0, .int .i64 ((i : Nat) : Int))]) rfl rfl (cs := #[.int .i64 ((i : Nat) : Int)]) (vs := [.int .i64 ((i : Nat) : Int)]) (E := 3) rfl (fun w => by first | (go_simp; done) | (go_simp; rfl))) ?_
  rintro _ _ ⟨b2, rfl, rfl⟩
  refine Gx.val rfl rfl rfl (val_move rfl rfl) ?_
  refine Gx.val rfl rfl rfl (val_call (vs := [.slice (some ⟨b2, 0, none⟩) 1 1, .func (.func 22) #[] #[ptr b1 0]]) rfl Try.fn23 rfl (fun w H => (contains1 (contains_any (H.at_ (k := 1) rfl).rec_.1 ((H.at_ (k := 1) rfl).cell 0 (u := v) rfl) (hs.below H.below) (rec_sz (H.at_ (k := 0) rfl)))))) ?_
  refine Gx.val rfl rfl rfl (val_not rfl rfl) ?_
  refine Gx.val rfl rfl rfl (val_move rfl rfl) ?_
  refine Gx.slot (t := 25) (v := .bool false) (look_boolF rfl (by rw [inB_yes hi]; rfl)) ?_
  refine Gx.valg rfl rfl rfl rfl rfl (val_move rfl rfl) ?_
  refine Gx.valg rfl rfl rfl rfl rfl (val_move rfl rfl) ?_
  refine Gx.valg rfl rfl rfl rfl rfl (val_callV (vs := [.int .i64 ((j : Nat) : Int)]) (fs := []) (cs := [ptr b1 0]) rfl Try.fn22 rfl rfl (fun w H => inB_any ((j : Nat) : Int) (H.at_ (k := 1) rfl).rec_.1 ((H.at_ (k := 1) rfl).cell 0 (u := v) rfl) (hs.below H.below))) ?_
  refine Gx.valg rfl rfl rfl rfl rfl (val_not rfl rfl) ?_
  refine Gx.val rfl rfl rfl (val_pickF rfl rfl rfl) ?_
  refine Gx.done ?_
  refine Gx.thenN ?_
  refine Gx.boolF rfl (by rw [inB_yes hj]; rfl) ?_
  refine Gx.skip ?_
  refine Gx.thenN ?_
  refine Gx.seq ?_
  refine Gx.region ?_
  refine Gx.val rfl rfl rfl (val_move rfl rfl) ?_
  refine Gx.val rfl rfl rfl (val_load rfl Try.ty22 rfl rfl (cell_rec (k := 1) rfl rfl)) ?_
  refine Gx.callB rfl rfl rfl (vs := [.int .i64 ((n : Nat) : Int), v]) rfl Try.fn20 rfl (R := fun v w => Vs w v (vecL l n l.length)) (fun w H => vectors_vs n (hs.below H.below) hok) ?_
  rintro ov W4 ⟨ps3, hps3, hvps3, hrps3⟩ H5
  have hW6 := H5.below
  have hs7 := hs.below H5.below
  have hb8 := (H5.at_ (k := 0) rfl).rec_.1
  have hc9 := (H5.at_ (k := 0) rfl).cell 0 (u := .int .i64 ((i : Nat) : Int)) rfl
  have hb10 := (H5.at_ (k := 1) rfl).rec_.1
  have hc11 := (H5.at_ (k := 1) rfl).cell 0 (u := v) rfl
  have hlps3 : ps3.length = l.length := by rw [← List.length_map (f := Vc.xs), hps3, vecL_len]
  refine Gx.val rfl rfl rfl (val_assign rfl rfl) ?_
  refine Gx.done ?_
  refine Gx.thenN ?_
  refine Gx.seq ?_
  refine Gx.regionQ Try.mixed (by kernel_rfl) ?_
  refine Gq.val rfl rfl rfl (val_move rfl rfl) ?_
  refine Gq.val rfl rfl rfl (val_move rfl rfl) ?_
  refine Gq.val rfl rfl rfl (val_neq rfl rfl rfl) ?_
  refine Gq.val rfl rfl rfl (val_move rfl rfl) ?_
  refine Gq.cases (t := 37) rfl (fun h12 => ?_) (fun h12 => ?_)
  · refine Gq.valg rfl rfl rfl rfl rfl (val_move rfl rfl) ?_
    refine Gq.valg rfl rfl rfl rfl rfl (val_move rfl rfl) ?_
    obtain ⟨x13, hx13⟩ := get_of_lt (xs := ps3) (k := i) (by omega)
    have hrli : x13.xs.length = n := vecL_each l n _ _ (by rw [← hps3]; exact List.mem_map.2 ⟨_, List.mem_of_getElem? hx13, rfl⟩)
    refine Gq.valg rfl rfl rfl rfl rfl (val_ixa rfl Try.underlying26 Try.ty32 rfl rfl (j := i) (rfl) (reach_base hvps3 hx13)) ?_
    refine Gq.valg rfl rfl rfl rfl rfl (val_load rfl Try.ty32 rfl rfl (cell_base (i := 0) hvps3 hx13 rfl)) ?_
    have hr14 := hrps3 _ (List.mem_of_getElem? hx13)
    refine Gq.valg rfl rfl rfl rfl rfl (val_load rfl Try.ty22 rfl rfl (cell_old hb10 hc11)) ?_
    refine Gq.valg rfl rfl rfl rfl rfl (val_move rfl rfl) ?_
    refine Gq.valg rfl rfl rfl rfl rfl (val_ixa rfl Try.underlying22 Try.ty30 rfl rfl (j := i) (rfl) (reach_base hs7 he)) ?_
    refine Gq.valg rfl rfl rfl rfl rfl (Val.cast (val_fieldAddr rfl Try.underlying30 rfl Try.ty3 rfl rfl) (v' := ptr (sB v) (sO v + i * 3 + 1)) rfl) ?_
    refine Gq.valg rfl rfl rfl rfl rfl (val_load rfl Try.ty3 rfl rfl (cell_base (i := 1) hs7 he rfl)) ?_
    obtain ⟨x15, hx15⟩ := get_of_lt (xs := x13.xs) (k := e.who.toNat) (by omega)
    refine Gq.valg rfl rfl rfl rfl rfl (val_ixa rfl Try.underlying32 Try.ty3 rfl rfl (j := e.who.toNat) (by omega) (reach_base hr14 hx15)) ?_
    refine Gq.valg rfl rfl rfl rfl rfl (val_load rfl Try.ty3 rfl rfl (cell_base (i := 0) hr14 hx15 rfl)) ?_
    refine Gq.valg rfl rfl rfl rfl rfl (val_move rfl rfl) ?_
    refine Gq.valg rfl rfl rfl rfl rfl (val_move rfl rfl) ?_
    obtain ⟨x16, hx16⟩ := get_of_lt (xs := ps3) (k := j) (by omega)
    have hrlj : x16.xs.length = n := vecL_each l n _ _ (by rw [← hps3]; exact List.mem_map.2 ⟨_, List.mem_of_getElem? hx16, rfl⟩)
    refine Gq.valg rfl rfl rfl rfl rfl (val_ixa rfl Try.underlying26 Try.ty32 rfl rfl (j := j) (rfl) (reach_base hvps3 hx16)) ?_
    refine Gq.valg rfl rfl rfl rfl rfl (val_load rfl Try.ty32 rfl rfl (cell_base (i := 0) hvps3 hx16 rfl)) ?_
    have hr17 := hrps3 _ (List.mem_of_getElem? hx16)
    refine Gq.valg rfl rfl rfl rfl rfl (val_load rfl Try.ty22 rfl rfl (cell_old hb10 hc11)) ?_
    refine Gq.valg rfl rfl rfl rfl rfl (val_move rfl rfl) ?_
    refine Gq.valg rfl rfl rfl rfl rfl (val_ixa rfl Try.underlying22 Try.ty30 rfl rfl (j := i) (rfl) (reach_base hs7 he)) ?_
    refine Gq.valg rfl rfl rfl rfl rfl (Val.cast (val_fieldAddr rfl Try.underlying30 rfl Try.ty3 rfl rfl) (v' := ptr (sB v) (sO v + i * 3 + 1)) rfl) ?_
    refine Gq.valg rfl rfl rfl rfl rfl (val_load rfl Try.ty3 rfl rfl (cell_base (i := 1) hs7 he rfl)) ?_
    obtain ⟨x18, hx18⟩ := get_of_lt (xs := x16.xs) (k := e.who.toNat) (by omega)
    refine Gq.valg rfl rfl rfl rfl rfl (val_ixa rfl Try.underlying32 Try.ty3 rfl rfl (j := e.who.toNat) (by omega) (reach_base hr17 hx18)) ?_
    refine Gq.valg rfl rfl rfl rfl rfl (val_load rfl Try.ty3 rfl rfl (cell_base (i := 0) hr17 hx18 rfl)) ?_
    refine Gq.valg rfl rfl rfl rfl rfl (val_leq rfl rfl rfl) ?_
    refine Gq.val rfl rfl rfl (val_pickT rfl rfl rfl) ?_
    refine Gq.val rfl rfl rfl (val_assign rfl rfl) ?_
    refine Gq.val rfl rfl rfl (val_assign rfl rfl) ?_
    refine Gq.done ?_
    refine Gx.thenN ?_
    refine Gx.ret ?_
    refine Gx.ret2B hW6 Try.results16 rfl rfl ?_
    rw [befB_ne (by omega) he (by rw [← hps3, List.getElem?_map, hx13]; rfl) (by rw [← hps3, List.getElem?_map, hx16]; rfl) hx15 hx18]
  · refine Gq.skipg rfl rfl rfl rfl rfl rfl ?_
    refine Gq.skipg rfl rfl rfl rfl rfl rfl ?_
    obtain ⟨x19, hx19⟩ := get_of_lt (xs := ps3) (k := i) (by omega)
    have hrli : x19.xs.length = n := vecL_each l n _ _ (by rw [← hps3]; exact List.mem_map.2 ⟨_, List.mem_of_getElem? hx19, rfl⟩)
    refine Gq.skipg rfl rfl rfl rfl rfl rfl ?_
    refine Gq.skipg rfl rfl rfl rfl rfl rfl ?_
    refine Gq.skipg rfl rfl rfl rfl rfl rfl ?_
    refine Gq.skipg rfl rfl rfl rfl rfl rfl ?_
    refine Gq.skipg rfl rfl rfl rfl rfl rfl ?_
    refine Gq.skipg rfl rfl rfl rfl rfl rfl ?_
    refine Gq.skipg rfl rfl rfl rfl rfl rfl ?_
    refine Gq.skipg rfl rfl rfl rfl rfl rfl ?_
    refine Gq.skipg rfl rfl rfl rfl rfl rfl ?_
    refine Gq.skipg rfl rfl rfl rfl rfl rfl ?_
    refine Gq.skipg rfl rfl rfl rfl rfl rfl ?_
    obtain ⟨x20, hx20⟩ := get_of_lt (xs := ps3) (k := j) (by omega)
    have hrlj : x20.xs.length = n := vecL_each l n _ _ (by rw [← hps3]; exact List.mem_map.2 ⟨_, List.mem_of_getElem? hx20, rfl⟩)
    refine Gq.skipg rfl rfl rfl rfl rfl rfl ?_
    refine Gq.skipg rfl rfl rfl rfl rfl rfl ?_
    refine Gq.skipg rfl rfl rfl rfl rfl rfl ?_
    refine Gq.skipg rfl rfl rfl rfl rfl rfl ?_
    refine Gq.skipg rfl rfl rfl rfl rfl rfl ?_
    refine Gq.skipg rfl rfl rfl rfl rfl rfl ?_
    refine Gq.skipg rfl rfl rfl rfl rfl rfl ?_
    refine Gq.skipg rfl rfl rfl rfl rfl rfl ?_
    refine Gq.skipg rfl rfl rfl rfl rfl rfl ?_
    refine Gq.skipg rfl rfl rfl rfl rfl rfl ?_
    refine Gq.val rfl rfl rfl (val_pickF rfl rfl rfl) ?_
    refine Gq.val rfl rfl rfl (val_assign rfl rfl) ?_
    refine Gq.val rfl rfl rfl (val_assign rfl rfl) ?_
    refine Gq.done ?_
    refine Gx.thenN ?_
    refine Gx.ret ?_
    refine Gx.ret2B hW6 Try.results16 rfl rfl ?_
    rw [befB_same (by omega)]

theorem before_out {W : World} {v : Value} {l : List Ev} (n i j : Int) (hs : SlS FE 3 W v l) (hok : OkE n l) (hns : ¬ (0 ≤ i ∧ i < l.length ∧ 0 ≤ j ∧ j < l.length)) :
    Calls Try.prog 16 #[.int .i64 n, v, .int .i64 i, .int .i64 j] W fun e w' => ∃ u, e = .returned u ∧ (∃ b c, u = .tuple #[.bool b, .int .i64 c] ∧ c ≠ 0) ∧ Below W.heap.size W w' := by
  have hm := len_bd hs
  refine calls_rel (R := fun v => ∃ b c, v = .tuple #[.bool b, .int .i64 c] ∧ c ≠ 0) (Gx.enter (l := []) Try.func16 rfl Try.ntmps16 rfl (Sat.start W) ?_)
  refine Gx.know (m' := [(0, .int .i64 n), (1, v), (2, .int .i64 i), (3, .int .i64 j)]) (.cons rfl (.cons rfl (.cons rfl (.cons rfl .nil)))) ?_
  refine Gx.seq ?_
  refine Gx.region ?_
  refine Gx.eff rfl rfl rfl (eff_box rfl rfl (vs := [v]) hs.isS.cellsL) ?_
  rintro _ _ ⟨b1, rfl, rfl⟩
  refine Gx.val rfl rfl rfl (val_assign rfl rfl) ?_
  refine Gx.val rfl rfl rfl (val_assign rfl rfl) ?_
  refine Gx.done ?_
  refine Gx.thenN ?_
  refine Gx.seq ?_
  refine Gx.seq ?_
  refine Gx.region ?_
  refine Gx.val rfl rfl rfl (val_move rfl rfl) ?_
  refine Gx.val rfl rfl rfl (val_load rfl Try.ty22 rfl rfl (cell_rec (k := 0) rfl rfl)) ?_
  refine Gx.val rfl rfl rfl (val_call (vs := [.int .i64 n, v]) rfl Try.fn10 rfl (fun w H => check_ok n (hs.below H.below) hok)) ?_
  refine Gx.val rfl rfl rfl (val_assign rfl rfl) ?_
  refine Gx.done ?_
  refine Gx.thenN ?_
  refine Gx.seq ?_
  refine Gx.region ?_
  refine Gx.val rfl rfl rfl (val_move rfl rfl) ?_
  refine Gx.val rfl rfl rfl (Val.cast (val_neq rfl rfl rfl) (v' := .bool false) rfl) ?_
  refine Gx.done ?_
  refine Gx.thenN ?_
  refine Gx.f rfl ?_
  refine Gx.skip ?_
  refine Gx.thenN ?_
  refine Gx.seq ?_
  refine Gx.region ?_
  refine Gx.val rfl rfl rfl (Val.cast (val_makeFunc (us := []) (vs := [ptr b1 0]) rfl rfl rfl) (v' := .func (.func 22) #[] #[ptr b1 0]) rfl) ?_
  refine Gx.val rfl rfl rfl (val_assign rfl rfl) ?_
  refine Gx.done ?_
  refine Gx.thenN ?_
  refine Gx.seq ?_
  refine Gx.seq ?_
  refine Gx.region ?_
  refine Gx.val rfl rfl rfl (val_move rfl rfl) ?_
  refine Gx.eff rfl rfl rfl (eff_buildSlice rfl (qs := [(0, .int .i64 i)]) rfl rfl (cs := #[.int .i64 i]) (vs := [.int .i64 i]) (E := 3) rfl (fun w => by first | (go_simp; done) | (go_simp; rfl))) ?_
  rintro _ _ ⟨b2, rfl, rfl⟩
  refine Gx.val rfl rfl rfl (val_move rfl rfl) ?_
  refine Gx.val rfl rfl rfl (val_call (vs := [.slice (some ⟨b2, 0, none⟩) 1 1, .func (.func 22) #[] #[ptr b1 0]]) rfl Try.fn23 rfl (fun w H => (contains1 (contains_any (H.at_ (k := 1) rfl).rec_.1 ((H.at_ (k := 1) rfl).cell 0 (u := v) rfl) (hs.below H.below) (rec_sz (H.at_ (k := 0) rfl)))))) ?_
  refine Gx.val rfl rfl rfl (val_not rfl rfl) ?_
  refine Gx.val rfl rfl rfl (val_move rfl rfl) ?_
  refine Gx.casesB (t := 25) rfl (fun h3 => ?_) (fun h3 => ?_)
  · refine Gx.skipg rfl rfl rfl rfl rfl rfl ?_
    refine Gx.skipg rfl rfl rfl rfl rfl rfl ?_
    refine Gx.skipg rfl rfl rfl rfl rfl rfl ?_
    refine Gx.skipg rfl rfl rfl rfl rfl rfl ?_
    refine Gx.val rfl rfl rfl (val_pickT rfl rfl rfl) ?_
    refine Gx.done ?_
    refine Gx.thenN ?_
    refine Gx.t rfl ?_
    refine Gx.seq ?_
    refine Gx.region ?_
    refine Gx.val rfl rfl rfl (val_assign rfl rfl) ?_
    refine Gx.val rfl rfl rfl (val_assign rfl rfl) ?_
    refine Gx.done ?_
    refine Gx.thenN ?_
    refine Gx.ret ?_
    refine Gx.thenR ?_
    refine Gx.ret2 Try.results16 rfl rfl ?_
    exact ⟨_, _, rfl, by decide⟩
  · refine Gx.valg rfl rfl rfl rfl rfl (val_move rfl rfl) ?_
    refine Gx.valg rfl rfl rfl rfl rfl (val_move rfl rfl) ?_
    refine Gx.valg rfl rfl rfl rfl rfl (val_callV (vs := [.int .i64 j]) (fs := []) (cs := [ptr b1 0]) rfl Try.fn22 rfl rfl (fun w H => inB_any j (H.at_ (k := 1) rfl).rec_.1 ((H.at_ (k := 1) rfl).cell 0 (u := v) rfl) (hs.below H.below))) ?_
    refine Gx.valg rfl rfl rfl rfl rfl (val_not rfl rfl) ?_
    refine Gx.val rfl rfl rfl (val_pickF rfl rfl rfl) ?_
    refine Gx.done ?_
    refine Gx.thenN ?_
    refine Gx.bool rfl (fun h4 => ?_) (fun h4 => ?_)
    · refine Gx.seq ?_
      refine Gx.region ?_
      refine Gx.val rfl rfl rfl (val_assign rfl rfl) ?_
      refine Gx.val rfl rfl rfl (val_assign rfl rfl) ?_
      refine Gx.done ?_
      refine Gx.thenN ?_
      refine Gx.ret ?_
      refine Gx.thenR ?_
      refine Gx.ret2 Try.results16 rfl rfl ?_
      exact ⟨_, _, rfl, by decide⟩
    · exfalso
      have hq := hns
      unfold inB at *
      simp at *
      omega

theorem before_bad {W : World} {v : Value} {l : List Ev} (n i j : Int) (hs : SlS FE 3 W v l) (hok : ¬ OkE n l) :
    Calls Try.prog 16 #[.int .i64 n, v, .int .i64 i, .int .i64 j] W fun e w' => ∃ u, e = .returned u ∧ (∃ b c, u = .tuple #[.bool b, .int .i64 c] ∧ c ≠ 0) ∧ Below W.heap.size W w' := by
  have hm := len_bd hs
  refine calls_rel (R := fun v => ∃ b c, v = .tuple #[.bool b, .int .i64 c] ∧ c ≠ 0) (Gx.enter (l := []) Try.func16 rfl Try.ntmps16 rfl (Sat.start W) ?_)
  refine Gx.know (m' := [(0, .int .i64 n), (1, v), (2, .int .i64 i), (3, .int .i64 j)]) (.cons rfl (.cons rfl (.cons rfl (.cons rfl .nil)))) ?_
  refine Gx.seq ?_
  refine Gx.region ?_
  refine Gx.eff rfl rfl rfl (eff_box rfl rfl (vs := [v]) hs.isS.cellsL) ?_
  rintro _ _ ⟨b1, rfl, rfl⟩
  refine Gx.val rfl rfl rfl (val_assign rfl rfl) ?_
  refine Gx.val rfl rfl rfl (val_assign rfl rfl) ?_
  refine Gx.done ?_
  refine Gx.thenN ?_
  refine Gx.seq ?_
  refine Gx.seq ?_
  refine Gx.region ?_
  refine Gx.val rfl rfl rfl (val_move rfl rfl) ?_
  refine Gx.val rfl rfl rfl (val_load rfl Try.ty22 rfl rfl (cell_rec (k := 0) rfl rfl)) ?_
  refine Gx.eff rfl rfl rfl (eff_callE (vs := [.int .i64 n, v]) rfl Try.fn10 rfl (R := fun u => ∃ c : Int, u = .int .i64 c ∧ c ≠ 0) (fun w H => check_no n (hs.below H.below) hok)) ?_
  rintro _ _ ⟨⟨c2, rfl, hc2⟩, rfl⟩
  refine Gx.val rfl rfl rfl (val_assign rfl rfl) ?_
  refine Gx.done ?_
  refine Gx.thenN ?_
  refine Gx.seq ?_
  refine Gx.region ?_
  refine Gx.val rfl rfl rfl (val_move rfl rfl) ?_
  refine Gx.val rfl rfl rfl (val_neq rfl rfl rfl) ?_
  refine Gx.done ?_
  refine Gx.thenN ?_
  refine Gx.decT rfl (by assumption) ?_
  refine Gx.seq ?_
  refine Gx.region ?_
  refine Gx.val rfl rfl rfl (val_move rfl rfl) ?_
  refine Gx.val rfl rfl rfl (val_assign rfl rfl) ?_
  refine Gx.val rfl rfl rfl (val_assign rfl rfl) ?_
  refine Gx.done ?_
  refine Gx.thenN ?_
  refine Gx.ret ?_
  refine Gx.thenR ?_
  refine Gx.ret2 Try.results16 rfl rfl ?_
  exact ⟨_, _, rfl, by assumption⟩

end Go.Proofs.Ytehcefknofcmiaa
