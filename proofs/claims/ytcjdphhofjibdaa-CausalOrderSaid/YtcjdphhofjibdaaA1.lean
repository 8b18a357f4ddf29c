/- slices.BinarySearch, Delete, Insert of a number: by the shelf's contracts, turned to parts of memory. No condition. -/
import Derived.Test.YtcjdphhofjibdaaD1
import Derived.Shelf.Slices.SearchI
import Derived.Shelf.Slices.Cells
import Derived.Shelf.Slices.Empties
import Derived.Shelf.Spec.SlicesInsert
import Derived.Shelf.Spec.SlicesInsertGrow
import Derived.Ground.Names2Prog
namespace Go.Proofs.Ytcjdphhofjibdaa
open Go.RowKit Go.Shelf
set_option linter.unusedVariables false
set_option linter.unusedSimpArgs false
set_option maxRecDepth 100000

def Try.searchA_ren : Go.Shelf.Ren := ⟨fun | 25 => 18 | 31 => 21 | 32 => 22 | 37 => 29 | n => n, fun | 22 => 30 | 3 => 3 | 4 => 4 | 40 => 59 | 0 => 0 | n => n, fun | n => n⟩
theorem Try.searchA : Go.Proofs.Lays2.n25 Try.prog Try.searchA_ren := {
  mixed := by kernel_rfl
  f25 := Try.func18.trans (congrArg some (by kernel_rfl))
  f31 := Try.func21.trans (congrArg some (by kernel_rfl))
  f32 := Try.func22.trans (congrArg some (by kernel_rfl))
  f37 := Try.func29.trans (congrArg some (by kernel_rfl))
  t0 := Try.underlying0
  a0 := Try.isAgg0
  z0 := Try.sizeOf0
  v0 := Try.zeroValue0
  t3 := Try.underlying3
  a3 := Try.isAgg3
  z3 := Try.sizeOf3
  v3 := Try.zeroValue3
  t4 := Try.underlying4
  a4 := Try.isAgg4
  z4 := Try.sizeOf4
  v4 := Try.zeroValue4
  t22 := Try.underlying30
  a22 := Try.isAgg30
  z22 := Try.sizeOf30
  v22 := Try.zeroValue30
  t40 := Try.underlying59
  a40 := Try.isAgg59
  z40 := Try.sizeOf59
  v40 := Try.zeroValue59 }
def Try.deleteA_ren : Go.Shelf.Ren := ⟨fun | 23 => 28 | n => n, fun | 22 => 30 | 3 => 3 | 4 => 4 | 0 => 0 | n => n, fun | n => n⟩
theorem Try.deleteA : Go.Proofs.Lays2.n23 Try.prog Try.deleteA_ren := {
  mixed := by kernel_rfl
  f23 := Try.func28.trans (congrArg some (by kernel_rfl))
  t0 := Try.underlying0
  a0 := Try.isAgg0
  z0 := Try.sizeOf0
  v0 := Try.zeroValue0
  t3 := Try.underlying3
  a3 := Try.isAgg3
  z3 := Try.sizeOf3
  v3 := Try.zeroValue3
  t4 := Try.underlying4
  a4 := Try.isAgg4
  z4 := Try.sizeOf4
  v4 := Try.zeroValue4
  t22 := Try.underlying30
  a22 := Try.isAgg30
  z22 := Try.sizeOf30
  v22 := Try.zeroValue30
  i3 := by kernel_rfl }
def Try.insertA_ren : Go.Shelf.Ren := ⟨fun | 21 => 19 | 27 => 23 | 28 => 24 | 35 => 30 | 39 => 31 | n => n, fun | 22 => 30 | 3 => 3 | 4 => 4 | 0 => 0 | n => n, fun | n => n⟩
theorem Try.insertA : Go.Proofs.Lays2.n21 Try.prog Try.insertA_ren := {
  mixed := by kernel_rfl
  f21 := Try.func19.trans (congrArg some (by kernel_rfl))
  f27 := Try.func23.trans (congrArg some (by kernel_rfl))
  f28 := Try.func24.trans (congrArg some (by kernel_rfl))
  f35 := Try.func30.trans (congrArg some (by kernel_rfl))
  f39 := Try.func31.trans (congrArg some (by kernel_rfl))
  t0 := Try.underlying0
  a0 := Try.isAgg0
  z0 := Try.sizeOf0
  v0 := Try.zeroValue0
  t3 := Try.underlying3
  a3 := Try.isAgg3
  z3 := Try.sizeOf3
  v3 := Try.zeroValue3
  t4 := Try.underlying4
  a4 := Try.isAgg4
  z4 := Try.sizeOf4
  v4 := Try.zeroValue4
  t22 := Try.underlying30
  a22 := Try.isAgg30
  z22 := Try.sizeOf30
  v22 := Try.zeroValue30
  i3 := by kernel_rfl }
abbrev zI (xs : List Nat) : List Int := xs.map fun i : Nat => (i : Int)
theorem zI_getD (xs : List Nat) (j : Nat) (hj : j < xs.length) {x : Nat} (hx : xs[j]? = some x) : (zI xs).getD j 0 = (x : Int) := by
  rw [List.getD_eq_getElem?_getD, List.getElem?_map, hx]; rfl
theorem zI_cnt (xs : List Nat) (m : Nat) : (zI xs).countP (fun z => decide (z < (m : Int))) = cntL xs m := by
  unfold cntL zI
  rw [List.countP_map]
  congr 1; funext i; simp
theorem search_any {W w : World} {wv : Value} {xs : List Nat} {m : Nat} {R : Hp} (hs : xs.Pairwise (· ≤ ·)) (hl : xs.length ≤ 1000) (H : Sat W w (Hp.own FN 1 wv xs * R)) :
    Calls Try.prog 18 #[wv, .int .i64 ((m : Nat) : Int)] w fun e w' => e = .returned (.tuple #[.int .i64 ((cntL xs m : Nat) : Int), .bool ((zI xs).contains (m : Int))]) ∧ Below w.heap.size w w' := by
  rcases H.ows with ⟨rfl, rfl⟩ | ⟨g, off, cap, rfl, hb, hlt, hcap, hsp, hel⟩
  · exact (Any.slices_BinarySearch_int_empty Try.searchA none 0 (m : Int) w).mono fun e w' ⟨he, hw⟩ => ⟨he, by rw [hw]; exact Below.refl _ _⟩
  · have h := Any.slices_BinarySearch_int Try.searchA g off xs.length cap (zI xs) (m : Int) w (by simp) (by omega) (fun j hj => by
      rw [List.length_map] at hj
      obtain ⟨x, hx⟩ := get_of_lt hj
      have := hel j x hx 0 _ rfl
      rw [Nat.mul_one, Nat.add_zero] at this
      rw [this, zI_getD xs j hj hx]) (by rw [List.take_of_length_le (by simp)]; exact List.pairwise_map.2 (hs.imp fun h => by exact_mod_cast h))
    rw [List.take_of_length_le (by simp), zI_cnt] at h
    exact h.mono fun e w' ⟨he, q, hw⟩ => ⟨he, by rw [hw]; exact below_drewN (Below.refl _ _) q⟩
theorem erase_row (xs : List Nat) (i : Nat) : (zI xs).take i ++ (zI xs).drop (i + 1) ++ List.replicate (i + 1 - i) 0 = zI (xs.eraseIdx i ++ [0]) := by
  rw [show i + 1 - i = 1 by omega]
  simp [List.eraseIdx_eq_take_drop_succ]
theorem delete_any {W w : World} {a : Option Addr} {n c : Nat} {xs : List Nat} {i : Nat} {R : Hp} (hi : i < xs.length) (hc : c ≤ maxLen) (H : Sat W w (Hp.own FN 1 (.slice a n c) xs * R)) :
    Calls Try.prog 28 #[.slice a n c, .int .i64 ((i : Nat) : Int), .int .i64 ((i + 1 : Nat) : Int)] w (Ret W fun v l => v = .slice a (n - 1) c ∧ sep l = Hp.own FN 1 (.slice a (n - 1) c) (xs.eraseIdx i) * R) := by
  rcases H.ows with ⟨e, e2⟩ | ⟨g, off, cap, e, hb, hlt, hcap, hsp, hel⟩
  · subst e2; simp at hi
  · injection e with e1 e2 e3
    subst e1; subst e2; subst e3
    have hl : (xs.eraseIdx i).length = xs.length - 1 := by rw [List.length_eraseIdx]; simp [hi]
    unfold maxLen at hc
    have h := Any.slices_Delete_int_cells Try.deleteA g off xs.length c i (i + 1) (zI xs) w (by simp) hcap (by omega) (by omega) (by omega) (fun j hj => by
      rw [List.length_map] at hj
      obtain ⟨x, hx⟩ := get_of_lt hj
      have := hel j x hx 0 _ rfl
      rw [Nat.mul_one, Nat.add_zero] at this
      rw [this, zI_getD xs j hj hx]) (fun j hj => (hsp j (by omega)).2)
    rw [List.take_of_length_le (show (zI xs).length ≤ xs.length by simp), erase_row] at h
    refine h.mono fun e w' ⟨he, q, hw⟩ => ?_
    have hz : (zI (xs.eraseIdx i ++ [0])).map (Value.int .i64) = (xs.eraseIdx i ++ [0]).map pN := by simp [zI, List.map_map]
    rw [hz] at hw
    have H1 := (H.drewN q).over (p := pN) (ys := xs.eraseIdx i) 0 (xs.eraseIdx i ++ [0]) (by rw [List.length_append, hl, List.length_singleton]; omega) (by omega) (fun j y hy => .inl ⟨Nat.zero_le _, by rw [Nat.sub_zero, List.getElem?_append_left (List.getElem?_eq_some_iff.1 hy).1]; exact hy⟩)
    rw [Nat.add_zero, hl] at H1
    subst hw
    refine ⟨_, [Hp.own FN 1 (.slice (some ⟨g, off, none⟩) (xs.length - 1) c) (xs.eraseIdx i), R], by rw [he, show i + 1 - i = 1 by omega], ⟨rfl, by show _ * (_ * 1) = _; rw [Hp.mul_one]⟩, H1.cast (by show _ = _ * (_ * 1); rw [Hp.mul_one])⟩
theorem grow_arr {xs : List Nat} {t : TypeId} {k n : Nat} (hk : xs.length + k ≤ n) (j : Nat) (x : Nat) (hx : xs[j]? = some x) (A B : Array Value) : ((xs.map pN).toArray ++ A ++ B)[j]? = some (pN x) := by
  have hl := (List.getElem?_eq_some_iff.1 hx).1
  rw [Array.getElem?_append_left (by simp; omega), Array.getElem?_append_left (by simp; exact hl)]
  simp [hx]
theorem ins_at {xs : List Nat} {i m j y : Nat} (hi : i ≤ xs.length) (h : (xs.take i ++ m :: xs.drop i)[j]? = some y) : (j < i ∧ xs[j]? = some y) ∨ (j = i ∧ y = m) ∨ (i < j ∧ xs[j - 1]? = some y) := by
  have hlt : (xs.take i).length = i := by rw [List.length_take]; omega
  rcases Nat.lt_trichotomy j i with q | q | q
  · rw [List.getElem?_append_left (by omega), List.getElem?_take, if_pos q] at h; exact .inl ⟨q, h⟩
  · subst q; rw [List.getElem?_append_right (by omega), hlt, Nat.sub_self] at h
    simp at h; exact .inr (.inl ⟨rfl, h.symm⟩)
  · rw [List.getElem?_append_right (by omega), hlt, show j - i = (j - i - 1) + 1 by omega, List.getElem?_cons_succ, List.getElem?_drop] at h
    exact .inr (.inr ⟨q, by rw [show j - 1 = i + (j - i - 1) by omega]; exact h⟩)
def litH (b : Nat) (m : Nat) : Hp := Hp.blk b (· = Obj.cells #[pN m] 3 (0, 0))
theorem insert_any {W w : World} {a : Option Addr} {n c vb vc : Nat} {xs : List Nat} {i m : Nat} {R : Hp} (hi : i ≤ xs.length) (hl : xs.length ≤ 1000) (hc : c ≤ maxLen) (H : Sat W w (Hp.own FN 1 (.slice a n c) xs * (litH vb m * R))) :
    Calls Try.prog 19 #[.slice a n c, .int .i64 ((i : Nat) : Int), .slice (some ⟨vb, 0, none⟩) 1 vc] w (Ret W fun v l => IsC v ∧ sep l = Hp.own FN 1 v (xs.take i ++ m :: xs.drop i) * (litH vb m * R)) := by
  have hlen : (xs.take i ++ m :: xs.drop i).length = xs.length + 1 := by simp; omega
  obtain ⟨_, ov, hov, rfl⟩ := H.drop.blk
  have hvc : ∀ (j : Nat) (v : Value), [pN m][j]? = some v → w.cell? ⟨vb, 0 + j, none⟩ = some v := fun j v hj => by
    cases j with
    | succ j => simp at hj
    | zero => simp at hj; subst hj; rw [cell_of_block hov]; rfl
  have h1v : ∀ v ∈ [pN m], v.oneCell' = true := fun v hv => by simp at hv; subst hv; rfl
  have h1c : ∀ v ∈ xs.map pN, v.oneCell' = true := fun v hv => by obtain ⟨x, _, rfl⟩ := List.mem_map.1 hv; rfl
  have fin : ∀ (a' : Option Addr) (n' c' : Nat) (w' : World), c' ≤ maxLen → Sat W w' (Hp.own FN 1 (.slice a' n' c') (xs.take i ++ m :: xs.drop i) * (litH vb m * R)) → Ret W (fun v l => IsC v ∧ sep l = Hp.own FN 1 v (xs.take i ++ m :: xs.drop i) * (litH vb m * R)) (.returned (.slice a' n' c')) w' := fun a' n' c' w' hc' h =>
    ⟨_, [Hp.own FN 1 (.slice a' n' c') (xs.take i ++ m :: xs.drop i), litH vb m, R], rfl, ⟨⟨a', n', c', hc', rfl⟩, by show _ * (_ * (_ * 1)) = _; rw [Hp.mul_one]⟩, h.cast (by show _ = _ * (_ * (_ * 1)); rw [Hp.mul_one])⟩
  have hmx : c ≤ 9223372036854775807 := by unfold maxLen at hc; omega
  have hend : i = xs.length → xs.take i ++ m :: xs.drop i = xs ++ [m] := fun e => by subst e; simp
  -- at the end, no room
  have egrow : i = xs.length → n = xs.length → (a = none → n = 0) → (∀ x, a = some x → ∀ j v, (xs.map pN)[j]? = some v → w.cell? (x.add j) = some v) → xs.length ≤ c → c < xs.length + 1 →
      Calls Try.prog 19 #[.slice a n c, .int .i64 ((i : Nat) : Int), .slice (some ⟨vb, 0, none⟩) 1 vc] w (Ret W fun v l => IsC v ∧ sep l = Hp.own FN 1 v (xs.take i ++ m :: xs.drop i) * (litH vb m * R)) := fun e en h0 hcs hnc hroom => by
    subst en
    subst e
    refine (Any2.slices_Insert_int_end_grow Try.insertA a xs.length c vb 0 1 vc (xs.map pN) [pN m] w (by omega) hnc hroom (by omega) (by simp) rfl h0 hcs hvc h1v).mono fun e' w' ⟨he, hw⟩ => ?_
    subst hw; subst he
    have hz : (Value.int .i64 0).cells.size = 1 := rfl
    have hg := grownCap_ge w (xs.length + 1) c 3
    have hO := OwS.laid (p := pN) (xs := xs ++ [m]) (cap := grownCap w (xs.length + 1) c 3) (cs := (xs.map pN ++ [pN m]).toArray ++ Builtin.zeroCells (Value.int .i64 0).cells (grownCap w (xs.length + 1) c 3 - (xs.length + 1))) (t := 3) w.drew (by
      rw [Array.size_append, size_zeroCells, hz]; simp; omega) (by simp; omega) (fun j x hx => by
      have hlx := (List.getElem?_eq_some_iff.1 hx).1
      rw [List.length_append, List.length_singleton] at hlx
      rw [Array.getElem?_append_left (by simp; omega)]
      have : (xs.map pN ++ [pN m]) = (xs ++ [m]).map pN := by simp
      rw [this, List.getElem?_toArray, List.getElem?_map, hx]; rfl)
    have H2 := (H.drew.newOwn hO)
    have H3 := (H2.cast (Hp.mul_left_comm ..)).drop
    have := fin (some ⟨w.drew.heap.size, 0, none⟩) (xs ++ [m]).length _ _ (grownCap_le_maxLen w (xs.length + 1) c 3 (by unfold maxLen; omega)) (by rw [hend rfl]; exact H3)
    rw [List.length_append, List.length_singleton] at this
    exact this
  rcases H.ows with ⟨e, e2⟩ | ⟨g, off, cap, e, hb, hlt, hcap, hsp, hel⟩
  · injection e with e1 e2' e3
    subst e1; subst e2'; subst e3; subst e2
    exact egrow (by simpa using hi) rfl (fun _ => rfl) (fun x hx => by cases hx) (Nat.le_refl _) (by simp)
  · injection e with e1 e2 e3
    subst e1; subst e2; subst e3
    have hcs : ∀ (j : Nat) (v : Value), (xs.map pN)[j]? = some v → w.cell? ⟨g, off + j, none⟩ = some v := fun j v hj => by
      rw [List.getElem?_map] at hj
      cases hx : xs[j]? with
      | none => rw [hx] at hj; cases hj
      | some x =>
        rw [hx] at hj; cases hj
        have := hel j x hx 0 _ rfl
        rwa [Nat.mul_one, Nat.add_zero] at this
    by_cases hroom : c < xs.length + 1
    · by_cases e : i = xs.length
      · exact egrow e rfl (fun h => by cases h) (fun x hx j v hj => by cases hx; rw [show (⟨g, off, none⟩ : Addr).add j = ⟨g, off + j, none⟩ from Addr.add_lit ..]; exact hcs j v hj) hcap hroom
      · refine (Any2.slices_Insert_int_grow Try.insertA g off xs.length c i vb 0 1 vc (xs.map pN) [pN m] w (by omega) (by omega) hcap hroom (by omega) (by simp) rfl hcs hvc h1c h1v).mono fun e' w' ⟨he, hw⟩ => ?_
        subst hw; subst he
        have hz : (Value.int .i64 0).cells.size = 1 := rfl
        have hg := grownCap_ge w (xs.length + 1) c 3
        have hti : (xs.take i).length = i := by rw [List.length_take]; omega
        have hO := OwS.laid (p := pN) (xs := xs.take i) (cap := grownCap w (xs.length + 1) c 3) (cs := ((xs.map pN).take i).toArray ++ Builtin.zeroCells (Value.int .i64 0).cells (xs.length + 1 - i) ++ Builtin.zeroCells (Value.int .i64 0).cells (grownCap w (xs.length + 1) c 3 - (xs.length + 1))) (t := 3) w (by
          rw [Array.size_append, Array.size_append, size_zeroCells, size_zeroCells, hz]; simp; omega) (by omega) (fun j x hx => by
          have hlx := (List.getElem?_eq_some_iff.1 hx).1
          rw [Array.getElem?_append_left (by rw [Array.size_append, size_zeroCells, hz]; simp; omega), Array.getElem?_append_left (by simp; omega), ← List.map_take, List.getElem?_toArray, List.getElem?_map, hx]; rfl)
        have H2 := (H.newOwn hO)
        have H3 := ((H2.cast (Hp.mul_left_comm ..)).drop).drew
        have H4 := H3.over (ys := xs.take i ++ [m]) i [m] (by simp; omega) (by simp; omega) (fun j y hj => by
          rcases Nat.lt_or_ge j i with q | q
          · rw [List.getElem?_append_left (by omega)] at hj; exact .inr ⟨.inl q, hj⟩
          · rw [List.getElem?_append_right (by omega), hti] at hj; exact .inl ⟨q, hj⟩)
        have H5 := H4.drew.over (ys := xs.take i ++ m :: xs.drop i) (i + 1) (xs.drop i) (by rw [List.length_drop]; omega) (by omega) (fun j y hj => by
          rcases ins_at hi hj with ⟨q1, q2⟩ | ⟨q1, q2⟩ | ⟨q1, q2⟩
          · exact .inr ⟨.inl (by omega), by rw [List.getElem?_append_left (by omega), List.getElem?_take, if_pos q1]; exact q2⟩
          · exact .inr ⟨.inl (by omega), by rw [q1, q2, List.getElem?_append_right (by omega), hti, Nat.sub_self]; rfl⟩
          · exact .inl ⟨by omega, by rw [List.getElem?_drop, show i + (j - (i + 1)) = j - 1 by omega]; exact q2⟩)
        rw [Nat.zero_add, Nat.zero_add] at H5
        have := fin (some ⟨w.heap.size, 0, none⟩) (xs.take i ++ m :: xs.drop i).length _ _ (grownCap_le_maxLen w (xs.length + 1) c 3 (by unfold maxLen; omega)) H5
        rw [hlen] at this
        rw [← List.map_drop]
        exact this
    · by_cases e : i = xs.length
      · subst e
        refine (Any2.slices_Insert_int_end_room Try.insertA g off xs.length c vb 0 1 vc [pN m] w (by omega) (by omega) hmx rfl (fun j hj => by rw [Nat.add_assoc]; exact (hsp _ (by omega)).1) (fun j hj => by rw [Nat.add_assoc]; exact (hsp _ (by omega)).2) hvc h1v).mono fun e' w' ⟨he, hw⟩ => ?_
        subst hw; subst he
        have H2 := H.over (ys := xs ++ [m]) xs.length [m] (by simp; omega) (by simp; omega) (fun j y hj => by
          rcases Nat.lt_or_ge j xs.length with q | q
          · rw [List.getElem?_append_left q] at hj; exact .inr ⟨.inl q, hj⟩
          · rw [List.getElem?_append_right q] at hj; exact .inl ⟨q, hj⟩)
        have := fin (some ⟨g, off, none⟩) (xs ++ [m]).length c _ hc (by rw [hend rfl]; exact H2)
        rw [List.length_append, List.length_singleton] at this
        exact this
      · have hne : vb ≠ g := fun h => H.ne_own h.symm
        obtain ⟨og, hog⟩ : ∃ o, w.heap[g]? = some o := ⟨_, Array.getElem?_eq_getElem hlt⟩
        have h0 := (hsp 0 (by omega)).1
        rw [Nat.add_zero, cell_of_block hog] at h0
        obtain ⟨cs0, t0, f0, rfl⟩ : ∃ cs t f, og = .cells cs t f := by
          cases og <;> first | exact ⟨_, _, _, rfl⟩ | (simp [Obj.cellAt] at h0)
        have hk0 : cs0.size ≠ 0 := fun h => by
          simp only [Obj.cellAt] at h0
          rw [Array.getElem?_eq_none (by omega)] at h0; cases h0
        refine (Any2.slices_Insert_int_shift Try.insertA g off xs.length c i vb 0 1 vc (xs.map pN) [pN m] w (by omega) (by omega) (by omega) hmx hne (by simp) rfl hcs (fun j hj => (hsp j (by omega)).1) (fun j hj => (hsp j (by omega)).2) hvc h1c h1v 3 t0 1 cs0.size (by unfold World.shape?; rw [hov]; rfl) (by unfold World.shape?; rw [hog]) hk0 (by unfold World.frozen?; dsimp only; rw [hov]; rfl) (by unfold World.frozen?; dsimp only; rw [hov]; rfl)).mono fun e' w' ⟨he, hw⟩ => ?_
        subst hw; subst he
        have hti : (xs.take (i + 1)).length = i + 1 := by rw [List.length_take]; omega
        have H2 := H.drew.over (ys := xs.take (i + 1) ++ xs.drop i) (i + 1) (xs.drop i) (by rw [List.length_drop]; omega) (by rw [List.length_append, hti, List.length_drop]; omega) (fun j y hj => by
          rcases Nat.lt_or_ge j (i + 1) with q | q
          · rw [List.getElem?_append_left (by omega), List.getElem?_take, if_pos q] at hj; exact .inr ⟨.inl q, hj⟩
          · rw [List.getElem?_append_right (by omega), hti] at hj; exact .inl ⟨q, hj⟩)
        have H3 := H2.over (ys := xs.take i ++ m :: xs.drop i) i [m] (by simp; omega) (by omega) (fun j y hj => by
          rcases ins_at hi hj with ⟨q1, q2⟩ | ⟨q1, q2⟩ | ⟨q1, q2⟩
          · exact .inr ⟨.inl q1, by rw [List.getElem?_append_left (by omega), List.getElem?_take, if_pos (by omega)]; exact q2⟩
          · exact .inl ⟨by omega, by rw [q1, q2, Nat.sub_self]; rfl⟩
          · exact .inr ⟨.inr (by simp; omega), by rw [List.getElem?_append_right (by omega), hti, List.getElem?_drop, show i + (j - (i + 1)) = j - 1 by omega]; exact q2⟩)
        have := fin (some ⟨g, off, none⟩) (xs.take i ++ m :: xs.drop i).length c _ hc H3
        rw [hlen] at this
        rw [← List.map_drop]
        exact this
section
variable {P : Program} {c : Cx} {m : List (Nat × Value)} {l l' : List Hp} {o : Oper} {x : Operand} {T : TypeId}
theorem eff_litN {k : Nat} (ho : o.op = .buildSlice T 1 #[(0, x)]) (hx : evo m x = some (pN k)) (hr : ∀ w : World, (Instr.buildSlice T 1 #[(0, pN k)]).run P w = .ok (.slice (some ⟨w.heap.size, 0, none⟩) 1 1) (w.alloc (.cells #[pN k] 3))) : Eff P c m l o (fun v l'' => ∃ b, v = .slice (some ⟨b, 0, none⟩) 1 1 ∧ l'' = litH b k :: l) := Eff.of fun a w s H => by
  refine ⟨.slice (some ⟨w.heap.size, 0, none⟩) 1 1, w.alloc (.cells #[pN k] 3), ?_, _, ⟨w.heap.size, rfl, rfl⟩, H.alloc_blk (p := (· = Obj.cells #[pN k] 3 (0, 0))) _ rfl⟩
  simp [execOp, ho, s.ev hx, hr, Result.andThen]
end
end Go.Proofs.Ytcjdphhofjibdaa
