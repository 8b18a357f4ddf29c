/- StableTurns: the plain law on the turns, and its walk. -/
import Derived.Test.YtejbbnejpbpdmaaM3
import Derived.Test.YtejbbnejpbpdmaaA6
import Derived.Test.YtejbbnejpbpdmaaL5
namespace Go.Proofs.Ytejbbnejpbpdmaa
open Go.RowKit

/-- the states behind t turns, from where i alone is free -/
def st (k : Int) (xs : List Int) (i : Nat) : Nat → List Int
  | 0 => xs
  | t + 1 => (st k xs i t).set ((i + t) % xs.length) (nextF k (st k xs i t) ((i + t) % xs.length))

theorem st_facts {k : Int} {xs : List Int} {i : Nat} (h : checkF k xs = 0) (hi : freeL xs = [i]) : ∀ t, checkF k (st k xs i t) = 0 ∧ (st k xs i t).length = xs.length ∧ freeL (st k xs i t) = [(i + t) % xs.length]
  | 0 => ⟨h, rfl, by
    have : i < xs.length := (free_of_mem (show i ∈ freeL xs by rw [hi]; simp)).1
    rw [Nat.add_zero, Nat.mod_eq_of_lt this]; exact hi⟩
  | t + 1 => by
    obtain ⟨h1, h2, h3⟩ := st_facts h hi t
    have hpos : 0 < xs.length := by have := (check_ok h).1; omega
    have hlt : (i + t) % xs.length < (st k xs i t).length := by rw [h2]; exact Nat.mod_lt _ hpos
    refine ⟨check_mv h1 hlt, by rw [st, List.length_set, h2], ?_⟩
    have := freeL_turn h1 h3
    rw [h2] at this
    rw [st, this, Nat.mod_add_mod, Nat.add_assoc]

def movedL (n i t : Nat) : List Nat := (List.range t).map fun s => (i + s) % n

theorem idx_first {α : Type} (p : α → Bool) : ∀ (xs : List α) (i : Nat) (k : Int), (∀ j, j < i → ∀ y, xs[j]? = some y → p y = false) → (∀ y, xs[i]? = some y → p y = true) → i < xs.length → idx p xs k = k + i
  | [], _, _, _, _, h => by simp at h
  | x :: xs, 0, k, _, h2, _ => by simp [idx, h2 x rfl]
  | x :: xs, i + 1, k, h1, h2, h => by
    have h0 := h1 0 (by omega) x rfl
    have := idx_first p xs i (k + 1) (fun j hj y hy => h1 (j + 1) (by omega) y (by simpa using hy)) (fun y hy => h2 y (by simpa using hy)) (by simpa using h)
    simp only [idx, h0, Bool.false_eq_true, if_false, this]; omega

theorem once_of {xs : List Int} (h : ∀ i j : Nat, j < i → ∀ x, xs[i]? = some x → xs[j]? ≠ some x) : onceF xs = true := by
  unfold onceF
  refine List.all_eq_true.2 fun i hi => ?_
  rw [List.mem_range] at hi
  obtain ⟨x, hx⟩ := get_of_lt hi
  have hg : xs.getD i 0 = x := by simp [List.getD, hx]
  rw [hg]
  have := idx_first (fun y => y == x) xs i 0 (fun j hj y hy => by
    have := h i j hj x hx
    rw [hy] at this
    simpa using this) (fun y hy => by rw [hx] at hy; cases hy; simp) hi
  unfold posF
  rw [this]; simp

theorem mod_ne {n i s t : Nat} (hi : i < n) (hs : s < n) (ht : t < n) (hne : s ≠ t) : (i + s) % n ≠ (i + t) % n := by
  have e : ∀ u, u < n → (i + u) % n = if i + u < n then i + u else i + u - n := fun u hu => by
    split
    · exact Nat.mod_eq_of_lt (by assumption)
    · rw [Nat.mod_eq_sub_mod (by omega), Nat.mod_eq_of_lt (by omega)]
  rw [e s hs, e t ht]
  split <;> split <;> omega

theorem moved_once {n i : Nat} (hi : i < n) : onceF ((movedL n i n).map fun j : Nat => (j : Int)) = true := by
  refine once_of fun a b hba x hx hy => ?_
  unfold movedL at hx hy
  rw [List.map_map, List.getElem?_map] at hx hy
  have ha : a < n := by
    cases hr : (List.range n)[a]? with
    | none => rw [hr] at hx; cases hx
    | some q => have := (List.getElem?_eq_some_iff.1 hr).1; simpa using this
  rw [List.getElem?_range ha] at hx
  rw [List.getElem?_range (by omega)] at hy
  have := mod_ne hi ha (show b < n by omega) (by omega)
  simp only [Option.map_some, Option.some.injEq, Function.comp_apply] at hx hy
  rw [← hx] at hy
  generalize (i + a) % n = p at *
  generalize (i + b) % n = q at *
  omega

theorem moved_inside {n i : Nat} (hn : 0 < n) : insideF (n : Int) ((movedL n i n).map fun j : Nat => (j : Int)) = true := by
  unfold insideF
  refine List.all_eq_true.2 fun y hy => ?_
  obtain ⟨j, hj, rfl⟩ := List.mem_map.1 hy
  obtain ⟨s, _, rfl⟩ := List.mem_map.1 hj
  have := Nat.mod_lt (i + s) hn
  show (decide (0 ≤ (((i + s) % n : Nat) : Int)) && decide ((((i + s) % n : Nat) : Int) < (n : Int))) = true
  generalize (i + s) % n = q at *
  simp; omega

abbrev FI : Nat → List Value := fun i => [Value.int .i64 i]

set_option maxHeartbeats 2000000 in
theorem stableTurns_any (k : Int) (v : Value) (xs : List Int) (w : World) (h : SlI w v xs) :
    Calls Try.prog 6 #[.int .i64 k, v] w fun e w' => e = .returned (.bool true) ∧ Below w.heap.size w w' := by
  have h' := h
  obtain ⟨a, cap, rfl, hm, hnn, hc⟩ := h
  clear hnn
  have HFR := Lib.hid (freeCall_any k _ xs w h')
  by_cases hz : checkF k xs = 0
  · obtain ⟨q1, q2, q3, q4, _⟩ := check_ok hz
    have hfpos := freeL_ne hz
    have HST := Lib.hid (fun w1 (hb : Below w.heap.size w w1) => states_any k _ xs w1 (h'.below hb))
    rw [hz] at HST
    have hp0 : ((freeL xs).length == 0) = false := by simp; intro h0; rw [h0] at hfpos; cases hfpos
    have hp1 : (((freeL xs).length : Int) == 0) = false := by rw [cast_beq0]; exact hp0
    have HZ := Lib.hid hz
    by_cases hone : 1 < (freeL xs).length
    · have hg1 : decide ((1 : Int) < ((freeL xs).length : Int)) = true := by simp; omega
      go_enter Try.func6, Try.ntmps6
      go_wp2_with fail
      refine HFR.out.mono ?_
      rintro e w1 ⟨vf, rfl, hof, hb1⟩
      rw [if_pos hz] at hof
      rw [hz]
      obtain ⟨g, cp, rfl, hg, hgl⟩ := hof.form_ne hfpos
      clear hz hc
      go_wp2_with (go_at_call 8; refine (HST.out _ hb1).mono ?_; rintro e w2 ⟨rfl, rfl⟩)
      all_goals first | (exfalso; omega) | (go_ret; exact ⟨rfl, hb1⟩)
    · obtain ⟨i0, hi0⟩ : ∃ i0, freeL xs = [i0] := by
        match hq : freeL xs with
        | [] => rw [hq] at hfpos; cases hfpos
        | [i0] => exact ⟨i0, rfl⟩
        | a :: b :: l => rw [hq] at hone; simp at hone
      have hi0m := (free_of_mem (show i0 ∈ freeL xs by rw [hi0]; simp)).1
      have HSF := Lib.hid (st_facts hz hi0)
      have hl1 : (freeL xs).length = 1 := by rw [hi0]; rfl
      rw [hl1] at hp1
      have HO := Lib.hid (moved_once hi0m)
      have HI := Lib.hid (moved_inside (i := i0) (show 0 < xs.length by omega))
      go_enter Try.func6, Try.ntmps6
      go_wp2_with fail
      refine HFR.out.mono ?_
      rintro e w1 ⟨vf, rfl, hof, hb1⟩
      rw [if_pos hz] at hof
      rw [hz]
      obtain ⟨g, cp, rfl, hg, hgl⟩ := hof.form_ne hfpos
      rw [hl1]
      clear hz hc hof hone hl1 hp1 hp0 hi0 hfpos
      go_wp2_with (go_at_call 8; refine (HST.out _ hb1).mono ?_; rintro e w2 ⟨rfl, rfl⟩)
      go_loopw [7, 8, 9] (fun vm va i wr => ∃ t : Nat, t ≤ xs.length ∧ i = .int .i64 t ∧ OwS FI 1 wr w.heap.size vm (movedL xs.length i0 t) ∧ SlI wr va (st k xs i0 t) ∧ (va.ownBlock = none ∨ va.ownBlock ≠ vm.ownBlock) ∧ Below w.heap.size w wr) (fun _ _ i _ => xs.length - (intOf i).toNat)
      case atStart =>
        have hap0 : (Value.slice a xs.length cap).ownBlock = none ∨ (Value.slice a xs.length cap).ownBlock ≠ (Value.slice none 0 0).ownBlock := by
          cases a with
          | none => left; rfl
          | some x => right; simp [Value.ownBlock]
        have hst0 : SlI w1 (.slice a xs.length cap) (st k xs i0 0) := h'.below hb1
        have hnil : OwS FI 1 w1 w.heap.size (.slice none 0 0) (movedL xs.length i0 0) := OwS.nil _ _
        exact ⟨0, Nat.zero_le _, rfl, hnil, hst0, hap0, hb1⟩
      case round =>
        obtain ⟨t, ht, rfl, hom, hsa, hap, hbr⟩ := hrel
        by_cases hlt : t < xs.length
        · obtain ⟨s1, s2, s3⟩ := HSF.out t
          have hsa' := hsa
          obtain ⟨aa, capa, rfl, _, _, hca⟩ := hsa
          clear hca
          have hfr := freeCall_any k _ (st k xs i0 t) wr hsa'
          have HML0 := Lib.hid (show (movedL xs.length i0 t).length = t by unfold movedL; simp)
          have S1 := Lib.hid s1
          have S2 := Lib.hid s2
          have S3 := Lib.hid s3
          have HFR1 := Lib.hid hfr
          clear s1 s2 s3 hfr
          go_wp2_with fail
          refine HFR1.out.mono ?_
          rintro e w2 ⟨vf, rfl, hof, hb2⟩
          rw [if_pos S1.out, S3.out] at hof
          rw [S1.out]
          obtain ⟨g2, cp2, rfl, hg2, hgl2⟩ := hof.form_ne (by simp)
          have hcell : w2.cell? ⟨g2, 0, none⟩ = some (.int .i64 (((i0 + t) % xs.length : Nat) : Int)) := hof.cell (j := 0) rfl
          have hom2 := hom.below hb2
          have hss := hb2.size
          have hsr := hbr.size
          generalize hq : (i0 + t) % xs.length = q at *
          have HQ := Lib.hid hq
          clear hof hq
          go_wp2_with (at_builtin; refine wpList_pushS _ rfl _ _ 22 rfl Try.eI w.heap.size FI (fun _ => rfl) (fun x u hu => by simp [FI] at hu; subst hu; rfl) q (hom2.below ((Below.refl _ _).alloc (Nat.le_refl _) _)) rfl w2.heap.size rfl ?c1 ?c2 ?c3 ?c4 ?_)
          case c1 =>
            intro i u hu
            match i, hu with
            | 0, hu => simp [FI] at hu; subst hu; rw [World.cell?_alloc_at _ _ _ _ rfl]; rfl
          case c2 => rw [HML0.out]; omega
          case c3 => rw [HML0.out]; omega
          case c4 => simp; omega
          intro vm' w3 hom' hg3 hfresh
          have hg23 : w2.grownBy w3 u7.ownBlock := grownBy_trans (World.grownBy_alloc _ _ _) hg3
          have hvmlt : ∀ b, u7.ownBlock = some b → b < wr.heap.size := fun b hb => (hom.lt b hb).2
          have hc3 : w3.cell? ⟨g2, 0, none⟩ = some (.int .i64 (q : Int)) := hg23.cell hcell (fun e => by have := hvmlt _ e.symm; simp at this; omega)
          have hsa3 : SlI w3 (.slice aa (st k xs i0 t).length capa) (st k xs i0 t) := (Sl.below hsa' hb2).kept hg23 hap
          have hb3 : Below w.heap.size w w3 := (hbr.trans (hb2.mono hsr)).trans (OwS.grown_below hg23 hom2 (Nat.le_refl _) (by omega))
          have hmv := move_any k _ (st k xs i0 t) (q : Int) w3 hsa3
          have hqm : q ∈ freeL (st k xs i0 t) := by rw [S3.out]; simp
          have hmo := moveCode_ok S1.out hqm
          have hml' := moveL_ok S1.out hqm
          have HMV := Lib.hid hmv
          have HMO := Lib.hid hmo
          have HML := Lib.hid hml'
          have HOM := Lib.hid hom'
          have HFRESH := Lib.hid hfresh
          clear hmv hmo hml' hqm hom' hfresh hcell
          go_wp2_with fail
          refine HMV.out.mono ?_
          rintro e w4 ⟨vn, rfl, hon, hb4⟩
          rw [HMO.out]
          rw [HML.out] at hon
          go_wp2_with fail
          go_roundw
          case rel =>
            have hln : (st k xs i0 (t + 1)).length = xs.length := (HSF.out (t + 1)).2.1
            have est : st k xs i0 (t + 1) = (st k xs i0 t).set q (nextF k (st k xs i0 t) q) := by rw [st, HQ.out]
            have hon' : Ow (Value.int .i64) w4 w3.heap.size 3 vn (st k xs i0 (t + 1)) := by rw [est]; exact hon
            refine ⟨t + 1, by omega, by go_num, ?_, hon'.sl (by rw [hln]; omega), ?_, hb3.trans (hb4.mono hb3.size)⟩
            · have : movedL xs.length i0 (t + 1) = movedL xs.length i0 t ++ [q] := by unfold movedL; rw [List.range_succ, List.map_append, ← HQ.out]; rfl
              rw [this]
              exact HOM.out.below hb4
            · rcases hon'.form with ⟨rfl, _⟩ | ⟨gn, cn, rfl, hgn, _⟩
              · left; rfl
              · right
                simp only [Value.ownBlock]
                intro he
                have := (HOM.out.lt gn he.symm).2
                omega
          case measure => simp [intOf]; omega
        · obtain rfl : t = xs.length := by omega
          have hsm := ((hom.sl (by unfold movedL; simp; omega)).one).map (f := Value.int .i64) (g := fun j : Nat => (j : Int))
          have h1 := once_any u7 _ wr hsm
          have h2 := inside_any (xs.length : Int) u7 _ wr hsm
          rw [HO.out] at h1
          rw [HI.out] at h2
          have H1 := Lib.hid h1
          have H2 := Lib.hid h2
          clear h1 h2 hsm
          go_wp2_with (first | (go_at_call 11; refine H1.out.mono ?_; rintro e w2 ⟨rfl, rfl⟩) | (go_at_call 9; refine H2.out.mono ?_; rintro e w2 ⟨rfl, rfl⟩))
          go_ret
          exact ⟨rfl, hbr⟩
  · have HST := Lib.hid (fun w1 (hb : Below w.heap.size w w1) => states_any k _ xs w1 (h'.below hb))
    have hb1 : (checkF k xs == 0) = false := by simpa using hz
    have hb2' : (checkF k xs != 0) = true := by simpa using hz
    rw [hb1] at HST
    go_enter Try.func6, Try.ntmps6
    go_wp2_with fail
    refine HFR.out.mono ?_
    rintro e w1 ⟨vf, rfl, hof, hbb⟩
    generalize checkF k xs = q at *
    clear hz hof hc
    go_wp2_with (go_at_call 8; refine (HST.out _ hbb).mono ?_; rintro e w2 ⟨rfl, rfl⟩)
    go_ret
    exact ⟨rfl, hbb⟩

end Go.Proofs.Ytejbbnejpbpdmaa
