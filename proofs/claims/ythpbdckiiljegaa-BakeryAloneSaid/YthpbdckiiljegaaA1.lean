/- The bakery's machine in memory, and its steps' walks. -/
import Derived.Test.YthpbdckiiljegaaL7
import Derived.Test.YthpbdckiiljegaaL4
import Derived.Test.YthpbdckiiljegaaProg
import Derived.BigRegion
namespace Go.Proofs.Ythpbdckiiljegaa
open Go.RowKit

structure Pr where
  at_ : Nat
  k : Nat
  m : Nat
  tk : Nat
  ch : Bool

def FP (p : Pr) : List Value := [.int .i64 p.at_, .int .i64 p.k, .int .i64 p.m, .int .i64 p.tk, .bool p.ch]
abbrev FI : Nat → List Value := fun x => [Value.int .i64 x]
theorem FP_len (p : Pr) : (FP p).length = 5 := rfl

structure ShopAt (w : World) (F : Nat → Prop) (B S g o cap : Nat) (vi : Value) (ps : List Pr) (ins : List Nat) : Prop where
  rec_ : Rec w S [.slice (some ⟨g, o, none⟩) ps.length cap, vi]
  procs : OwS FP 5 w B (.slice (some ⟨g, o, none⟩) ps.length cap) ps
  ins_ : OwS FI 1 w B vi ins
  sg : S ≠ g
  si : vi.ownBlock ≠ some S
  gi : vi.ownBlock ≠ some g
  fs : F S
  fg : F g
  fi : ∀ k, vi.ownBlock = some k → F k
  low : ∀ k, F k → B ≤ k
  high : ∀ k, F k → k < w.heap.size

def Shop (w : World) (F : Nat → Prop) (B S : Nat) (ps : List Pr) (ins : List Nat) : Prop := ∃ g o cap vi, ShopAt w F B S g o cap vi ps ins

theorem ShopAt.write {w w' : World} {F : Nat → Prop} {B S g o cap : Nat} {vi : Value} {ps ps' : List Pr} {ins : List Nat} (h : ShopAt w F B S g o cap vi ps ins) (hg : w.grownBy w' (some g))
    (hp : OwS FP 5 w' B (.slice (some ⟨g, o, none⟩) ps.length cap) ps') (hl : ps'.length = ps.length) : Shop w' F B S ps' ins ∧ Kept F w w' := by
  refine ⟨⟨g, o, cap, vi, ?_, ?_, h.ins_.kept hg (.inr h.gi), h.sg, h.si, h.gi, h.fs, h.fg, h.fi, h.low, fun k hk => Nat.lt_of_lt_of_le (h.high k hk) hg.size⟩, Kept.grownBy hg (fun k e => by cases e; exact h.fg)⟩
  · rw [hl]; exact h.rec_.grown hg (by intro e; cases e; exact h.sg rfl)
  · rw [hl]; exact hp

theorem gset {w w1 : World} {g i : Nat} {u : Value} (h : w.grownBy w1 (some g)) : w.grownBy (w1.setCell ⟨g, i, none⟩ u) (some g) := grownBy_trans h (grownBy_setCell w1 ⟨g, i, none⟩ u)
theorem gset0 {w : World} {g i : Nat} {u : Value} : w.grownBy (w.setCell ⟨g, i, none⟩ u) (some g) := grownBy_setCell w ⟨g, i, none⟩ u

theorem gdrew {w w1 : World} {r : Option Nat} (h : w.grownBy w1 r) : w.grownBy w1.drew r := grownBy_trans h (Below.grownBy_none (Below.refl _ _).drew r)
theorem gdrewN {w w1 : World} {r : Option Nat} (h : w.grownBy w1 r) (n : Nat) : w.grownBy (w1.drewN n) r := grownBy_trans h (Below.grownBy_none (below_drewN (Below.refl _ _) n) r)
theorem OwS.drewN {α : Type} {f : α → List Value} {sz : Nat} {w : World} {base : Nat} {v : Value} {xs : List α} (h : OwS f sz w base v xs) (n : Nat) : OwS f sz (w.drewN n) base v xs := h.below (below_drewN (Below.refl _ _) n)
theorem OwS.drew {α : Type} {f : α → List Value} {sz : Nat} {w : World} {base : Nat} {v : Value} {xs : List α} (h : OwS f sz w base v xs) : OwS f sz w.drew base v xs := h.below (Below.refl _ _).drew

/-- what an element's five fields say -/
theorem OwS.five {w : World} {B g o n cap i : Nat} {ps : List Pr} {p : Pr} (h : OwS FP 5 w B (.slice (some ⟨g, o, none⟩) n cap) ps) (hi : ps[i]? = some p) :
    (w.cell? ⟨g, o + i * 5, none⟩ = some (.int .i64 p.at_) ∧ w.cell? ⟨g, o + i * 5 + 1, none⟩ = some (.int .i64 p.k) ∧ w.cell? ⟨g, o + i * 5 + 2, none⟩ = some (.int .i64 p.m) ∧ w.cell? ⟨g, o + i * 5 + 3, none⟩ = some (.int .i64 p.tk) ∧ w.cell? ⟨g, o + i * 5 + 4, none⟩ = some (.bool p.ch)) ∧
    (w.frozen? ⟨g, o + i * 5, none⟩ = false ∧ w.frozen? ⟨g, o + i * 5 + 1, none⟩ = false ∧ w.frozen? ⟨g, o + i * 5 + 2, none⟩ = false ∧ w.frozen? ⟨g, o + i * 5 + 3, none⟩ = false ∧ w.frozen? ⟨g, o + i * 5 + 4, none⟩ = false) := by
  obtain ⟨c0, f0⟩ := h.el0 hi (u := .int .i64 p.at_) rfl (by decide)
  obtain ⟨c1, f1⟩ := h.el hi 1 (u := .int .i64 p.k) rfl (by decide)
  obtain ⟨c2, f2⟩ := h.el hi 2 (u := .int .i64 p.m) rfl (by decide)
  obtain ⟨c3, f3⟩ := h.el hi 3 (u := .int .i64 p.tk) rfl (by decide)
  obtain ⟨c4, f4⟩ := h.el hi 4 (u := .bool p.ch) rfl (by decide)
  exact ⟨⟨c0, c1, c2, c3, c4⟩, f0, f1, f2, f3, f4⟩

abbrev StepsTo (k : Nat) (S i : Nat) (w : World) (F : Nat → Prop) (B : Nat) (ps : List Pr) (ins : List Nat) : Prop :=
  Calls Try.prog k #[.pointer (some ⟨S, 0, none⟩), .int .i64 i] w fun e w' => (∃ v, e = .returned v) ∧ ∃ F', Shop w' F' B S ps ins ∧ Kept F w w' ∧ Sub w.heap.size F F'

theorem Shop.same {w w' : World} {F : Nat → Prop} {B S : Nat} {ps : List Pr} {ins : List Nat} (h : Shop w' F B S ps ins ∧ Kept F w w') : ∃ F', Shop w' F' B S ps ins ∧ Kept F w w' ∧ Sub w.heap.size F F' := ⟨F, h.1, h.2, Sub.refl _ _⟩


theorem ShopAt.spelled {w : World} {F : Nat → Prop} {B S g o cap i : Nat} {vi : Value} {ps : List Pr} {ins : List Nat} {p : Pr} (h : ShopAt w F B S g o cap vi ps ins) (hi : ps[i]? = some p) : OwS FP 5 w B (.slice (some ⟨g, o, none⟩) ps.length cap) (ps.set i p) := by
  rw [set_same hi]; exact h.procs

set_option maxHeartbeats 1000000 in
theorem begin_any {S i : Nat} {ps : List Pr} {ins : List Nat} {p : Pr} {w : World} {F : Nat → Prop} {B : Nat} (h : Shop w F B S ps ins) (hi : ps[i]? = some p) : StepsTo 12 S i w F B (ps.set i { p with ch := true, k := 0, m := 0, at_ := 1 }) ins := by
  obtain ⟨g, o, cap, vi, h⟩ := h
  have hn := (List.getElem?_eq_some_iff.1 hi).1
  obtain ⟨⟨c0, c1, c2, c3, c4⟩, f0, f1, f2, f3, f4⟩ := h.procs.five hi
  have r0 := (h.rec_.2 0 _ rfl).1
  have HP := Lib.hid (h.spelled hi)
  have H := Lib.hid h
  clear h hi
  generalize hlen : ps.length = n at *
  go_enter Try.func12, Try.ntmps12
  go_wp2_with fail
  go_end0
  refine ⟨⟨_, rfl⟩, Shop.same (ShopAt.write H.out (gset (gset (gset gset0))) ?_ (by simp))⟩
  rw [hlen]
  exact (((HP.out.put FP_len (by omega) 4 _ { p with ch := true } (by decide) rfl).put FP_len (by omega) 1 _ { p with ch := true, k := 0 } (by decide) rfl).put FP_len (by omega) 2 _ { p with ch := true, k := 0, m := 0 } (by decide) rfl).put0 FP_len (by omega) _ { p with ch := true, k := 0, m := 0, at_ := 1 } (by decide) rfl

set_option maxHeartbeats 1000000 in
theorem chosen_any {S i : Nat} {ps : List Pr} {ins : List Nat} {p : Pr} {w : World} {F : Nat → Prop} {B : Nat} (h : Shop w F B S ps ins) (hi : ps[i]? = some p) : StepsTo 14 S i w F B (ps.set i { p with ch := false, k := 0, at_ := 3 }) ins := by
  obtain ⟨g, o, cap, vi, h⟩ := h
  have hn := (List.getElem?_eq_some_iff.1 hi).1
  obtain ⟨⟨c0, c1, c2, c3, c4⟩, f0, f1, f2, f3, f4⟩ := h.procs.five hi
  have r0 := (h.rec_.2 0 _ rfl).1
  have HP := Lib.hid (h.spelled hi)
  have H := Lib.hid h
  clear h hi
  generalize hlen : ps.length = n at *
  go_enter Try.func14, Try.ntmps14
  go_wp2_with fail
  go_end0
  refine ⟨⟨_, rfl⟩, Shop.same (ShopAt.write H.out (gset (gset gset0)) ?_ (by simp))⟩
  rw [hlen]
  exact ((HP.out.put FP_len (by omega) 4 _ { p with ch := false } (by decide) rfl).put FP_len (by omega) 1 _ { p with ch := false, k := 0 } (by decide) rfl).put0 FP_len (by omega) _ { p with ch := false, k := 0, at_ := 3 } (by decide) rfl

set_option maxHeartbeats 1000000 in
theorem leave_any {S i : Nat} {ps : List Pr} {ins : List Nat} {p : Pr} {w : World} {F : Nat → Prop} {B : Nat} (h : Shop w F B S ps ins) (hi : ps[i]? = some p) : StepsTo 17 S i w F B (ps.set i { p with tk := 0, at_ := 0 }) ins := by
  obtain ⟨g, o, cap, vi, h⟩ := h
  have hn := (List.getElem?_eq_some_iff.1 hi).1
  obtain ⟨⟨c0, c1, c2, c3, c4⟩, f0, f1, f2, f3, f4⟩ := h.procs.five hi
  have r0 := (h.rec_.2 0 _ rfl).1
  have HP := Lib.hid (h.spelled hi)
  have H := Lib.hid h
  clear h hi
  generalize hlen : ps.length = n at *
  go_enter Try.func17, Try.ntmps17
  go_region
  all_goals
    go_wp2_with fail
    go_end0
    refine ⟨⟨_, rfl⟩, Shop.same (ShopAt.write H.out (gdrew (gset gset0)) ?_ (by simp))⟩
    rw [hlen]
    first
    | exact ((HP.out.put FP_len (by omega) 3 _ { p with tk := 0 } (by decide) rfl).put0 FP_len (by omega) _ { p with tk := 0, at_ := 0 } (by decide) rfl).drew
    | exact ((HP.out.put0 FP_len (by omega) _ { p with at_ := 0 } (by decide) rfl).put FP_len (by omega) 3 _ { p with tk := 0, at_ := 0 } (by decide) rfl).drew

def tkOf (ps : List Pr) (k : Nat) : Nat := match ps[k]? with | some q => q.tk | none => 0
def chOf (ps : List Pr) (k : Nat) : Bool := match ps[k]? with | some q => q.ch | none => false
def lookF (ps : List Pr) (p : Pr) : Pr := if p.k = ps.length then { p with tk := p.m + 1, at_ := 2 } else { p with m := max p.m (tkOf ps p.k), k := p.k + 1 }

set_option maxHeartbeats 1000000 in
theorem look_any {S i : Nat} {ps : List Pr} {ins : List Nat} {p : Pr} {w : World} {F : Nat → Prop} {B : Nat} (h : Shop w F B S ps ins) (hi : ps[i]? = some p) (hk : p.k ≤ ps.length) (hb : ps.length ≤ 4) (hm : p.m ≤ 1000) :
    StepsTo 13 S i w F B (ps.set i (lookF ps p)) ins := by
  obtain ⟨g, o, cap, vi, h⟩ := h
  have hn := (List.getElem?_eq_some_iff.1 hi).1
  obtain ⟨⟨c0, c1, c2, c3, c4⟩, f0, f1, f2, f3, f4⟩ := h.procs.five hi
  have r0 := (h.rec_.2 0 _ rfl).1
  have HP := Lib.hid (h.spelled hi)
  by_cases he : p.k = ps.length
  · rw [show lookF ps p = { p with tk := p.m + 1, at_ := 2 } by unfold lookF; rw [if_pos he]]
    have H := Lib.hid h
    have hd : ((p.k : Int) == (ps.length : Int)) = true := by rw [cast_beq]; simpa using he
    clear h hi
    have e1 : IntKind.i64.wrap ((p.m : Int) + 1) = ((p.m + 1 : Nat) : Int) := by rw [IntWalk.i64_in _ (by omega)]; omega
    generalize hlen : ps.length = n at *
    go_enter Try.func13, Try.ntmps13
    go_wp2_with fail
    go_quiet (fail)
    go_wp2_with fail
    refine bodyPost_ret (results_none rfl _ _ _) rfl ?_
    refine ⟨⟨_, rfl⟩, Shop.same (ShopAt.write H.out (gset (gset (gdrewN (World.grownBy.refl _ _) _))) ?_ (by simp))⟩
    rw [hlen]
    exact ((HP.out.drewN _).put FP_len (by omega) 3 _ { p with tk := p.m + 1 } (by decide) rfl).put0 FP_len (by omega) _ { p with tk := p.m + 1, at_ := 2 } (by decide) rfl
  · obtain ⟨q, hq⟩ := get_of_lt (show p.k < ps.length by omega)
    rw [show lookF ps p = { p with m := max p.m q.tk, k := p.k + 1 } by unfold lookF tkOf; rw [if_neg he, hq]]
    obtain ⟨_, _, _, c8, _⟩ := (h.procs.five hq).1
    have H := Lib.hid h
    have hd : ((p.k : Int) == (ps.length : Int)) = false := by rw [cast_beq]; simpa using he
    have hk2 : p.k < ps.length := by omega
    clear h hi hq he
    have e1 : IntKind.i64.wrap ((p.k : Int) + 1) = ((p.k + 1 : Nat) : Int) := by rw [IntWalk.i64_in _ (by omega)]; omega
    have i0 : (0 : Int) ≤ (p.k : Int) := by omega
    have i1 : (p.k : Int) < (ps.length : Int) := by omega
    generalize hlen : ps.length = n at *
    go_enter Try.func13, Try.ntmps13
    go_wp2_with fail
    go_quiet (fail)
    go_wp2_with fail
    go_region
    all_goals go_wp2_with fail
    · go_end0
      rw [show max p.m q.tk = q.tk by omega]
      refine ⟨⟨_, rfl⟩, Shop.same (ShopAt.write H.out (gset (gset (gdrewN (World.grownBy.refl _ _) _))) ?_ (by simp))⟩
      rw [hlen]
      exact ((HP.out.drewN _).put FP_len (by omega) 2 _ { p with m := q.tk } (by decide) rfl).put FP_len (by omega) 1 _ { p with m := q.tk, k := p.k + 1 } (by decide) rfl
    · go_end0
      rw [show max p.m q.tk = p.m by omega]
      refine ⟨⟨_, rfl⟩, Shop.same (ShopAt.write H.out (gset (gset (gdrewN (World.grownBy.refl _ _) _))) ?_ (by simp))⟩
      rw [hlen]
      exact ((HP.out.drewN _).put FP_len (by omega) 2 _ { p with m := p.m } (by decide) rfl).put FP_len (by omega) 1 _ { p with m := p.m, k := p.k + 1 } (by decide) rfl
end Go.Proofs.Ythpbdckiiljegaa
