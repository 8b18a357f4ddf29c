/- Paxos' step. -/
import Derived.Test.YtbakeeempbadcaaA2
namespace Go.Proofs.Ytbakeeempbadcaa
open Go.RowKit
set_option linter.unusedVariables false
attribute [local go_sem] EffAt EffUpon

structure BM where
  ad : Nat
  tb : Nat
  bl : Bl
structure Tr where
  kind : Int
  ballot : Int
  who : Int
  val : Int
def FT (t : Tr) : List Value := [.int .i64 t.kind, .int .i64 t.ballot, .int .i64 t.who, .int .i64 t.val]
abbrev vT (t : Tr) : Value := .agg #[.int .i64 t.kind, .int .i64 t.ballot, .int .i64 t.who, .int .i64 t.val]

def balHp (p : Int × BM) : Hp := Hp.rec_ p.2.ad (RB p.2.bl p.2.tb) * tkHp p.2.tb p.2.bl.tk
abbrev vptr (a : Nat) : Value := .pointer (some ⟨a, 0, none⟩)
abbrev allHp (mb : Nat) (ms : List (Int × Nat)) : Hp := Hp.map Try.prog 3 (Lit.int .i64) vptr mb ms
def adr (bms : List (Int × BM)) : List (Int × Nat) := bms.map fun p => (p.1, p.2.ad)

abbrev MachAt (S g o cap mb : Nat) (vc vf vch : Value) (vs : List Vt) (bms : List (Int × BM)) (fl ch : List (Int × Int)) : Hp :=
  Hp.own FV 3 (.slice (some ⟨g, o, none⟩) vs.length cap) vs * (recS S (.slice (some ⟨g, o, none⟩) vs.length cap) (.map (some mb)) vc vf vch * (allHp mb (adr bms) * (Hp.own FB 2 vf fl * (Hp.own FB 2 vch ch * Hp.big balHp bms))))

theorem getM_adr (bms : List (Int × BM)) (k : Int) : getM (adr bms) k = (getM bms k).map (·.ad) := by
  induction bms with
  | nil => rfl
  | cons p l ih => simp only [adr, List.map_cons, getM] at ih ⊢; split <;> simp_all
theorem zeroP (w : World) : (zeroValue 47).run Try.prog w = .ok (.pointer none) w := by kernel_rfl

set_option maxHeartbeats 1000000 in
theorem step_kind {W w : World} {S g o cap mb : Nat} {vc vf vch : Value} {vs : List Vt} {t : Tr} {X : Hp}
    (H : Sat W w (Hp.own FV 3 (.slice (some ⟨g, o, none⟩) vs.length cap) vs * (recS S (.slice (some ⟨g, o, none⟩) vs.length cap) (.map (some mb)) vc vf vch * X))) (hk : t.kind < 1 ∨ 3 < t.kind) :
    Calls Try.prog 9 #[.pointer (some ⟨S, 0, none⟩), vT t] w fun e w' => e = .returned (.int .i64 4) ∧ Sat W w' (Hp.own FV 3 (.slice (some ⟨g, o, none⟩) vs.length cap) vs * (recS S (.slice (some ⟨g, o, none⟩) vs.length cap) (.map (some mb)) vc vf vch * X)) := by
  have HH := Lib.hid (H.alloc #[.int .i64 t.kind, .int .i64 t.ballot, .int .i64 t.who, .int .i64 t.val] 34 (FT t) rfl).drop
  clear H
  rcases hk with hk | hk
  · go_enter Try.func9, Try.ntmps9
    go_wp2_with fail
    go_ret
    exact ⟨rfl, HH.out⟩
  · have h1 : ¬ t.kind < 1 := by omega
    go_enter Try.func9, Try.ntmps9
    go_wp2_with fail
    go_ret
    exact ⟨rfl, HH.out⟩

set_option maxHeartbeats 2000000 in
theorem step_arg {W w : World} {S g o cap mb : Nat} {vc vf vch : Value} {vs : List Vt} {t : Tr} {bms : List (Int × BM)} {fl ch : List (Int × Int)} {R : Hp}
    (H : Sat W w (MachAt S g o cap mb vc vf vch vs bms fl ch * R)) (hk : 1 ≤ t.kind ∧ t.kind ≤ 3) (hwf : (Lit.int .i64 t.ballot).wf = true) (hb : t.ballot < 1 ∨ 1000 < t.ballot) :
    Calls Try.prog 9 #[.pointer (some ⟨S, 0, none⟩), vT t] w fun e w' => e = .returned (.int .i64 2) ∧ Sat W w' (MachAt S g o cap mb vc vf vch vs bms fl ch * R) := by
  obtain ⟨h1, h2⟩ := hk
  have HA := H.alloc #[.int .i64 t.kind, .int .i64 t.ballot, .int .i64 t.who, .int .i64 t.val] 34 (FT t) rfl
  have HS := HA.drop.assoc.sw.assoc
  have s0 : w.cell? ⟨S, 0, none⟩ = some (.slice (some ⟨g, o, none⟩) vs.length cap) := H.assoc.sw.assoc.cell 0 rfl
  have s1 : w.cell? ⟨S, 1, none⟩ = some (.map (some mb)) := H.assoc.sw.assoc.cell 1 rfl
  have hS := H.assoc.sw.assoc.rec_.1
  have hl := fun nq => ((HA.drewN nq).drop.assoc.drop.assoc.drop.assoc).look Try.kI Try.underlying43 (zeroP _) hwf true
  have HL := Lib.hid HA
  have HH := Lib.hid HA.drop
  have HW := Lib.hid hwf
  clear H HA HS hwf
  rw [getM_adr] at hl
  cases hg : getM bms t.ballot with
  | none =>
    rw [hg] at hl
    simp only [Option.map_none] at hl
    clear hg
    rcases hb with hb | hb
    · go_enter Try.func9, Try.ntmps9
      go_wp2_with fail
      all_goals first | (exfalso; omega) | skip
      go_quiet (fail)
      go_wp2_with fail
      all_goals first | (exfalso; omega) | skip
      all_goals first | (exfalso; omega) | (go_ret; exact ⟨rfl, HH.out.drewN _⟩)
    · go_enter Try.func9, Try.ntmps9
      go_wp2_with fail
      all_goals first | (exfalso; omega) | skip
      go_quiet (fail)
      go_wp2_with fail
      all_goals first | (exfalso; omega) | skip
      all_goals first | (exfalso; omega) | (go_ret; exact ⟨rfl, HH.out.drewN _⟩)
  | some a =>
    rw [hg] at hl
    simp only [Option.map_some, if_true] at hl
    have HG := Lib.hid hg
    clear hg
    rcases hb with hb | hb
    · go_enter Try.func9, Try.ntmps9
      go_wp2_with fail
      all_goals first | (exfalso; omega) | skip
      go_quiet (fail)
      go_wp2_with fail
      all_goals first | (exfalso; omega) | skip
      all_goals first | (exfalso; omega) | (go_ret; exact ⟨rfl, HH.out.drewN _⟩)
    · go_enter Try.func9, Try.ntmps9
      go_wp2_with fail
      all_goals first | (exfalso; omega) | skip
      go_quiet (fail)
      go_wp2_with fail
      all_goals first | (exfalso; omega) | skip
      all_goals first | (exfalso; omega) | (go_ret; exact ⟨rfl, HH.out.drewN _⟩)

set_option maxHeartbeats 2000000 in
theorem step_hold {W w : World} {S g o cap mb : Nat} {vc vf vch : Value} {vs : List Vt} {t : Tr} {bms : List (Int × BM)} {fl ch : List (Int × Int)} {R : Hp}
    (H : Sat W w (MachAt S g o cap mb vc vf vch vs bms fl ch * R)) (hk : t.kind = 1) (hwf : (Lit.int .i64 t.ballot).wf = true) (hb : 1 ≤ t.ballot ∧ t.ballot ≤ 1000) {a : BM} (hg : getM bms t.ballot = some a) :
    Calls Try.prog 9 #[.pointer (some ⟨S, 0, none⟩), vT t] w fun e w' => e = .returned (.int .i64 6) ∧ Sat W w' (MachAt S g o cap mb vc vf vch vs bms fl ch * R) := by
  obtain ⟨h1, h2⟩ := hb
  obtain ⟨tk, tb, tw, tv⟩ := t
  simp only at hk
  subst hk
  have HA := H.alloc #[.int .i64 1, .int .i64 tb, .int .i64 tw, .int .i64 tv] 34 (FT ⟨1, tb, tw, tv⟩) rfl
  have HS := HA.drop.assoc.sw.assoc
  have s0 : w.cell? ⟨S, 0, none⟩ = some (.slice (some ⟨g, o, none⟩) vs.length cap) := H.assoc.sw.assoc.cell 0 rfl
  have s1 : w.cell? ⟨S, 1, none⟩ = some (.map (some mb)) := H.assoc.sw.assoc.cell 1 rfl
  have hS := H.assoc.sw.assoc.rec_.1
  have hl := fun nq => ((HA.drewN nq).drop.assoc.drop.assoc.drop.assoc).look Try.kI Try.underlying43 (zeroP _) hwf true
  have HL := Lib.hid HA
  have HH := Lib.hid HA.drop
  have HW := Lib.hid hwf
  clear H HA HS hwf
  rw [getM_adr] at hl
  rw [hg] at hl
  simp only [Option.map_some, if_true] at hl
  have HG := Lib.hid hg
  clear hg
  go_enter Try.func9, Try.ntmps9
  go_wp2_with fail
  all_goals first | (exfalso; omega) | skip
  go_quiet (fail)
  go_wp2_with fail
  all_goals first | (exfalso; omega) | skip
  all_goals first | (exfalso; omega) | (go_ret; exact ⟨rfl, HH.out.drewN _⟩)

set_option maxHeartbeats 2000000 in
theorem step_none {W w : World} {S g o cap mb : Nat} {vc vf vch : Value} {vs : List Vt} {t : Tr} {bms : List (Int × BM)} {fl ch : List (Int × Int)} {R : Hp}
    (H : Sat W w (MachAt S g o cap mb vc vf vch vs bms fl ch * R)) (hk : 2 ≤ t.kind ∧ t.kind ≤ 3) (hwf : (Lit.int .i64 t.ballot).wf = true) (hb : 1 ≤ t.ballot ∧ t.ballot ≤ 1000) (hg : getM bms t.ballot = none) :
    Calls Try.prog 9 #[.pointer (some ⟨S, 0, none⟩), vT t] w fun e w' => e = .returned (.int .i64 2) ∧ Sat W w' (MachAt S g o cap mb vc vf vch vs bms fl ch * R) := by
  obtain ⟨h1, h2⟩ := hb
  obtain ⟨h3, h4⟩ := hk
  have h5 : (t.kind == 1) = false := by simp; omega
  have HA := H.alloc #[.int .i64 t.kind, .int .i64 t.ballot, .int .i64 t.who, .int .i64 t.val] 34 (FT t) rfl
  have HS := HA.drop.assoc.sw.assoc
  have s0 : w.cell? ⟨S, 0, none⟩ = some (.slice (some ⟨g, o, none⟩) vs.length cap) := H.assoc.sw.assoc.cell 0 rfl
  have s1 : w.cell? ⟨S, 1, none⟩ = some (.map (some mb)) := H.assoc.sw.assoc.cell 1 rfl
  have hS := H.assoc.sw.assoc.rec_.1
  have hl := fun nq => ((HA.drewN nq).drop.assoc.drop.assoc.drop.assoc).look Try.kI Try.underlying43 (zeroP _) hwf true
  have HL := Lib.hid HA
  have HH := Lib.hid HA.drop
  have HW := Lib.hid hwf
  clear H HA HS hwf
  rw [getM_adr] at hl
  rw [hg] at hl
  simp only [Option.map_none] at hl
  clear hg
  go_enter Try.func9, Try.ntmps9
  go_wp2_with fail
  all_goals first | (exfalso; omega) | skip
  go_quiet (fail)
  go_wp2_with fail
  all_goals first | (exfalso; omega) | skip
  go_quiet (fail)
  go_wp2_with fail
  all_goals first | (exfalso; omega) | (go_ret; exact ⟨rfl, (HH.out.drewN _).drewN _⟩)

set_option maxHeartbeats 2000000 in
theorem step_who {W w : World} {S g o cap mb : Nat} {vc vf vch : Value} {vs : List Vt} {t : Tr} {bms : List (Int × BM)} {fl ch : List (Int × Int)} {R : Hp}
    (H : Sat W w (MachAt S g o cap mb vc vf vch vs bms fl ch * R)) (hk : 2 ≤ t.kind ∧ t.kind ≤ 3) (hwf : (Lit.int .i64 t.ballot).wf = true) (hb : 1 ≤ t.ballot ∧ t.ballot ≤ 1000) {a : BM} (hg : getM bms t.ballot = some a) (hw : t.who < 0 ∨ (vs.length : Int) ≤ t.who) :
    Calls Try.prog 9 #[.pointer (some ⟨S, 0, none⟩), vT t] w fun e w' => e = .returned (.int .i64 2) ∧ Sat W w' (MachAt S g o cap mb vc vf vch vs bms fl ch * R) := by
  obtain ⟨h1, h2⟩ := hb
  obtain ⟨h3, h4⟩ := hk
  have h5 : (t.kind == 1) = false := by simp; omega
  have HA := H.alloc #[.int .i64 t.kind, .int .i64 t.ballot, .int .i64 t.who, .int .i64 t.val] 34 (FT t) rfl
  have HS := HA.drop.assoc.sw.assoc
  have s0 : w.cell? ⟨S, 0, none⟩ = some (.slice (some ⟨g, o, none⟩) vs.length cap) := H.assoc.sw.assoc.cell 0 rfl
  have s1 : w.cell? ⟨S, 1, none⟩ = some (.map (some mb)) := H.assoc.sw.assoc.cell 1 rfl
  have hS := H.assoc.sw.assoc.rec_.1
  have hl := fun nq => ((HA.drewN nq).drop.assoc.drop.assoc.drop.assoc).look Try.kI Try.underlying43 (zeroP _) hwf true
  have HL := Lib.hid HA
  have HH := Lib.hid HA.drop
  have HW := Lib.hid hwf
  clear H HA HS hwf
  rw [getM_adr] at hl
  rw [hg] at hl
  simp only [Option.map_some, if_true] at hl
  have HG := Lib.hid hg
  clear hg
  by_cases hw1 : t.who < 0
  · clear hw
    go_enter Try.func9, Try.ntmps9
    go_wp2_with fail
    all_goals first | (exfalso; omega) | skip
    go_quiet (fail)
    go_wp2_with fail
    all_goals first | (exfalso; omega) | skip
    go_quiet (fail)
    go_wp2_with fail
    all_goals first | (exfalso; omega) | (go_ret; exact ⟨rfl, (HH.out.drewN _).drewN _⟩)
  · have hw2 : (vs.length : Int) ≤ t.who := by omega
    have hw3 : decide (t.who < 0) = false := by simpa using hw1
    clear hw
    go_enter Try.func9, Try.ntmps9
    go_wp2_with fail
    all_goals first | (exfalso; omega) | skip
    go_quiet (fail)
    go_wp2_with fail
    all_goals first | (exfalso; omega) | skip
    go_quiet (fail)
    go_wp2_with fail
    all_goals first | (exfalso; omega) | (go_ret; exact ⟨rfl, (HH.out.drewN _).drewN _⟩)


end Go.Proofs.Ytbakeeempbadcaa
