/- A step. The walks. No condition. -/
import Derived.Test.YtcjdphhofjibdaaA3
namespace Go.Proofs.Ytcjdphhofjibdaa
open Go.RowKit
set_option linter.unusedVariables false
set_option linter.unusedSimpArgs false
set_option maxRecDepth 100000

def slA : Value → Option Addr
  | .slice a _ _ => a
  | _ => none
def slN : Value → Nat
  | .slice _ n _ => n
  | _ => 0
def slC : Value → Nat
  | .slice _ _ c => c
  | _ => 0
structure RowC (n L N : Nat) (p : Pt) : Prop where
  cl : p.cnt.length = n
  ll : p.lst.length + p.wts.length ≤ L
  cb : ∀ x ∈ p.cnt, x + p.wts.length ≤ L
  pw : ∀ m ∈ p.wts, m < N
  sw : p.wts.Pairwise (· ≤ ·)
  cm : p.cm.length ≤ L
  ck : ∀ e ∈ p.cm, e.2 ≤ L
structure BdC (n L : Nat) (s : CS) : Prop where
  len : s.ps.length = n
  al : s.all.length ≤ L
  fr : ∀ m ∈ s.all, m.frm < n ∧ m.need.length = n
  row : ∀ p ∈ s.ps, RowC n L s.all.length p
theorem cmN_le {n L N : Nat} {p : Pt} (h : RowC n L N p) (m : Nat) : cmN p m ≤ L := by
  unfold cmN
  cases e : getM p.cm m with
  | none => exact Nat.zero_le _
  | some x => exact h.ck _ (getM_some e)
theorem cmN_val (p : Pt) (m : Nat) : ((getM p.cm m).map natV).getD (Value.int .i64 0) = .int .i64 ((cmN p m : Nat) : Int) := by
  unfold cmN; cases getM p.cm m <;> rfl
theorem set_bM {pms : List Pm} {i : Nat} {m y : Pm} (hk : pms[i]? = some m) (hy : y.b = m.b) : (pms.set i y).map Pm.b = pms.map Pm.b := by
  refine List.ext_getElem? fun j => ?_
  rw [List.getElem?_map, List.getElem?_map]
  by_cases e : i = j
  · subst e; rw [List.getElem?_set_self (List.getElem?_eq_some_iff.1 hk).1, hk]; simp [hy]
  · rw [List.getElem?_set_ne e]
theorem WOk.row {mms : List Mm} {pms : List Pm} {s : CS} (h : WOk mms pms s) {i : Nat} {p : Pt} (hp : s.ps[i]? = some p) : ∃ pm, pms[i]? = some pm ∧ pm.p = p ∧ POk pm := by
  have := hp
  rw [← h.ps, List.getElem?_map] at this
  cases e : pms[i]? with
  | none => rw [e] at this; cases this
  | some pm => rw [e] at this; exact ⟨pm, rfl, Option.some.inj this, h.ok pm (List.mem_of_getElem? e)⟩
theorem WOk.msg {mms : List Mm} {pms : List Pm} {s : CS} (h : WOk mms pms s) {i : Nat} {a : Ms} (hp : s.all[i]? = some a) : ∃ mm, mms[i]? = some mm ∧ toMs mm = a := by
  have := hp
  rw [← h.all, List.getElem?_map] at this
  cases e : mms[i]? with
  | none => rw [e] at this; cases this
  | some mm => rw [e] at this; exact ⟨mm, rfl, Option.some.inj this⟩
theorem WOk.put {mms : List Mm} {pms : List Pm} {s : CS} (h : WOk mms pms s) (i : Nat) {y : Pm} (hy : POk y) : WOk mms (pms.set i y) ⟨s.all, s.ps.set i y.p⟩ :=
  ⟨h.all, by rw [List.map_set, h.ps], fun m hm => by
    rcases List.mem_or_eq_of_mem_set hm with q | rfl
    · exact h.ok m q
    · exact hy⟩
theorem stl_cm (all : List Ms) : ∀ (k : Nat) (p : Pt), (stl all k p).cm = p.cm
  | 0, p => rfl
  | k + 1, p => by
    rw [stl]
    split
    · rfl
    · rw [stl_cm all k]; unfold hear; split <;> rfl
theorem step_kind {W w : World} {S : Nat} {av pv : Value} {mms : List Mm} {pms : List Pm} {s : CS} {n L : Nat} {R : Hp} {kd wh mg : Int} (hk : kd ≠ 1 ∧ kd ≠ 2) (hW : WOk mms pms s) (hB : BdC n L s) (hn1 : 1 ≤ n) (hn6 : n ≤ 6) (hL : L ≤ 400) (H : Sat W w (sep (WL S av pv mms pms R))) :
    Calls Try.prog 14 #[ptr S 0, .agg #[.int .i64 kd, .int .i64 wh, .int .i64 mg]] w (Ret W fun v l => v = .int .i64 4 ∧ sep l = sep (WL S av pv mms pms R)) := by
  have hpl : pms.length = n := by rw [← hB.len, ← hW.ps, List.length_map]
  have hal : mms.length ≤ 400 := by have := hB.al; rw [← hW.all, List.length_map] at this; omega
  have hall : mms.length = s.all.length := by rw [← hW.all, List.length_map]
  have hfr : ∀ z ∈ mms, z.frm < n ∧ z.need.length = n := fun z hz => hB.fr (toMs z) (by rw [← hW.all]; exact List.mem_map_of_mem hz)
  refine Gx.enter (l := [Hp.rec_ S [av, pv], Hp.own FA 2 av mms, Hp.big needH mms, Hp.own FP 1 pv (pms.map Pm.b), Hp.big procH pms, R]) Try.func14 rfl Try.ntmps14 rfl (H) ?_
  refine Gx.know (m' := [(0, ptr S 0), (1, .agg #[.int .i64 kd, .int .i64 wh, .int .i64 mg])]) (.cons rfl (.cons rfl .nil)) ?_
  refine Gx.seq ?_
  refine Gx.region ?_
  refine Gx.eff rfl rfl rfl (eff_box rfl rfl (vs := [.int .i64 kd, .int .i64 wh, .int .i64 mg]) rfl) ?_
  rintro _ _ ⟨b1, rfl, rfl⟩
  refine Gx.val rfl rfl rfl (val_assign rfl rfl) ?_
  refine Gx.done ?_
  refine Gx.thenN ?_
  refine Gx.seq ?_
  refine Gx.seq ?_
  refine Gx.region ?_
  refine Gx.val rfl rfl rfl (Val.cast (val_fieldAddr rfl Try.underlying35 rfl Try.ty3 rfl rfl) (v' := ptr b1 0) rfl) ?_
  refine Gx.val rfl rfl rfl (val_load rfl Try.ty3 rfl rfl (cell_rec (k := 0) rfl rfl)) ?_
  refine Gx.val rfl rfl rfl (val_neq rfl rfl rfl) ?_
  refine Gx.val rfl rfl rfl (val_move rfl rfl) ?_
  refine Gx.slot (t := 11) (v := .bool true) (look_decT rfl (by omega)) ?_
  refine Gx.valg rfl rfl rfl rfl rfl (Val.cast (val_fieldAddr rfl Try.underlying35 rfl Try.ty3 rfl rfl) (v' := ptr b1 0) rfl) ?_
  refine Gx.valg rfl rfl rfl rfl rfl (val_load rfl Try.ty3 rfl rfl (cell_rec (k := 0) rfl rfl)) ?_
  refine Gx.valg rfl rfl rfl rfl rfl (val_neq rfl rfl rfl) ?_
  refine Gx.val rfl rfl rfl (val_pickT rfl rfl rfl) ?_
  refine Gx.done ?_
  refine Gx.thenN ?_
  refine Gx.decT rfl (by omega) ?_
  refine Gx.seq ?_
  refine Gx.region ?_
  refine Gx.val rfl rfl rfl (val_assign rfl rfl) ?_
  refine Gx.done ?_
  refine Gx.thenN ?_
  refine Gx.ret ?_
  refine Gx.thenR ?_
  refine Gx.drop 0 rfl ?_
  refine Gx.front 5 rfl ?_
  refine Gx.front 5 rfl ?_
  refine Gx.front 5 rfl ?_
  refine Gx.front 5 rfl ?_
  refine Gx.front 5 rfl ?_
  refine Gx.front 5 rfl ?_
  refine Gx.ret1 Try.results14 rfl ?_
  exact ⟨rfl, rfl⟩

theorem step_who {W w : World} {S : Nat} {av pv : Value} {mms : List Mm} {pms : List Pm} {s : CS} {n L : Nat} {R : Hp} {kd wh mg : Int} (hk : kd = 1 ∨ kd = 2) (hw : wh < 0 ∨ (n : Int) ≤ wh) (hW : WOk mms pms s) (hB : BdC n L s) (hn1 : 1 ≤ n) (hn6 : n ≤ 6) (hL : L ≤ 400) (H : Sat W w (sep (WL S av pv mms pms R))) :
    Calls Try.prog 14 #[ptr S 0, .agg #[.int .i64 kd, .int .i64 wh, .int .i64 mg]] w (Ret W fun v l => v = .int .i64 2 ∧ sep l = sep (WL S av pv mms pms R)) := by
  have hpl : pms.length = n := by rw [← hB.len, ← hW.ps, List.length_map]
  have hal : mms.length ≤ 400 := by have := hB.al; rw [← hW.all, List.length_map] at this; omega
  have hall : mms.length = s.all.length := by rw [← hW.all, List.length_map]
  have hfr : ∀ z ∈ mms, z.frm < n ∧ z.need.length = n := fun z hz => hB.fr (toMs z) (by rw [← hW.all]; exact List.mem_map_of_mem hz)
  refine Gx.enter (l := [Hp.rec_ S [av, pv], Hp.own FA 2 av mms, Hp.big needH mms, Hp.own FP 1 pv (pms.map Pm.b), Hp.big procH pms, R]) Try.func14 rfl Try.ntmps14 rfl (H) ?_
  refine Gx.know (m' := [(0, ptr S 0), (1, .agg #[.int .i64 kd, .int .i64 wh, .int .i64 mg])]) (.cons rfl (.cons rfl .nil)) ?_
  refine Gx.seq ?_
  refine Gx.region ?_
  refine Gx.eff rfl rfl rfl (eff_box rfl rfl (vs := [.int .i64 kd, .int .i64 wh, .int .i64 mg]) rfl) ?_
  rintro _ _ ⟨b1, rfl, rfl⟩
  refine Gx.val rfl rfl rfl (val_assign rfl rfl) ?_
  refine Gx.done ?_
  refine Gx.thenN ?_
  refine Gx.seq ?_
  refine Gx.seq ?_
  refine Gx.region ?_
  refine Gx.val rfl rfl rfl (Val.cast (val_fieldAddr rfl Try.underlying35 rfl Try.ty3 rfl rfl) (v' := ptr b1 0) rfl) ?_
  refine Gx.val rfl rfl rfl (val_load rfl Try.ty3 rfl rfl (cell_rec (k := 0) rfl rfl)) ?_
  refine Gx.val rfl rfl rfl (val_neq rfl rfl rfl) ?_
  refine Gx.val rfl rfl rfl (val_move rfl rfl) ?_
  refine Gx.cases (t := 11) rfl (fun h2 => ?_) (fun h2 => ?_)
  · refine Gx.valg rfl rfl rfl rfl rfl (Val.cast (val_fieldAddr rfl Try.underlying35 rfl Try.ty3 rfl rfl) (v' := ptr b1 0) rfl) ?_
    refine Gx.valg rfl rfl rfl rfl rfl (val_load rfl Try.ty3 rfl rfl (cell_rec (k := 0) rfl rfl)) ?_
    refine Gx.valg rfl rfl rfl rfl rfl (val_neq rfl rfl rfl) ?_
    refine Gx.val rfl rfl rfl (val_pickT rfl rfl rfl) ?_
    refine Gx.done ?_
    refine Gx.thenN ?_
    refine Gx.decF rfl (by omega) ?_
    refine Gx.skip ?_
    refine Gx.thenN ?_
    refine Gx.seq ?_
    refine Gx.seq ?_
    refine Gx.regionQ Try.mixed (by kernel_rfl) ?_
    refine Gq.val rfl rfl rfl (Val.cast (val_fieldAddr rfl Try.underlying35 rfl Try.ty3 rfl rfl) (v' := ptr b1 1) rfl) ?_
    refine Gq.val rfl rfl rfl (val_load rfl Try.ty3 rfl rfl (cell_rec (k := 0) rfl rfl)) ?_
    refine Gq.val rfl rfl rfl (val_lss rfl rfl rfl) ?_
    refine Gq.val rfl rfl rfl (val_move rfl rfl) ?_
    refine Gq.cases (t := 19) rfl (fun h3 => ?_) (fun h3 => ?_)
    · refine Gq.skipg rfl rfl rfl rfl rfl rfl ?_
      refine Gq.skipg rfl rfl rfl rfl rfl rfl ?_
      refine Gq.skipg rfl rfl rfl rfl rfl rfl ?_
      refine Gq.skipg rfl rfl rfl rfl rfl rfl ?_
      refine Gq.skipg rfl rfl rfl rfl rfl rfl ?_
      refine Gq.skipg rfl rfl rfl rfl rfl rfl ?_
      refine Gq.skipg rfl rfl rfl rfl rfl rfl ?_
      refine Gq.skipg rfl rfl rfl rfl rfl rfl ?_
      refine Gq.val rfl rfl rfl (val_pickT rfl rfl rfl) ?_
      refine Gq.done ?_
      refine Gx.thenN ?_
      refine Gx.t rfl ?_
      refine Gx.seq ?_
      refine Gx.region ?_
      refine Gx.val rfl rfl rfl (val_assign rfl rfl) ?_
      refine Gx.done ?_
      refine Gx.thenN ?_
      refine Gx.ret ?_
      refine Gx.thenR ?_
      refine Gx.drop 0 rfl ?_
      refine Gx.front 5 rfl ?_
      refine Gx.front 5 rfl ?_
      refine Gx.front 5 rfl ?_
      refine Gx.front 5 rfl ?_
      refine Gx.front 5 rfl ?_
      refine Gx.front 5 rfl ?_
      refine Gx.ret1 Try.results14 rfl ?_
      exact ⟨rfl, rfl⟩
    · refine Gq.valg rfl rfl rfl rfl rfl (Val.cast (val_fieldAddr rfl Try.underlying35 rfl Try.ty3 rfl rfl) (v' := ptr b1 1) rfl) ?_
      refine Gq.valg rfl rfl rfl rfl rfl (val_load rfl Try.ty3 rfl rfl (cell_rec (k := 0) rfl rfl)) ?_
      refine Gq.valg rfl rfl rfl rfl rfl (val_move rfl rfl) ?_
      refine Gq.valg rfl rfl rfl rfl rfl (val_nilCheck rfl rfl) ?_
      refine Gq.valg rfl rfl rfl rfl rfl (Val.cast (val_fieldAddr rfl Try.underlying45 rfl Try.ty43 rfl rfl) (v' := ptr S 1) rfl) ?_
      refine Gq.valg rfl rfl rfl rfl rfl (val_load rfl Try.ty43 rfl rfl (cell_rec (k := 1) rfl rfl)) ?_
      refine Gq.valg rfl rfl rfl rfl rfl (val_len rfl Try.underlying43 rfl (len_own (k := 4) rfl)) ?_
      refine Gq.valg rfl rfl rfl rfl rfl (val_geq rfl rfl rfl) ?_
      refine Gq.val rfl rfl rfl (val_pickF rfl rfl rfl) ?_
      refine Gq.done ?_
      refine Gx.thenN ?_
      refine Gx.decT rfl (by simp only [List.length_map]; omega) ?_
      refine Gx.seq ?_
      refine Gx.region ?_
      refine Gx.val rfl rfl rfl (val_assign rfl rfl) ?_
      refine Gx.done ?_
      refine Gx.thenN ?_
      refine Gx.ret ?_
      refine Gx.thenR ?_
      refine Gx.drop 0 rfl ?_
      refine Gx.front 5 rfl ?_
      refine Gx.front 5 rfl ?_
      refine Gx.front 5 rfl ?_
      refine Gx.front 5 rfl ?_
      refine Gx.front 5 rfl ?_
      refine Gx.front 5 rfl ?_
      refine Gx.ret1 Try.results14 rfl ?_
      exact ⟨rfl, rfl⟩
  · refine Gx.skipg rfl rfl rfl rfl rfl rfl ?_
    refine Gx.skipg rfl rfl rfl rfl rfl rfl ?_
    refine Gx.skipg rfl rfl rfl rfl rfl rfl ?_
    refine Gx.val rfl rfl rfl (val_pickF rfl rfl rfl) ?_
    refine Gx.done ?_
    refine Gx.thenN ?_
    refine Gx.f rfl ?_
    refine Gx.skip ?_
    refine Gx.thenN ?_
    refine Gx.seq ?_
    refine Gx.seq ?_
    refine Gx.regionQ Try.mixed (by kernel_rfl) ?_
    refine Gq.val rfl rfl rfl (Val.cast (val_fieldAddr rfl Try.underlying35 rfl Try.ty3 rfl rfl) (v' := ptr b1 1) rfl) ?_
    refine Gq.val rfl rfl rfl (val_load rfl Try.ty3 rfl rfl (cell_rec (k := 0) rfl rfl)) ?_
    refine Gq.val rfl rfl rfl (val_lss rfl rfl rfl) ?_
    refine Gq.val rfl rfl rfl (val_move rfl rfl) ?_
    refine Gq.cases (t := 19) rfl (fun h4 => ?_) (fun h4 => ?_)
    · refine Gq.skipg rfl rfl rfl rfl rfl rfl ?_
      refine Gq.skipg rfl rfl rfl rfl rfl rfl ?_
      refine Gq.skipg rfl rfl rfl rfl rfl rfl ?_
      refine Gq.skipg rfl rfl rfl rfl rfl rfl ?_
      refine Gq.skipg rfl rfl rfl rfl rfl rfl ?_
      refine Gq.skipg rfl rfl rfl rfl rfl rfl ?_
      refine Gq.skipg rfl rfl rfl rfl rfl rfl ?_
      refine Gq.skipg rfl rfl rfl rfl rfl rfl ?_
      refine Gq.val rfl rfl rfl (val_pickT rfl rfl rfl) ?_
      refine Gq.done ?_
      refine Gx.thenN ?_
      refine Gx.t rfl ?_
      refine Gx.seq ?_
      refine Gx.region ?_
      refine Gx.val rfl rfl rfl (val_assign rfl rfl) ?_
      refine Gx.done ?_
      refine Gx.thenN ?_
      refine Gx.ret ?_
      refine Gx.thenR ?_
      refine Gx.drop 0 rfl ?_
      refine Gx.front 5 rfl ?_
      refine Gx.front 5 rfl ?_
      refine Gx.front 5 rfl ?_
      refine Gx.front 5 rfl ?_
      refine Gx.front 5 rfl ?_
      refine Gx.front 5 rfl ?_
      refine Gx.ret1 Try.results14 rfl ?_
      exact ⟨rfl, rfl⟩
    · refine Gq.valg rfl rfl rfl rfl rfl (Val.cast (val_fieldAddr rfl Try.underlying35 rfl Try.ty3 rfl rfl) (v' := ptr b1 1) rfl) ?_
      refine Gq.valg rfl rfl rfl rfl rfl (val_load rfl Try.ty3 rfl rfl (cell_rec (k := 0) rfl rfl)) ?_
      refine Gq.valg rfl rfl rfl rfl rfl (val_move rfl rfl) ?_
      refine Gq.valg rfl rfl rfl rfl rfl (val_nilCheck rfl rfl) ?_
      refine Gq.valg rfl rfl rfl rfl rfl (Val.cast (val_fieldAddr rfl Try.underlying45 rfl Try.ty43 rfl rfl) (v' := ptr S 1) rfl) ?_
      refine Gq.valg rfl rfl rfl rfl rfl (val_load rfl Try.ty43 rfl rfl (cell_rec (k := 1) rfl rfl)) ?_
      refine Gq.valg rfl rfl rfl rfl rfl (val_len rfl Try.underlying43 rfl (len_own (k := 4) rfl)) ?_
      refine Gq.valg rfl rfl rfl rfl rfl (val_geq rfl rfl rfl) ?_
      refine Gq.val rfl rfl rfl (val_pickF rfl rfl rfl) ?_
      refine Gq.done ?_
      refine Gx.thenN ?_
      refine Gx.decT rfl (by simp only [List.length_map]; omega) ?_
      refine Gx.seq ?_
      refine Gx.region ?_
      refine Gx.val rfl rfl rfl (val_assign rfl rfl) ?_
      refine Gx.done ?_
      refine Gx.thenN ?_
      refine Gx.ret ?_
      refine Gx.thenR ?_
      refine Gx.drop 0 rfl ?_
      refine Gx.front 5 rfl ?_
      refine Gx.front 5 rfl ?_
      refine Gx.front 5 rfl ?_
      refine Gx.front 5 rfl ?_
      refine Gx.front 5 rfl ?_
      refine Gx.front 5 rfl ?_
      refine Gx.ret1 Try.results14 rfl ?_
      exact ⟨rfl, rfl⟩

theorem step_send {W w : World} {S : Nat} {av pv : Value} {mms : List Mm} {pms : List Pm} {s : CS} {n L : Nat} {R : Hp} {i : Nat} {mg : Int} {pm : Pm} {p : Pt} (hp : s.ps[i]? = some p) (hpm : pms[i]? = some pm) (hpq : pm.p = p) (hok : POk pm) (hin : i < n) (hW : WOk mms pms s) (hB : BdC n L s) (hn1 : 1 ≤ n) (hn6 : n ≤ 6) (hL : L ≤ 400) (H : Sat W w (sep (WL S av pv mms pms R))) :
    Calls Try.prog 14 #[ptr S 0, .agg #[.int .i64 1, .int .i64 ((i : Nat) : Int), .int .i64 mg]] w (Ret W fun v l => ∃ (av' : Value) (sa : Option Addr) (sn sc : Nat) (lw : Value) (x : Nat), pm.p.cnt[i]? = some x ∧ IsS lw ∧ v = .int .i64 0 ∧ sep l = sep (WL S av' pv (mms ++ [(⟨i, sa, sn, sc, pm.p.cnt⟩ : Mm)]) (pms.set i (⟨pm.b, pm.mb, lw, pm.cv, pm.wv, ⟨pm.p.lst ++ [mms.length], pm.p.cnt.set i (x + 1), pm.p.cm, pm.p.wts⟩⟩ : Pm)) R)) := by
  have hpl : pms.length = n := by rw [← hB.len, ← hW.ps, List.length_map]
  have hal : mms.length ≤ 400 := by have := hB.al; rw [← hW.all, List.length_map] at this; omega
  have hall : mms.length = s.all.length := by rw [← hW.all, List.length_map]
  have hfr : ∀ z ∈ mms, z.frm < n ∧ z.need.length = n := fun z hz => hB.fr (toMs z) (by rw [← hW.all]; exact List.mem_map_of_mem hz)
  refine Gx.enter (l := [Hp.rec_ S [av, pv], Hp.own FA 2 av mms, Hp.big needH mms, Hp.own FP 1 pv (pms.map Pm.b), Hp.big procH pms, R]) Try.func14 rfl Try.ntmps14 rfl (H) ?_
  refine Gx.know (m' := [(0, ptr S 0), (1, .agg #[.int .i64 1, .int .i64 ((i : Nat) : Int), .int .i64 mg])]) (.cons rfl (.cons rfl .nil)) ?_
  refine Gx.seq ?_
  refine Gx.region ?_
  refine Gx.eff rfl rfl rfl (eff_box rfl rfl (vs := [.int .i64 1, .int .i64 ((i : Nat) : Int), .int .i64 mg]) rfl) ?_
  rintro _ _ ⟨b1, rfl, rfl⟩
  refine Gx.val rfl rfl rfl (val_assign rfl rfl) ?_
  refine Gx.done ?_
  refine Gx.thenN ?_
  refine Gx.seq ?_
  refine Gx.seq ?_
  refine Gx.region ?_
  refine Gx.val rfl rfl rfl (Val.cast (val_fieldAddr rfl Try.underlying35 rfl Try.ty3 rfl rfl) (v' := ptr b1 0) rfl) ?_
  refine Gx.val rfl rfl rfl (val_load rfl Try.ty3 rfl rfl (cell_rec (k := 0) rfl rfl)) ?_
  refine Gx.val rfl rfl rfl (Val.cast (val_neq rfl rfl rfl) (v' := .bool false) rfl) ?_
  refine Gx.val rfl rfl rfl (val_move rfl rfl) ?_
  refine Gx.skipg rfl rfl rfl rfl rfl rfl ?_
  refine Gx.skipg rfl rfl rfl rfl rfl rfl ?_
  refine Gx.skipg rfl rfl rfl rfl rfl rfl ?_
  refine Gx.val rfl rfl rfl (val_pickF rfl rfl rfl) ?_
  refine Gx.done ?_
  refine Gx.thenN ?_
  refine Gx.f rfl ?_
  refine Gx.skip ?_
  refine Gx.thenN ?_
  refine Gx.seq ?_
  refine Gx.seq ?_
  refine Gx.regionQ Try.mixed (by kernel_rfl) ?_
  refine Gq.val rfl rfl rfl (Val.cast (val_fieldAddr rfl Try.underlying35 rfl Try.ty3 rfl rfl) (v' := ptr b1 1) rfl) ?_
  refine Gq.val rfl rfl rfl (val_load rfl Try.ty3 rfl rfl (cell_rec (k := 0) rfl rfl)) ?_
  refine Gq.val rfl rfl rfl (val_lss rfl rfl rfl) ?_
  refine Gq.val rfl rfl rfl (val_move rfl rfl) ?_
  refine Gq.slot (t := 19) (v := .bool false) (look_decF rfl (by first | omega | (simp only [List.length_map]; omega))) ?_
  refine Gq.valg rfl rfl rfl rfl rfl (Val.cast (val_fieldAddr rfl Try.underlying35 rfl Try.ty3 rfl rfl) (v' := ptr b1 1) rfl) ?_
  refine Gq.valg rfl rfl rfl rfl rfl (val_load rfl Try.ty3 rfl rfl (cell_rec (k := 0) rfl rfl)) ?_
  refine Gq.valg rfl rfl rfl rfl rfl (val_move rfl rfl) ?_
  refine Gq.valg rfl rfl rfl rfl rfl (val_nilCheck rfl rfl) ?_
  refine Gq.valg rfl rfl rfl rfl rfl (Val.cast (val_fieldAddr rfl Try.underlying45 rfl Try.ty43 rfl rfl) (v' := ptr S 1) rfl) ?_
  refine Gq.valg rfl rfl rfl rfl rfl (val_load rfl Try.ty43 rfl rfl (cell_rec (k := 1) rfl rfl)) ?_
  refine Gq.valg rfl rfl rfl rfl rfl (val_len rfl Try.underlying43 rfl (len_own (k := 4) rfl)) ?_
  refine Gq.valg rfl rfl rfl rfl rfl (val_geq rfl rfl rfl) ?_
  refine Gq.val rfl rfl rfl (val_pickF rfl rfl rfl) ?_
  refine Gq.done ?_
  refine Gx.thenN ?_
  refine Gx.decF rfl (by first | omega | (simp only [List.length_map]; omega)) ?_
  refine Gx.skip ?_
  refine Gx.thenN ?_
  refine Gx.seq ?_
  have hbm : (pms.map Pm.b)[i]? = some pm.b := by rw [List.getElem?_map, hpm]; rfl
  refine Gx.regionQ Try.mixed (by kernel_rfl) ?_
  refine Gq.val rfl rfl rfl (val_move rfl rfl) ?_
  refine Gq.val rfl rfl rfl (val_nilCheck rfl rfl) ?_
  refine Gq.val rfl rfl rfl (Val.cast (val_fieldAddr rfl Try.underlying45 rfl Try.ty43 rfl rfl) (v' := ptr S 1) rfl) ?_
  refine Gq.val rfl rfl rfl (val_load rfl Try.ty43 rfl rfl (cell_rec (k := 1) rfl rfl)) ?_
  refine Gq.val rfl rfl rfl (Val.cast (val_fieldAddr rfl Try.underlying35 rfl Try.ty3 rfl rfl) (v' := ptr b1 1) rfl) ?_
  refine Gq.val rfl rfl rfl (val_load rfl Try.ty3 rfl rfl (cell_rec (k := 0) rfl rfl)) ?_
  refine Gq.val rfl rfl rfl (val_ixa rfl Try.underlying43 Try.ty46 rfl rfl (j := i) (rfl) (reach_own (k := 4) rfl hbm)) ?_
  refine Gq.val rfl rfl rfl (val_load rfl Try.ty46 rfl rfl (cell_own (i := 0) (k := 4) rfl hbm rfl)) ?_
  refine Gq.val rfl rfl rfl (val_assign rfl rfl) ?_
  refine Gq.done ?_
  refine Gx.thenN ?_
  refine Gx.seq ?_
  refine Gx.seq ?_
  refine Gx.region ?_
  refine Gx.val rfl rfl rfl (Val.cast (val_fieldAddr rfl Try.underlying35 rfl Try.ty3 rfl rfl) (v' := ptr b1 0) rfl) ?_
  refine Gx.val rfl rfl rfl (val_load rfl Try.ty3 rfl rfl (cell_rec (k := 0) rfl rfl)) ?_
  refine Gx.val rfl rfl rfl (Val.cast (val_eql rfl rfl rfl) (v' := .bool true) rfl) ?_
  refine Gx.done ?_
  refine Gx.thenN ?_
  refine Gx.t rfl ?_
  refine Gx.seq ?_
  have hrow := hB.row pm.p (List.mem_of_getElem? (hpq ▸ hp))
  have hcl := hrow.cl
  have hll := hrow.ll
  refine Gx.focus (n := 5) (k := i) rfl hpm (fun R2 hf3 hg4 => ?_)
  refine Gx.norm (l' := [Hp.rec_ b1 [.int .i64 1, .int .i64 ((i : Nat) : Int), .int .i64 mg], Hp.rec_ S [av, pv], Hp.own FA 2 av mms, Hp.big needH mms, Hp.own FP 1 pv (pms.map Pm.b), procH pm, R, R2]) rfl ?_
  refine Gx.cleave 5 (p := Hp.rec_ pm.b [pm.lv, pm.cv, .map (some pm.mb), pm.wv]) (q := Hp.map Try.prog 3 natL natV pm.mb pm.p.cm * (Hp.own FN 1 pm.lv pm.p.lst * (Hp.own FN 1 pm.cv pm.p.cnt * (Hp.own FN 1 pm.wv pm.p.wts)))) rfl rfl rfl ?_
  refine Gx.cleave 1 (p := Hp.map Try.prog 3 natL natV pm.mb pm.p.cm) (q := Hp.own FN 1 pm.lv pm.p.lst * (Hp.own FN 1 pm.cv pm.p.cnt * (Hp.own FN 1 pm.wv pm.p.wts))) rfl rfl rfl ?_
  refine Gx.cleave 1 (p := Hp.own FN 1 pm.lv pm.p.lst) (q := Hp.own FN 1 pm.cv pm.p.cnt * (Hp.own FN 1 pm.wv pm.p.wts)) rfl rfl rfl ?_
  refine Gx.cleave 1 (p := Hp.own FN 1 pm.cv pm.p.cnt) (q := Hp.own FN 1 pm.wv pm.p.wts) rfl rfl rfl ?_
  refine Gx.norm (l' := [Hp.own FN 1 pm.cv pm.p.cnt, Hp.own FN 1 pm.wv pm.p.wts, Hp.own FN 1 pm.lv pm.p.lst, Hp.map Try.prog 3 natL natV pm.mb pm.p.cm, Hp.rec_ pm.b [pm.lv, pm.cv, .map (some pm.mb), pm.wv], Hp.rec_ b1 [.int .i64 1, .int .i64 ((i : Nat) : Int), .int .i64 mg], Hp.rec_ S [av, pv], Hp.own FA 2 av mms, Hp.big needH mms, Hp.own FP 1 pv (pms.map Pm.b), R, R2]) (rfl) ?_
  refine Gx.regionO (fun j => j == 11 || j == 13 || j == 14) 17 [0, 1, 2, 3, 4, 5, 6, 7, 8, 9, 10, 11, 12, 13, 14, 15, 16] (fun us => match us with | [] => [Hp.own FN 1 pm.cv pm.p.cnt, Hp.own FN 1 pm.wv pm.p.wts, Hp.own FN 1 pm.lv pm.p.lst, Hp.map Try.prog 3 natL natV pm.mb pm.p.cm, Hp.rec_ pm.b [pm.lv, pm.cv, .map (some pm.mb), pm.wv], Hp.rec_ b1 [.int .i64 1, .int .i64 ((i : Nat) : Int), .int .i64 mg], Hp.rec_ S [av, pv], Hp.own FA 2 av mms, Hp.big needH mms, Hp.own FP 1 pv (pms.map Pm.b), R, R2] | [u1] => [Hp.own FN 1 (.slice (slA u1) (slN u1) (slC u1)) pm.p.cnt, Hp.own FN 1 pm.cv pm.p.cnt, Hp.own FN 1 pm.wv pm.p.wts, Hp.own FN 1 pm.lv pm.p.lst, Hp.map Try.prog 3 natL natV pm.mb pm.p.cm, Hp.rec_ pm.b [pm.lv, pm.cv, .map (some pm.mb), pm.wv], Hp.rec_ b1 [.int .i64 1, .int .i64 ((i : Nat) : Int), .int .i64 mg], Hp.rec_ S [av, pv], Hp.own FA 2 av mms, Hp.big needH mms, Hp.own FP 1 pv (pms.map Pm.b), R, R2] | [u1, u2] => [Hp.rec_ (sB u2) [.int .i64 ((i : Nat) : Int), .slice (slA u1) (slN u1) (slC u1)], Hp.own FN 1 (.slice (slA u1) (slN u1) (slC u1)) pm.p.cnt, Hp.own FN 1 pm.cv pm.p.cnt, Hp.own FN 1 pm.wv pm.p.wts, Hp.own FN 1 pm.lv pm.p.lst, Hp.map Try.prog 3 natL natV pm.mb pm.p.cm, Hp.rec_ pm.b [pm.lv, pm.cv, .map (some pm.mb), pm.wv], Hp.rec_ b1 [.int .i64 1, .int .i64 ((i : Nat) : Int), .int .i64 mg], Hp.rec_ S [av, pv], Hp.own FA 2 av mms, Hp.big needH mms, Hp.own FP 1 pv (pms.map Pm.b), R, R2] | u1 :: u2 :: u3 :: _ => [Hp.own FN 1 (.slice (slA u1) (slN u1) (slC u1)) pm.p.cnt, Hp.own FN 1 pm.cv pm.p.cnt, Hp.own FN 1 pm.wv pm.p.wts, Hp.own FN 1 pm.lv pm.p.lst, Hp.map Try.prog 3 natL natV pm.mb pm.p.cm, Hp.rec_ pm.b [pm.lv, pm.cv, .map (some pm.mb), pm.wv], Hp.rec_ b1 [.int .i64 1, .int .i64 ((i : Nat) : Int), .int .i64 mg], Hp.rec_ S [av, pv], Hp.own FA 2 u3 (mms ++ [(⟨i, (slA u1), (slN u1), (slC u1), pm.p.cnt⟩ : Mm)]), Hp.big needH mms, Hp.own FP 1 pv (pms.map Pm.b), R, R2]) Try.mixed (by kernel_rfl) rfl ?_
  refine Gw.val rfl rfl rfl rfl rfl (fun us => val_move rfl rfl) ?_
  refine Gw.val rfl rfl rfl rfl rfl (fun us => val_move rfl rfl) ?_
  refine Gw.val rfl rfl rfl rfl rfl (fun us => val_nilCheck rfl rfl) ?_
  refine Gw.val rfl rfl rfl rfl rfl (fun us => Val.cast (val_fieldAddr rfl Try.underlying45 rfl Try.ty42 rfl rfl) (v' := ptr S 0) rfl) ?_
  refine Gw.val rfl rfl rfl rfl rfl (fun us => match us with | [] => val_load rfl Try.ty42 rfl rfl (cell_rec (k := 6) rfl rfl) | [u1] => val_load rfl Try.ty42 rfl rfl (cell_rec (k := 7) rfl rfl) | [u1, u2] => val_load rfl Try.ty42 rfl rfl (cell_rec (k := 8) rfl rfl) | u1 :: u2 :: u3 :: _ => val_load rfl Try.ty42 rfl rfl (cell_rec (k := 7) rfl rfl)) ?_
  refine Gw.val rfl rfl rfl rfl rfl (fun us => Val.cast (val_fieldAddr rfl Try.underlying35 rfl Try.ty3 rfl rfl) (v' := ptr b1 1) rfl) ?_
  refine Gw.val rfl rfl rfl rfl rfl (fun us => match us with | [] => val_load rfl Try.ty3 rfl rfl (cell_rec (k := 5) rfl rfl) | [u1] => val_load rfl Try.ty3 rfl rfl (cell_rec (k := 6) rfl rfl) | [u1, u2] => val_load rfl Try.ty3 rfl rfl (cell_rec (k := 7) rfl rfl) | u1 :: u2 :: u3 :: _ => val_load rfl Try.ty3 rfl rfl (cell_rec (k := 6) rfl rfl)) ?_
  refine Gw.val rfl rfl rfl rfl rfl (fun us => val_move rfl rfl) ?_
  refine Gw.val rfl rfl rfl rfl rfl (fun us => val_nilCheck rfl rfl) ?_
  refine Gw.val rfl rfl rfl rfl rfl (fun us => Val.cast (val_fieldAddr rfl Try.underlying49 rfl Try.ty30 rfl rfl) (v' := ptr pm.b 1) rfl) ?_
  refine Gw.val rfl rfl rfl rfl rfl (fun us => match us with | [] => val_load rfl Try.ty30 rfl rfl (cell_rec (k := 4) rfl rfl) | [u1] => val_load rfl Try.ty30 rfl rfl (cell_rec (k := 5) rfl rfl) | [u1, u2] => val_load rfl Try.ty30 rfl rfl (cell_rec (k := 6) rfl rfl) | u1 :: u2 :: u3 :: _ => val_load rfl Try.ty30 rfl rfl (cell_rec (k := 5) rfl rfl)) ?_
  refine Gw.chg rfl rfl rfl rfl rfl IsS (Eff.mono (eff_call (vs := [pm.cv]) rfl Try.fn16 rfl (fun w H => clone_any (by omega) (by omega) (H.at_ (k := 0) rfl))) (by rintro _ _ ⟨⟨sa9, sn9, sc9, rfl⟩, h9⟩; exact ⟨⟨_, _, _, rfl⟩, h9⟩)) ?_
  rintro _ ⟨sa, sn, sc, rfl⟩
  refine Gw.val rfl rfl rfl rfl rfl (fun us => val_build rfl (qs := [(0, .int .i64 ((i : Nat) : Int)), (1, .slice sa sn sc)]) rfl rfl (fun w => by go_simp) (v := .agg #[.int .i64 ((i : Nat) : Int), .slice sa sn sc])) ?_
  refine Gw.chg rfl rfl rfl rfl rfl (fun v => ∃ b6, v = .slice (some ⟨b6, 0, none⟩) 1 1) (Eff.mono (eff_buildSlice rfl (qs := [(0, .agg #[.int .i64 ((i : Nat) : Int), .slice sa sn sc])]) rfl rfl (cs := #[.int .i64 ((i : Nat) : Int), .slice sa sn sc]) (vs := [.int .i64 ((i : Nat) : Int), .slice sa sn sc]) (E := 53) rfl (fun w => by first | (go_simp; done) | (go_simp; rfl))) (by rintro _ _ ⟨b6, rfl, rfl⟩; exact ⟨⟨b6, rfl⟩, rfl⟩)) ?_
  rintro _ ⟨b6, rfl⟩
  refine Gw.chg rfl rfl rfl rfl rfl IsS (Eff.mono (eff_push (r := (⟨i, sa, sn, sc, pm.p.cnt⟩ : Mm)) rfl Try.eA FA_len FA_one rfl rfl (k := 0) rfl rfl (k' := 8) rfl (by omega) (by omega)) (fun _ _ h => ⟨h.1, congrArg sep h.2⟩)) ?_
  intro v7 hiv7
  refine Gw.val rfl rfl rfl rfl rfl (fun us => val_nilCheck rfl rfl) ?_
  refine Gw.val rfl rfl rfl rfl rfl (fun us => Val.cast (val_fieldAddr rfl Try.underlying45 rfl Try.ty42 rfl rfl) (v' := ptr S 0) rfl) ?_
  refine Gw.done ?_
  refine Gx.norm (l' := [Hp.own FN 1 (.slice sa sn sc) pm.p.cnt, Hp.own FN 1 pm.cv pm.p.cnt, Hp.own FN 1 pm.wv pm.p.wts, Hp.own FN 1 pm.lv pm.p.lst, Hp.map Try.prog 3 natL natV pm.mb pm.p.cm, Hp.rec_ pm.b [pm.lv, pm.cv, .map (some pm.mb), pm.wv], Hp.rec_ b1 [.int .i64 1, .int .i64 ((i : Nat) : Int), .int .i64 mg], Hp.rec_ S [av, pv], Hp.own FA 2 v7 (mms ++ [(⟨i, sa, sn, sc, pm.p.cnt⟩ : Mm)]), Hp.big needH mms, Hp.own FP 1 pv (pms.map Pm.b), R, R2]) rfl ?_
  refine Gx.eff0 rfl rfl (eff_store rfl Try.ty42 rfl rfl (us := [v7]) hiv7.cellsL rfl hiv7.all (k := 7) rfl (rfl) (vs' := [v7, pv]) (rfl) (l' := [Hp.own FN 1 (.slice sa sn sc) pm.p.cnt, Hp.own FN 1 pm.cv pm.p.cnt, Hp.own FN 1 pm.wv pm.p.wts, Hp.own FN 1 pm.lv pm.p.lst, Hp.map Try.prog 3 natL natV pm.mb pm.p.cm, Hp.rec_ pm.b [pm.lv, pm.cv, .map (some pm.mb), pm.wv], Hp.rec_ b1 [.int .i64 1, .int .i64 ((i : Nat) : Int), .int .i64 mg], Hp.rec_ S [v7, pv], Hp.own FA 2 v7 (mms ++ [(⟨i, sa, sn, sc, pm.p.cnt⟩ : Mm)]), Hp.big needH mms, Hp.own FP 1 pv (pms.map Pm.b), R, R2]) rfl) ?_
  rintro _ _ rfl
  refine Gx.done ?_
  refine Gx.thenN ?_
  refine Gx.seq ?_
  refine Gx.merge 9 0 rfl rfl (by rw [Hp.big_append]; show _ = _ * _; rw [show Hp.big needH [(⟨i, sa, sn, sc, pm.p.cnt⟩ : Mm)] = needH (⟨i, sa, sn, sc, pm.p.cnt⟩ : Mm) * 1 from rfl, Hp.mul_one]; rfl) (l' := [Hp.big needH (mms ++ [(⟨i, sa, sn, sc, pm.p.cnt⟩ : Mm)]), Hp.own FN 1 pm.cv pm.p.cnt, Hp.own FN 1 pm.wv pm.p.wts, Hp.own FN 1 pm.lv pm.p.lst, Hp.map Try.prog 3 natL natV pm.mb pm.p.cm, Hp.rec_ pm.b [pm.lv, pm.cv, .map (some pm.mb), pm.wv], Hp.rec_ b1 [.int .i64 1, .int .i64 ((i : Nat) : Int), .int .i64 mg], Hp.rec_ S [v7, pv], Hp.own FA 2 v7 (mms ++ [(⟨i, sa, sn, sc, pm.p.cnt⟩ : Mm)]), Hp.own FP 1 pv (pms.map Pm.b), R, R2]) rfl ?_
  have hlm : (mms ++ [(⟨i, sa, sn, sc, pm.p.cnt⟩ : Mm)]).length = mms.length + 1 := by simp
  have hmx : (mms ++ [(⟨i, sa, sn, sc, pm.p.cnt⟩ : Mm)])[mms.length]? = some (⟨i, sa, sn, sc, pm.p.cnt⟩ : Mm) := by simp
  refine Gx.front 1 rfl ?_
  refine Gx.front 3 rfl ?_
  refine Gx.front 5 rfl ?_
  refine Gx.front 8 rfl ?_
  refine Gx.front 8 rfl ?_
  refine Gx.region ?_
  refine Gx.val rfl rfl rfl (val_move rfl rfl) ?_
  refine Gx.val rfl rfl rfl (val_move rfl rfl) ?_
  refine Gx.val rfl rfl rfl (val_move rfl rfl) ?_
  refine Gx.val rfl rfl rfl (val_nilCheck rfl rfl) ?_
  refine Gx.val rfl rfl rfl (Val.cast (val_fieldAddr rfl Try.underlying45 rfl Try.ty42 rfl rfl) (v' := ptr S 0) rfl) ?_
  refine Gx.val rfl rfl rfl (val_load rfl Try.ty42 rfl rfl (cell_rec (k := 0) rfl rfl)) ?_
  refine Gx.val rfl rfl rfl (val_len rfl Try.underlying42 rfl (len_own (k := 1) rfl)) ?_
  refine Gx.val rfl rfl rfl (val_sub rfl rfl rfl (r := ((mms.length : Nat) : Int)) (w64 (by omega) (by omega))) ?_
  refine Gx.eff rfl rfl rfl (eff_call (vs := [ptr S 0, ptr pm.b 0, .int .i64 ((mms.length : Nat) : Int)]) rfl Try.fn17 rfl (fun w H => hear_any (mm := (⟨i, sa, sn, sc, pm.p.cnt⟩ : Mm)) (mms := (mms ++ [(⟨i, sa, sn, sc, pm.p.cnt⟩ : Mm)])) (lst := pm.p.lst) (cnt := pm.p.cnt) hmx (by dsimp only; omega) (fun z hz => by have := hrow.cb z hz; omega) (by omega) (by omega) (by omega) hok.il hok.ic H)) ?_
  rintro _ l8 ⟨lw, x, hilw, hx, rfl, hl8⟩
  refine Gx.sepEq (l' := [Hp.rec_ S [v7, pv], Hp.own FA 2 v7 (mms ++ [(⟨i, sa, sn, sc, pm.p.cnt⟩ : Mm)]), Hp.rec_ pm.b [lw, pm.cv, .map (some pm.mb), pm.wv], Hp.own FN 1 lw (pm.p.lst ++ [mms.length]), Hp.own FN 1 pm.cv (pm.p.cnt.set i (x + 1)), Hp.big needH (mms ++ [(⟨i, sa, sn, sc, pm.p.cnt⟩ : Mm)]), Hp.own FN 1 pm.wv pm.p.wts, Hp.map Try.prog 3 natL natV pm.mb pm.p.cm, Hp.rec_ b1 [.int .i64 1, .int .i64 ((i : Nat) : Int), .int .i64 mg], Hp.own FP 1 pv (pms.map Pm.b), R, R2]) hl8 ?_
  refine Gx.done ?_
  refine Gx.thenN ?_
  refine Gx.seq ?_
  refine Gx.region ?_
  refine Gx.val rfl rfl rfl (val_assign rfl rfl) ?_
  refine Gx.done ?_
  refine Gx.thenN ?_
  refine Gx.ret ?_
  refine Gx.thenR ?_
  refine Gx.front 11 rfl ?_
  refine Gx.front 7 rfl ?_
  refine Gx.front 6 rfl ?_
  refine Gx.front 6 rfl ?_
  refine Gx.front 8 rfl ?_
  refine Gx.front 7 rfl ?_
  refine Gx.sepEq (l' := [Hp.big procH (pms.set i (⟨pm.b, pm.mb, lw, pm.cv, pm.wv, ⟨pm.p.lst ++ [mms.length], pm.p.cnt.set i (x + 1), pm.p.cm, pm.p.wts⟩⟩ : Pm)), Hp.rec_ S [v7, pv], Hp.own FA 2 v7 (mms ++ [(⟨i, sa, sn, sc, pm.p.cnt⟩ : Mm)]), Hp.big needH (mms ++ [(⟨i, sa, sn, sc, pm.p.cnt⟩ : Mm)]), Hp.rec_ b1 [.int .i64 1, .int .i64 ((i : Nat) : Int), .int .i64 mg], Hp.own FP 1 pv (pms.map Pm.b), R]) (by show Hp.rec_ pm.b [lw, pm.cv, .map (some pm.mb), pm.wv] * (Hp.map Try.prog 3 natL natV pm.mb pm.p.cm * (Hp.own FN 1 lw (pm.p.lst ++ [mms.length]) * (Hp.own FN 1 pm.cv (pm.p.cnt.set i (x + 1)) * (Hp.own FN 1 pm.wv pm.p.wts * (R2 * _))))) = Hp.big procH (pms.set i (⟨pm.b, pm.mb, lw, pm.cv, pm.wv, ⟨pm.p.lst ++ [mms.length], pm.p.cnt.set i (x + 1), pm.p.cm, pm.p.wts⟩⟩ : Pm)) * _; rw [(hg4 (⟨pm.b, pm.mb, lw, pm.cv, pm.wv, ⟨pm.p.lst ++ [mms.length], pm.p.cnt.set i (x + 1), pm.p.cm, pm.p.wts⟩⟩ : Pm))]; show _ = (Hp.rec_ pm.b [lw, pm.cv, .map (some pm.mb), pm.wv] * (Hp.map Try.prog 3 natL natV pm.mb pm.p.cm * (Hp.own FN 1 lw (pm.p.lst ++ [mms.length]) * (Hp.own FN 1 pm.cv (pm.p.cnt.set i (x + 1)) * Hp.own FN 1 pm.wv pm.p.wts))) * R2) * _; simp only [Hp.mul_assoc] <;> rfl) ?_
  refine Gx.norm (l' := [Hp.big procH (pms.set i (⟨pm.b, pm.mb, lw, pm.cv, pm.wv, ⟨pm.p.lst ++ [mms.length], pm.p.cnt.set i (x + 1), pm.p.cm, pm.p.wts⟩⟩ : Pm)), Hp.rec_ S [v7, pv], Hp.own FA 2 v7 (mms ++ [(⟨i, sa, sn, sc, pm.p.cnt⟩ : Mm)]), Hp.big needH (mms ++ [(⟨i, sa, sn, sc, pm.p.cnt⟩ : Mm)]), Hp.rec_ b1 [.int .i64 1, .int .i64 ((i : Nat) : Int), .int .i64 mg], Hp.own FP 1 pv ((pms.set i (⟨pm.b, pm.mb, lw, pm.cv, pm.wv, ⟨pm.p.lst ++ [mms.length], pm.p.cnt.set i (x + 1), pm.p.cm, pm.p.wts⟩⟩ : Pm)).map Pm.b), R]) (by rw [set_bM (y := (⟨pm.b, pm.mb, lw, pm.cv, pm.wv, ⟨pm.p.lst ++ [mms.length], pm.p.cnt.set i (x + 1), pm.p.cm, pm.p.wts⟩⟩ : Pm)) hpm rfl] <;> rfl) ?_
  refine Gx.drop 4 rfl ?_
  refine Gx.front 5 rfl ?_
  refine Gx.front 1 rfl ?_
  refine Gx.front 5 rfl ?_
  refine Gx.front 5 rfl ?_
  refine Gx.front 5 rfl ?_
  refine Gx.front 5 rfl ?_
  refine Gx.ret1 Try.results14 rfl ?_
  exact ⟨v7, sa, sn, sc, lw, x, hx, hilw, rfl, rfl⟩

theorem step_msg {W w : World} {S : Nat} {av pv : Value} {mms : List Mm} {pms : List Pm} {s : CS} {n L : Nat} {R : Hp} {i : Nat} {mg : Int} {pm : Pm} (hpm : pms[i]? = some pm) (hin : i < n) (hm : mg < 0 ∨ (mms.length : Int) ≤ mg) (hW : WOk mms pms s) (hB : BdC n L s) (hn1 : 1 ≤ n) (hn6 : n ≤ 6) (hL : L ≤ 400) (H : Sat W w (sep (WL S av pv mms pms R))) :
    Calls Try.prog 14 #[ptr S 0, .agg #[.int .i64 2, .int .i64 ((i : Nat) : Int), .int .i64 mg]] w (Ret W fun v l => v = .int .i64 2 ∧ sep l = sep (WL S av pv mms pms R)) := by
  have hpl : pms.length = n := by rw [← hB.len, ← hW.ps, List.length_map]
  have hal : mms.length ≤ 400 := by have := hB.al; rw [← hW.all, List.length_map] at this; omega
  have hall : mms.length = s.all.length := by rw [← hW.all, List.length_map]
  have hfr : ∀ z ∈ mms, z.frm < n ∧ z.need.length = n := fun z hz => hB.fr (toMs z) (by rw [← hW.all]; exact List.mem_map_of_mem hz)
  refine Gx.enter (l := [Hp.rec_ S [av, pv], Hp.own FA 2 av mms, Hp.big needH mms, Hp.own FP 1 pv (pms.map Pm.b), Hp.big procH pms, R]) Try.func14 rfl Try.ntmps14 rfl (H) ?_
  refine Gx.know (m' := [(0, ptr S 0), (1, .agg #[.int .i64 2, .int .i64 ((i : Nat) : Int), .int .i64 mg])]) (.cons rfl (.cons rfl .nil)) ?_
  refine Gx.seq ?_
  refine Gx.region ?_
  refine Gx.eff rfl rfl rfl (eff_box rfl rfl (vs := [.int .i64 2, .int .i64 ((i : Nat) : Int), .int .i64 mg]) rfl) ?_
  rintro _ _ ⟨b1, rfl, rfl⟩
  refine Gx.val rfl rfl rfl (val_assign rfl rfl) ?_
  refine Gx.done ?_
  refine Gx.thenN ?_
  refine Gx.seq ?_
  refine Gx.seq ?_
  refine Gx.region ?_
  refine Gx.val rfl rfl rfl (Val.cast (val_fieldAddr rfl Try.underlying35 rfl Try.ty3 rfl rfl) (v' := ptr b1 0) rfl) ?_
  refine Gx.val rfl rfl rfl (val_load rfl Try.ty3 rfl rfl (cell_rec (k := 0) rfl rfl)) ?_
  refine Gx.val rfl rfl rfl (Val.cast (val_neq rfl rfl rfl) (v' := .bool true) rfl) ?_
  refine Gx.val rfl rfl rfl (val_move rfl rfl) ?_
  refine Gx.valg rfl rfl rfl rfl rfl (Val.cast (val_fieldAddr rfl Try.underlying35 rfl Try.ty3 rfl rfl) (v' := ptr b1 0) rfl) ?_
  refine Gx.valg rfl rfl rfl rfl rfl (val_load rfl Try.ty3 rfl rfl (cell_rec (k := 0) rfl rfl)) ?_
  refine Gx.valg rfl rfl rfl rfl rfl (Val.cast (val_neq rfl rfl rfl) (v' := .bool false) rfl) ?_
  refine Gx.val rfl rfl rfl (val_pickT rfl rfl rfl) ?_
  refine Gx.done ?_
  refine Gx.thenN ?_
  refine Gx.f rfl ?_
  refine Gx.skip ?_
  refine Gx.thenN ?_
  refine Gx.seq ?_
  refine Gx.seq ?_
  refine Gx.regionQ Try.mixed (by kernel_rfl) ?_
  refine Gq.val rfl rfl rfl (Val.cast (val_fieldAddr rfl Try.underlying35 rfl Try.ty3 rfl rfl) (v' := ptr b1 1) rfl) ?_
  refine Gq.val rfl rfl rfl (val_load rfl Try.ty3 rfl rfl (cell_rec (k := 0) rfl rfl)) ?_
  refine Gq.val rfl rfl rfl (val_lss rfl rfl rfl) ?_
  refine Gq.val rfl rfl rfl (val_move rfl rfl) ?_
  refine Gq.slot (t := 19) (v := .bool false) (look_decF rfl (by first | omega | (simp only [List.length_map]; omega))) ?_
  refine Gq.valg rfl rfl rfl rfl rfl (Val.cast (val_fieldAddr rfl Try.underlying35 rfl Try.ty3 rfl rfl) (v' := ptr b1 1) rfl) ?_
  refine Gq.valg rfl rfl rfl rfl rfl (val_load rfl Try.ty3 rfl rfl (cell_rec (k := 0) rfl rfl)) ?_
  refine Gq.valg rfl rfl rfl rfl rfl (val_move rfl rfl) ?_
  refine Gq.valg rfl rfl rfl rfl rfl (val_nilCheck rfl rfl) ?_
  refine Gq.valg rfl rfl rfl rfl rfl (Val.cast (val_fieldAddr rfl Try.underlying45 rfl Try.ty43 rfl rfl) (v' := ptr S 1) rfl) ?_
  refine Gq.valg rfl rfl rfl rfl rfl (val_load rfl Try.ty43 rfl rfl (cell_rec (k := 1) rfl rfl)) ?_
  refine Gq.valg rfl rfl rfl rfl rfl (val_len rfl Try.underlying43 rfl (len_own (k := 4) rfl)) ?_
  refine Gq.valg rfl rfl rfl rfl rfl (val_geq rfl rfl rfl) ?_
  refine Gq.val rfl rfl rfl (val_pickF rfl rfl rfl) ?_
  refine Gq.done ?_
  refine Gx.thenN ?_
  refine Gx.decF rfl (by first | omega | (simp only [List.length_map]; omega)) ?_
  refine Gx.skip ?_
  refine Gx.thenN ?_
  refine Gx.seq ?_
  have hbm : (pms.map Pm.b)[i]? = some pm.b := by rw [List.getElem?_map, hpm]; rfl
  refine Gx.regionQ Try.mixed (by kernel_rfl) ?_
  refine Gq.val rfl rfl rfl (val_move rfl rfl) ?_
  refine Gq.val rfl rfl rfl (val_nilCheck rfl rfl) ?_
  refine Gq.val rfl rfl rfl (Val.cast (val_fieldAddr rfl Try.underlying45 rfl Try.ty43 rfl rfl) (v' := ptr S 1) rfl) ?_
  refine Gq.val rfl rfl rfl (val_load rfl Try.ty43 rfl rfl (cell_rec (k := 1) rfl rfl)) ?_
  refine Gq.val rfl rfl rfl (Val.cast (val_fieldAddr rfl Try.underlying35 rfl Try.ty3 rfl rfl) (v' := ptr b1 1) rfl) ?_
  refine Gq.val rfl rfl rfl (val_load rfl Try.ty3 rfl rfl (cell_rec (k := 0) rfl rfl)) ?_
  refine Gq.val rfl rfl rfl (val_ixa rfl Try.underlying43 Try.ty46 rfl rfl (j := i) (rfl) (reach_own (k := 4) rfl hbm)) ?_
  refine Gq.val rfl rfl rfl (val_load rfl Try.ty46 rfl rfl (cell_own (i := 0) (k := 4) rfl hbm rfl)) ?_
  refine Gq.val rfl rfl rfl (val_assign rfl rfl) ?_
  refine Gq.done ?_
  refine Gx.thenN ?_
  refine Gx.seq ?_
  refine Gx.seq ?_
  refine Gx.region ?_
  refine Gx.val rfl rfl rfl (Val.cast (val_fieldAddr rfl Try.underlying35 rfl Try.ty3 rfl rfl) (v' := ptr b1 0) rfl) ?_
  refine Gx.val rfl rfl rfl (val_load rfl Try.ty3 rfl rfl (cell_rec (k := 0) rfl rfl)) ?_
  refine Gx.val rfl rfl rfl (Val.cast (val_eql rfl rfl rfl) (v' := .bool false) rfl) ?_
  refine Gx.done ?_
  refine Gx.thenN ?_
  refine Gx.f rfl ?_
  refine Gx.skip ?_
  refine Gx.thenN ?_
  refine Gx.seq ?_
  refine Gx.seq ?_
  refine Gx.regionQ Try.mixed (by kernel_rfl) ?_
  refine Gq.val rfl rfl rfl (Val.cast (val_fieldAddr rfl Try.underlying35 rfl Try.ty3 rfl rfl) (v' := ptr b1 2) rfl) ?_
  refine Gq.val rfl rfl rfl (val_load rfl Try.ty3 rfl rfl (cell_rec (k := 0) rfl rfl)) ?_
  refine Gq.val rfl rfl rfl (val_lss rfl rfl rfl) ?_
  refine Gq.val rfl rfl rfl (val_move rfl rfl) ?_
  refine Gq.cases (t := 69) rfl (fun h2 => ?_) (fun h2 => ?_)
  · refine Gq.skipg rfl rfl rfl rfl rfl rfl ?_
    refine Gq.skipg rfl rfl rfl rfl rfl rfl ?_
    refine Gq.skipg rfl rfl rfl rfl rfl rfl ?_
    refine Gq.skipg rfl rfl rfl rfl rfl rfl ?_
    refine Gq.skipg rfl rfl rfl rfl rfl rfl ?_
    refine Gq.skipg rfl rfl rfl rfl rfl rfl ?_
    refine Gq.skipg rfl rfl rfl rfl rfl rfl ?_
    refine Gq.skipg rfl rfl rfl rfl rfl rfl ?_
    refine Gq.val rfl rfl rfl (val_pickT rfl rfl rfl) ?_
    refine Gq.val rfl rfl rfl (val_move rfl rfl) ?_
    refine Gq.skipg rfl rfl rfl rfl rfl rfl ?_
    refine Gq.skipg rfl rfl rfl rfl rfl rfl ?_
    refine Gq.skipg rfl rfl rfl rfl rfl rfl ?_
    refine Gq.skipg rfl rfl rfl rfl rfl rfl ?_
    refine Gq.skipg rfl rfl rfl rfl rfl rfl ?_
    refine Gq.skipg rfl rfl rfl rfl rfl rfl ?_
    refine Gq.skipg rfl rfl rfl rfl rfl rfl ?_
    refine Gq.skipg rfl rfl rfl rfl rfl rfl ?_
    refine Gq.skipg rfl rfl rfl rfl rfl rfl ?_
    refine Gq.skipg rfl rfl rfl rfl rfl rfl ?_
    refine Gq.skipg rfl rfl rfl rfl rfl rfl ?_
    refine Gq.skipg rfl rfl rfl rfl rfl rfl ?_
    refine Gq.val rfl rfl rfl (val_pickT rfl rfl rfl) ?_
    refine Gq.done ?_
    refine Gx.thenN ?_
    refine Gx.t rfl ?_
    refine Gx.seq ?_
    refine Gx.region ?_
    refine Gx.val rfl rfl rfl (val_assign rfl rfl) ?_
    refine Gx.done ?_
    refine Gx.thenN ?_
    refine Gx.ret ?_
    refine Gx.thenR ?_
    refine Gx.drop 0 rfl ?_
    refine Gx.front 5 rfl ?_
    refine Gx.front 5 rfl ?_
    refine Gx.front 5 rfl ?_
    refine Gx.front 5 rfl ?_
    refine Gx.front 5 rfl ?_
    refine Gx.front 5 rfl ?_
    refine Gx.ret1 Try.results14 rfl ?_
    exact ⟨rfl, rfl⟩
  · refine Gq.valg rfl rfl rfl rfl rfl (Val.cast (val_fieldAddr rfl Try.underlying35 rfl Try.ty3 rfl rfl) (v' := ptr b1 2) rfl) ?_
    refine Gq.valg rfl rfl rfl rfl rfl (val_load rfl Try.ty3 rfl rfl (cell_rec (k := 0) rfl rfl)) ?_
    refine Gq.valg rfl rfl rfl rfl rfl (val_move rfl rfl) ?_
    refine Gq.valg rfl rfl rfl rfl rfl (val_nilCheck rfl rfl) ?_
    refine Gq.valg rfl rfl rfl rfl rfl (Val.cast (val_fieldAddr rfl Try.underlying45 rfl Try.ty42 rfl rfl) (v' := ptr S 0) rfl) ?_
    refine Gq.valg rfl rfl rfl rfl rfl (val_load rfl Try.ty42 rfl rfl (cell_rec (k := 1) rfl rfl)) ?_
    refine Gq.valg rfl rfl rfl rfl rfl (val_len rfl Try.underlying42 rfl (len_own (k := 2) rfl)) ?_
    refine Gq.valg rfl rfl rfl rfl rfl (val_geq rfl rfl rfl) ?_
    refine Gq.val rfl rfl rfl (val_pickF rfl rfl rfl) ?_
    refine Gq.val rfl rfl rfl (val_move rfl rfl) ?_
    refine Gq.slot (t := 79) (v := .bool true) (look_decT rfl (by omega)) ?_
    refine Gq.skipg rfl rfl rfl rfl rfl rfl ?_
    refine Gq.skipg rfl rfl rfl rfl rfl rfl ?_
    refine Gq.skipg rfl rfl rfl rfl rfl rfl ?_
    refine Gq.skipg rfl rfl rfl rfl rfl rfl ?_
    refine Gq.skipg rfl rfl rfl rfl rfl rfl ?_
    refine Gq.skipg rfl rfl rfl rfl rfl rfl ?_
    refine Gq.skipg rfl rfl rfl rfl rfl rfl ?_
    refine Gq.skipg rfl rfl rfl rfl rfl rfl ?_
    refine Gq.skipg rfl rfl rfl rfl rfl rfl ?_
    refine Gq.skipg rfl rfl rfl rfl rfl rfl ?_
    refine Gq.skipg rfl rfl rfl rfl rfl rfl ?_
    refine Gq.skipg rfl rfl rfl rfl rfl rfl ?_
    refine Gq.val rfl rfl rfl (val_pickT rfl rfl rfl) ?_
    refine Gq.done ?_
    refine Gx.thenN ?_
    refine Gx.t rfl ?_
    refine Gx.seq ?_
    refine Gx.region ?_
    refine Gx.val rfl rfl rfl (val_assign rfl rfl) ?_
    refine Gx.done ?_
    refine Gx.thenN ?_
    refine Gx.ret ?_
    refine Gx.thenR ?_
    refine Gx.drop 0 rfl ?_
    refine Gx.front 5 rfl ?_
    refine Gx.front 5 rfl ?_
    refine Gx.front 5 rfl ?_
    refine Gx.front 5 rfl ?_
    refine Gx.front 5 rfl ?_
    refine Gx.front 5 rfl ?_
    refine Gx.ret1 Try.results14 rfl ?_
    exact ⟨rfl, rfl⟩

theorem step_own {W w : World} {S : Nat} {av pv : Value} {mms : List Mm} {pms : List Pm} {s : CS} {n L : Nat} {R : Hp} {i m : Nat} {pm : Pm} {mm : Mm} (hpm : pms[i]? = some pm) (hin : i < n) (hmm : mms[m]? = some mm) (hfo : mm.frm = i) (hW : WOk mms pms s) (hB : BdC n L s) (hn1 : 1 ≤ n) (hn6 : n ≤ 6) (hL : L ≤ 400) (H : Sat W w (sep (WL S av pv mms pms R))) :
    Calls Try.prog 14 #[ptr S 0, .agg #[.int .i64 2, .int .i64 ((i : Nat) : Int), .int .i64 ((m : Nat) : Int)]] w (Ret W fun v l => v = .int .i64 2 ∧ sep l = sep (WL S av pv mms pms R)) := by
  have hpl : pms.length = n := by rw [← hB.len, ← hW.ps, List.length_map]
  have hal : mms.length ≤ 400 := by have := hB.al; rw [← hW.all, List.length_map] at this; omega
  have hall : mms.length = s.all.length := by rw [← hW.all, List.length_map]
  have hfr : ∀ z ∈ mms, z.frm < n ∧ z.need.length = n := fun z hz => hB.fr (toMs z) (by rw [← hW.all]; exact List.mem_map_of_mem hz)
  have hmlt := (List.getElem?_eq_some_iff.1 hmm).1
  refine Gx.enter (l := [Hp.rec_ S [av, pv], Hp.own FA 2 av mms, Hp.big needH mms, Hp.own FP 1 pv (pms.map Pm.b), Hp.big procH pms, R]) Try.func14 rfl Try.ntmps14 rfl (H) ?_
  refine Gx.know (m' := [(0, ptr S 0), (1, .agg #[.int .i64 2, .int .i64 ((i : Nat) : Int), .int .i64 ((m : Nat) : Int)])]) (.cons rfl (.cons rfl .nil)) ?_
  refine Gx.seq ?_
  refine Gx.region ?_
  refine Gx.eff rfl rfl rfl (eff_box rfl rfl (vs := [.int .i64 2, .int .i64 ((i : Nat) : Int), .int .i64 ((m : Nat) : Int)]) rfl) ?_
  rintro _ _ ⟨b1, rfl, rfl⟩
  refine Gx.val rfl rfl rfl (val_assign rfl rfl) ?_
  refine Gx.done ?_
  refine Gx.thenN ?_
  refine Gx.seq ?_
  refine Gx.seq ?_
  refine Gx.region ?_
  refine Gx.val rfl rfl rfl (Val.cast (val_fieldAddr rfl Try.underlying35 rfl Try.ty3 rfl rfl) (v' := ptr b1 0) rfl) ?_
  refine Gx.val rfl rfl rfl (val_load rfl Try.ty3 rfl rfl (cell_rec (k := 0) rfl rfl)) ?_
  refine Gx.val rfl rfl rfl (Val.cast (val_neq rfl rfl rfl) (v' := .bool true) rfl) ?_
  refine Gx.val rfl rfl rfl (val_move rfl rfl) ?_
  refine Gx.valg rfl rfl rfl rfl rfl (Val.cast (val_fieldAddr rfl Try.underlying35 rfl Try.ty3 rfl rfl) (v' := ptr b1 0) rfl) ?_
  refine Gx.valg rfl rfl rfl rfl rfl (val_load rfl Try.ty3 rfl rfl (cell_rec (k := 0) rfl rfl)) ?_
  refine Gx.valg rfl rfl rfl rfl rfl (Val.cast (val_neq rfl rfl rfl) (v' := .bool false) rfl) ?_
  refine Gx.val rfl rfl rfl (val_pickT rfl rfl rfl) ?_
  refine Gx.done ?_
  refine Gx.thenN ?_
  refine Gx.f rfl ?_
  refine Gx.skip ?_
  refine Gx.thenN ?_
  refine Gx.seq ?_
  refine Gx.seq ?_
  refine Gx.regionQ Try.mixed (by kernel_rfl) ?_
  refine Gq.val rfl rfl rfl (Val.cast (val_fieldAddr rfl Try.underlying35 rfl Try.ty3 rfl rfl) (v' := ptr b1 1) rfl) ?_
  refine Gq.val rfl rfl rfl (val_load rfl Try.ty3 rfl rfl (cell_rec (k := 0) rfl rfl)) ?_
  refine Gq.val rfl rfl rfl (val_lss rfl rfl rfl) ?_
  refine Gq.val rfl rfl rfl (val_move rfl rfl) ?_
  refine Gq.slot (t := 19) (v := .bool false) (look_decF rfl (by first | omega | (simp only [List.length_map]; omega))) ?_
  refine Gq.valg rfl rfl rfl rfl rfl (Val.cast (val_fieldAddr rfl Try.underlying35 rfl Try.ty3 rfl rfl) (v' := ptr b1 1) rfl) ?_
  refine Gq.valg rfl rfl rfl rfl rfl (val_load rfl Try.ty3 rfl rfl (cell_rec (k := 0) rfl rfl)) ?_
  refine Gq.valg rfl rfl rfl rfl rfl (val_move rfl rfl) ?_
  refine Gq.valg rfl rfl rfl rfl rfl (val_nilCheck rfl rfl) ?_
  refine Gq.valg rfl rfl rfl rfl rfl (Val.cast (val_fieldAddr rfl Try.underlying45 rfl Try.ty43 rfl rfl) (v' := ptr S 1) rfl) ?_
  refine Gq.valg rfl rfl rfl rfl rfl (val_load rfl Try.ty43 rfl rfl (cell_rec (k := 1) rfl rfl)) ?_
  refine Gq.valg rfl rfl rfl rfl rfl (val_len rfl Try.underlying43 rfl (len_own (k := 4) rfl)) ?_
  refine Gq.valg rfl rfl rfl rfl rfl (val_geq rfl rfl rfl) ?_
  refine Gq.val rfl rfl rfl (val_pickF rfl rfl rfl) ?_
  refine Gq.done ?_
  refine Gx.thenN ?_
  refine Gx.decF rfl (by first | omega | (simp only [List.length_map]; omega)) ?_
  refine Gx.skip ?_
  refine Gx.thenN ?_
  refine Gx.seq ?_
  have hbm : (pms.map Pm.b)[i]? = some pm.b := by rw [List.getElem?_map, hpm]; rfl
  refine Gx.regionQ Try.mixed (by kernel_rfl) ?_
  refine Gq.val rfl rfl rfl (val_move rfl rfl) ?_
  refine Gq.val rfl rfl rfl (val_nilCheck rfl rfl) ?_
  refine Gq.val rfl rfl rfl (Val.cast (val_fieldAddr rfl Try.underlying45 rfl Try.ty43 rfl rfl) (v' := ptr S 1) rfl) ?_
  refine Gq.val rfl rfl rfl (val_load rfl Try.ty43 rfl rfl (cell_rec (k := 1) rfl rfl)) ?_
  refine Gq.val rfl rfl rfl (Val.cast (val_fieldAddr rfl Try.underlying35 rfl Try.ty3 rfl rfl) (v' := ptr b1 1) rfl) ?_
  refine Gq.val rfl rfl rfl (val_load rfl Try.ty3 rfl rfl (cell_rec (k := 0) rfl rfl)) ?_
  refine Gq.val rfl rfl rfl (val_ixa rfl Try.underlying43 Try.ty46 rfl rfl (j := i) (rfl) (reach_own (k := 4) rfl hbm)) ?_
  refine Gq.val rfl rfl rfl (val_load rfl Try.ty46 rfl rfl (cell_own (i := 0) (k := 4) rfl hbm rfl)) ?_
  refine Gq.val rfl rfl rfl (val_assign rfl rfl) ?_
  refine Gq.done ?_
  refine Gx.thenN ?_
  refine Gx.seq ?_
  refine Gx.seq ?_
  refine Gx.region ?_
  refine Gx.val rfl rfl rfl (Val.cast (val_fieldAddr rfl Try.underlying35 rfl Try.ty3 rfl rfl) (v' := ptr b1 0) rfl) ?_
  refine Gx.val rfl rfl rfl (val_load rfl Try.ty3 rfl rfl (cell_rec (k := 0) rfl rfl)) ?_
  refine Gx.val rfl rfl rfl (Val.cast (val_eql rfl rfl rfl) (v' := .bool false) rfl) ?_
  refine Gx.done ?_
  refine Gx.thenN ?_
  refine Gx.f rfl ?_
  refine Gx.skip ?_
  refine Gx.thenN ?_
  refine Gx.seq ?_
  refine Gx.seq ?_
  refine Gx.regionQ Try.mixed (by kernel_rfl) ?_
  refine Gq.val rfl rfl rfl (Val.cast (val_fieldAddr rfl Try.underlying35 rfl Try.ty3 rfl rfl) (v' := ptr b1 2) rfl) ?_
  refine Gq.val rfl rfl rfl (val_load rfl Try.ty3 rfl rfl (cell_rec (k := 0) rfl rfl)) ?_
  refine Gq.val rfl rfl rfl (val_lss rfl rfl rfl) ?_
  refine Gq.val rfl rfl rfl (val_move rfl rfl) ?_
  refine Gq.slot (t := 69) (v := .bool false) (look_decF rfl (by omega)) ?_
  refine Gq.valg rfl rfl rfl rfl rfl (Val.cast (val_fieldAddr rfl Try.underlying35 rfl Try.ty3 rfl rfl) (v' := ptr b1 2) rfl) ?_
  refine Gq.valg rfl rfl rfl rfl rfl (val_load rfl Try.ty3 rfl rfl (cell_rec (k := 0) rfl rfl)) ?_
  refine Gq.valg rfl rfl rfl rfl rfl (val_move rfl rfl) ?_
  refine Gq.valg rfl rfl rfl rfl rfl (val_nilCheck rfl rfl) ?_
  refine Gq.valg rfl rfl rfl rfl rfl (Val.cast (val_fieldAddr rfl Try.underlying45 rfl Try.ty42 rfl rfl) (v' := ptr S 0) rfl) ?_
  refine Gq.valg rfl rfl rfl rfl rfl (val_load rfl Try.ty42 rfl rfl (cell_rec (k := 1) rfl rfl)) ?_
  refine Gq.valg rfl rfl rfl rfl rfl (val_len rfl Try.underlying42 rfl (len_own (k := 2) rfl)) ?_
  refine Gq.valg rfl rfl rfl rfl rfl (val_geq rfl rfl rfl) ?_
  refine Gq.val rfl rfl rfl (val_pickF rfl rfl rfl) ?_
  refine Gq.val rfl rfl rfl (val_move rfl rfl) ?_
  refine Gq.slot (t := 79) (v := .bool false) (look_decF rfl (by omega)) ?_
  refine Gq.valg rfl rfl rfl rfl rfl (val_move rfl rfl) ?_
  refine Gq.valg rfl rfl rfl rfl rfl (val_nilCheck rfl rfl) ?_
  refine Gq.valg rfl rfl rfl rfl rfl (Val.cast (val_fieldAddr rfl Try.underlying45 rfl Try.ty42 rfl rfl) (v' := ptr S 0) rfl) ?_
  refine Gq.valg rfl rfl rfl rfl rfl (val_load rfl Try.ty42 rfl rfl (cell_rec (k := 1) rfl rfl)) ?_
  refine Gq.valg rfl rfl rfl rfl rfl (Val.cast (val_fieldAddr rfl Try.underlying35 rfl Try.ty3 rfl rfl) (v' := ptr b1 2) rfl) ?_
  refine Gq.valg rfl rfl rfl rfl rfl (val_load rfl Try.ty3 rfl rfl (cell_rec (k := 0) rfl rfl)) ?_
  refine Gq.valg rfl rfl rfl rfl rfl (val_ixa rfl Try.underlying42 Try.ty53 rfl rfl (j := m) (rfl) (reach_own (k := 2) rfl hmm)) ?_
  refine Gq.valg rfl rfl rfl rfl rfl (Val.cast (val_fieldAddr rfl Try.underlying53 rfl Try.ty3 rfl rfl) (v' := ptr (sB av) (sO av + m * 2)) rfl) ?_
  refine Gq.valg rfl rfl rfl rfl rfl (val_load rfl Try.ty3 rfl rfl (cell_own (i := 0) (k := 2) rfl hmm rfl)) ?_
  refine Gq.valg rfl rfl rfl rfl rfl (Val.cast (val_fieldAddr rfl Try.underlying35 rfl Try.ty3 rfl rfl) (v' := ptr b1 1) rfl) ?_
  refine Gq.valg rfl rfl rfl rfl rfl (val_load rfl Try.ty3 rfl rfl (cell_rec (k := 0) rfl rfl)) ?_
  refine Gq.valg rfl rfl rfl rfl rfl (val_eql rfl rfl rfl) ?_
  refine Gq.val rfl rfl rfl (val_pickF rfl rfl rfl) ?_
  refine Gq.done ?_
  refine Gx.thenN ?_
  refine Gx.decT rfl (by omega) ?_
  refine Gx.seq ?_
  refine Gx.region ?_
  refine Gx.val rfl rfl rfl (val_assign rfl rfl) ?_
  refine Gx.done ?_
  refine Gx.thenN ?_
  refine Gx.ret ?_
  refine Gx.thenR ?_
  refine Gx.drop 0 rfl ?_
  refine Gx.front 5 rfl ?_
  refine Gx.front 5 rfl ?_
  refine Gx.front 5 rfl ?_
  refine Gx.front 5 rfl ?_
  refine Gx.front 5 rfl ?_
  refine Gx.front 5 rfl ?_
  refine Gx.ret1 Try.results14 rfl ?_
  exact ⟨rfl, rfl⟩

theorem step_held {W w : World} {S : Nat} {av pv : Value} {mms : List Mm} {pms : List Pm} {s : CS} {n L : Nat} {R : Hp} {i m : Nat} {pm : Pm} {p : Pt} {mm : Mm} (hp : s.ps[i]? = some p) (hpm : pms[i]? = some pm) (hpq : pm.p = p) (hok : POk pm) (hin : i < n) (hmm : mms[m]? = some mm) (hfo : mm.frm ≠ i) (hc0 : 0 < cmN pm.p m) (hW : WOk mms pms s) (hB : BdC n L s) (hn1 : 1 ≤ n) (hn6 : n ≤ 6) (hL : L ≤ 400) (H : Sat W w (sep (WL S av pv mms pms R))) :
    Calls Try.prog 14 #[ptr S 0, .agg #[.int .i64 2, .int .i64 ((i : Nat) : Int), .int .i64 ((m : Nat) : Int)]] w (Ret W fun v l => v = .int .i64 6 ∧ sep l = sep (WL S av pv mms (pms.set i (⟨pm.b, pm.mb, pm.lv, pm.cv, pm.wv, ⟨pm.p.lst, pm.p.cnt, (putM pm.p.cm m (cmN pm.p m + 1)), pm.p.wts⟩⟩ : Pm)) R)) := by
  have hpl : pms.length = n := by rw [← hB.len, ← hW.ps, List.length_map]
  have hal : mms.length ≤ 400 := by have := hB.al; rw [← hW.all, List.length_map] at this; omega
  have hall : mms.length = s.all.length := by rw [← hW.all, List.length_map]
  have hfr : ∀ z ∈ mms, z.frm < n ∧ z.need.length = n := fun z hz => hB.fr (toMs z) (by rw [← hW.all]; exact List.mem_map_of_mem hz)
  have hmlt := (List.getElem?_eq_some_iff.1 hmm).1
  refine Gx.enter (l := [Hp.rec_ S [av, pv], Hp.own FA 2 av mms, Hp.big needH mms, Hp.own FP 1 pv (pms.map Pm.b), Hp.big procH pms, R]) Try.func14 rfl Try.ntmps14 rfl (H) ?_
  refine Gx.know (m' := [(0, ptr S 0), (1, .agg #[.int .i64 2, .int .i64 ((i : Nat) : Int), .int .i64 ((m : Nat) : Int)])]) (.cons rfl (.cons rfl .nil)) ?_
  refine Gx.seq ?_
  refine Gx.region ?_
  refine Gx.eff rfl rfl rfl (eff_box rfl rfl (vs := [.int .i64 2, .int .i64 ((i : Nat) : Int), .int .i64 ((m : Nat) : Int)]) rfl) ?_
  rintro _ _ ⟨b1, rfl, rfl⟩
  refine Gx.val rfl rfl rfl (val_assign rfl rfl) ?_
  refine Gx.done ?_
  refine Gx.thenN ?_
  refine Gx.seq ?_
  refine Gx.seq ?_
  refine Gx.region ?_
  refine Gx.val rfl rfl rfl (Val.cast (val_fieldAddr rfl Try.underlying35 rfl Try.ty3 rfl rfl) (v' := ptr b1 0) rfl) ?_
  refine Gx.val rfl rfl rfl (val_load rfl Try.ty3 rfl rfl (cell_rec (k := 0) rfl rfl)) ?_
  refine Gx.val rfl rfl rfl (Val.cast (val_neq rfl rfl rfl) (v' := .bool true) rfl) ?_
  refine Gx.val rfl rfl rfl (val_move rfl rfl) ?_
  refine Gx.valg rfl rfl rfl rfl rfl (Val.cast (val_fieldAddr rfl Try.underlying35 rfl Try.ty3 rfl rfl) (v' := ptr b1 0) rfl) ?_
  refine Gx.valg rfl rfl rfl rfl rfl (val_load rfl Try.ty3 rfl rfl (cell_rec (k := 0) rfl rfl)) ?_
  refine Gx.valg rfl rfl rfl rfl rfl (Val.cast (val_neq rfl rfl rfl) (v' := .bool false) rfl) ?_
  refine Gx.val rfl rfl rfl (val_pickT rfl rfl rfl) ?_
  refine Gx.done ?_
  refine Gx.thenN ?_
  refine Gx.f rfl ?_
  refine Gx.skip ?_
  refine Gx.thenN ?_
  refine Gx.seq ?_
  refine Gx.seq ?_
  refine Gx.regionQ Try.mixed (by kernel_rfl) ?_
  refine Gq.val rfl rfl rfl (Val.cast (val_fieldAddr rfl Try.underlying35 rfl Try.ty3 rfl rfl) (v' := ptr b1 1) rfl) ?_
  refine Gq.val rfl rfl rfl (val_load rfl Try.ty3 rfl rfl (cell_rec (k := 0) rfl rfl)) ?_
  refine Gq.val rfl rfl rfl (val_lss rfl rfl rfl) ?_
  refine Gq.val rfl rfl rfl (val_move rfl rfl) ?_
  refine Gq.slot (t := 19) (v := .bool false) (look_decF rfl (by first | omega | (simp only [List.length_map]; omega))) ?_
  refine Gq.valg rfl rfl rfl rfl rfl (Val.cast (val_fieldAddr rfl Try.underlying35 rfl Try.ty3 rfl rfl) (v' := ptr b1 1) rfl) ?_
  refine Gq.valg rfl rfl rfl rfl rfl (val_load rfl Try.ty3 rfl rfl (cell_rec (k := 0) rfl rfl)) ?_
  refine Gq.valg rfl rfl rfl rfl rfl (val_move rfl rfl) ?_
  refine Gq.valg rfl rfl rfl rfl rfl (val_nilCheck rfl rfl) ?_
  refine Gq.valg rfl rfl rfl rfl rfl (Val.cast (val_fieldAddr rfl Try.underlying45 rfl Try.ty43 rfl rfl) (v' := ptr S 1) rfl) ?_
  refine Gq.valg rfl rfl rfl rfl rfl (val_load rfl Try.ty43 rfl rfl (cell_rec (k := 1) rfl rfl)) ?_
  refine Gq.valg rfl rfl rfl rfl rfl (val_len rfl Try.underlying43 rfl (len_own (k := 4) rfl)) ?_
  refine Gq.valg rfl rfl rfl rfl rfl (val_geq rfl rfl rfl) ?_
  refine Gq.val rfl rfl rfl (val_pickF rfl rfl rfl) ?_
  refine Gq.done ?_
  refine Gx.thenN ?_
  refine Gx.decF rfl (by first | omega | (simp only [List.length_map]; omega)) ?_
  refine Gx.skip ?_
  refine Gx.thenN ?_
  refine Gx.seq ?_
  have hbm : (pms.map Pm.b)[i]? = some pm.b := by rw [List.getElem?_map, hpm]; rfl
  refine Gx.regionQ Try.mixed (by kernel_rfl) ?_
  refine Gq.val rfl rfl rfl (val_move rfl rfl) ?_
  refine Gq.val rfl rfl rfl (val_nilCheck rfl rfl) ?_
  refine Gq.val rfl rfl rfl (Val.cast (val_fieldAddr rfl Try.underlying45 rfl Try.ty43 rfl rfl) (v' := ptr S 1) rfl) ?_
  refine Gq.val rfl rfl rfl (val_load rfl Try.ty43 rfl rfl (cell_rec (k := 1) rfl rfl)) ?_
  refine Gq.val rfl rfl rfl (Val.cast (val_fieldAddr rfl Try.underlying35 rfl Try.ty3 rfl rfl) (v' := ptr b1 1) rfl) ?_
  refine Gq.val rfl rfl rfl (val_load rfl Try.ty3 rfl rfl (cell_rec (k := 0) rfl rfl)) ?_
  refine Gq.val rfl rfl rfl (val_ixa rfl Try.underlying43 Try.ty46 rfl rfl (j := i) (rfl) (reach_own (k := 4) rfl hbm)) ?_
  refine Gq.val rfl rfl rfl (val_load rfl Try.ty46 rfl rfl (cell_own (i := 0) (k := 4) rfl hbm rfl)) ?_
  refine Gq.val rfl rfl rfl (val_assign rfl rfl) ?_
  refine Gq.done ?_
  refine Gx.thenN ?_
  refine Gx.seq ?_
  refine Gx.seq ?_
  refine Gx.region ?_
  refine Gx.val rfl rfl rfl (Val.cast (val_fieldAddr rfl Try.underlying35 rfl Try.ty3 rfl rfl) (v' := ptr b1 0) rfl) ?_
  refine Gx.val rfl rfl rfl (val_load rfl Try.ty3 rfl rfl (cell_rec (k := 0) rfl rfl)) ?_
  refine Gx.val rfl rfl rfl (Val.cast (val_eql rfl rfl rfl) (v' := .bool false) rfl) ?_
  refine Gx.done ?_
  refine Gx.thenN ?_
  refine Gx.f rfl ?_
  refine Gx.skip ?_
  refine Gx.thenN ?_
  refine Gx.seq ?_
  refine Gx.seq ?_
  refine Gx.regionQ Try.mixed (by kernel_rfl) ?_
  refine Gq.val rfl rfl rfl (Val.cast (val_fieldAddr rfl Try.underlying35 rfl Try.ty3 rfl rfl) (v' := ptr b1 2) rfl) ?_
  refine Gq.val rfl rfl rfl (val_load rfl Try.ty3 rfl rfl (cell_rec (k := 0) rfl rfl)) ?_
  refine Gq.val rfl rfl rfl (val_lss rfl rfl rfl) ?_
  refine Gq.val rfl rfl rfl (val_move rfl rfl) ?_
  refine Gq.slot (t := 69) (v := .bool false) (look_decF rfl (by omega)) ?_
  refine Gq.valg rfl rfl rfl rfl rfl (Val.cast (val_fieldAddr rfl Try.underlying35 rfl Try.ty3 rfl rfl) (v' := ptr b1 2) rfl) ?_
  refine Gq.valg rfl rfl rfl rfl rfl (val_load rfl Try.ty3 rfl rfl (cell_rec (k := 0) rfl rfl)) ?_
  refine Gq.valg rfl rfl rfl rfl rfl (val_move rfl rfl) ?_
  refine Gq.valg rfl rfl rfl rfl rfl (val_nilCheck rfl rfl) ?_
  refine Gq.valg rfl rfl rfl rfl rfl (Val.cast (val_fieldAddr rfl Try.underlying45 rfl Try.ty42 rfl rfl) (v' := ptr S 0) rfl) ?_
  refine Gq.valg rfl rfl rfl rfl rfl (val_load rfl Try.ty42 rfl rfl (cell_rec (k := 1) rfl rfl)) ?_
  refine Gq.valg rfl rfl rfl rfl rfl (val_len rfl Try.underlying42 rfl (len_own (k := 2) rfl)) ?_
  refine Gq.valg rfl rfl rfl rfl rfl (val_geq rfl rfl rfl) ?_
  refine Gq.val rfl rfl rfl (val_pickF rfl rfl rfl) ?_
  refine Gq.val rfl rfl rfl (val_move rfl rfl) ?_
  refine Gq.slot (t := 79) (v := .bool false) (look_decF rfl (by omega)) ?_
  refine Gq.valg rfl rfl rfl rfl rfl (val_move rfl rfl) ?_
  refine Gq.valg rfl rfl rfl rfl rfl (val_nilCheck rfl rfl) ?_
  refine Gq.valg rfl rfl rfl rfl rfl (Val.cast (val_fieldAddr rfl Try.underlying45 rfl Try.ty42 rfl rfl) (v' := ptr S 0) rfl) ?_
  refine Gq.valg rfl rfl rfl rfl rfl (val_load rfl Try.ty42 rfl rfl (cell_rec (k := 1) rfl rfl)) ?_
  refine Gq.valg rfl rfl rfl rfl rfl (Val.cast (val_fieldAddr rfl Try.underlying35 rfl Try.ty3 rfl rfl) (v' := ptr b1 2) rfl) ?_
  refine Gq.valg rfl rfl rfl rfl rfl (val_load rfl Try.ty3 rfl rfl (cell_rec (k := 0) rfl rfl)) ?_
  refine Gq.valg rfl rfl rfl rfl rfl (val_ixa rfl Try.underlying42 Try.ty53 rfl rfl (j := m) (rfl) (reach_own (k := 2) rfl hmm)) ?_
  refine Gq.valg rfl rfl rfl rfl rfl (Val.cast (val_fieldAddr rfl Try.underlying53 rfl Try.ty3 rfl rfl) (v' := ptr (sB av) (sO av + m * 2)) rfl) ?_
  refine Gq.valg rfl rfl rfl rfl rfl (val_load rfl Try.ty3 rfl rfl (cell_own (i := 0) (k := 2) rfl hmm rfl)) ?_
  refine Gq.valg rfl rfl rfl rfl rfl (Val.cast (val_fieldAddr rfl Try.underlying35 rfl Try.ty3 rfl rfl) (v' := ptr b1 1) rfl) ?_
  refine Gq.valg rfl rfl rfl rfl rfl (val_load rfl Try.ty3 rfl rfl (cell_rec (k := 0) rfl rfl)) ?_
  refine Gq.valg rfl rfl rfl rfl rfl (val_eql rfl rfl rfl) ?_
  refine Gq.val rfl rfl rfl (val_pickF rfl rfl rfl) ?_
  refine Gq.done ?_
  refine Gx.thenN ?_
  refine Gx.decF rfl (by omega) ?_
  refine Gx.skip ?_
  refine Gx.thenN ?_
  refine Gx.seq ?_
  refine Gx.seq ?_
  have hrow := hB.row pm.p (List.mem_of_getElem? (hpq ▸ hp))
  have hcl := hrow.cl
  have hll := hrow.ll
  have hcm := cmN_le hrow m
  have hcml := hrow.cm
  have hmk : m < 4611686018427387904 := by omega
  refine Gx.focus (n := 5) (k := i) rfl hpm (fun R2 hf3 hg4 => ?_)
  refine Gx.norm (l' := [Hp.rec_ b1 [.int .i64 2, .int .i64 ((i : Nat) : Int), .int .i64 ((m : Nat) : Int)], Hp.rec_ S [av, pv], Hp.own FA 2 av mms, Hp.big needH mms, Hp.own FP 1 pv (pms.map Pm.b), procH pm, R, R2]) rfl ?_
  refine Gx.cleave 5 (p := Hp.rec_ pm.b [pm.lv, pm.cv, .map (some pm.mb), pm.wv]) (q := Hp.map Try.prog 3 natL natV pm.mb pm.p.cm * (Hp.own FN 1 pm.lv pm.p.lst * (Hp.own FN 1 pm.cv pm.p.cnt * (Hp.own FN 1 pm.wv pm.p.wts)))) rfl rfl rfl ?_
  refine Gx.cleave 1 (p := Hp.map Try.prog 3 natL natV pm.mb pm.p.cm) (q := Hp.own FN 1 pm.lv pm.p.lst * (Hp.own FN 1 pm.cv pm.p.cnt * (Hp.own FN 1 pm.wv pm.p.wts))) rfl rfl rfl ?_
  refine Gx.cleave 1 (p := Hp.own FN 1 pm.lv pm.p.lst) (q := Hp.own FN 1 pm.cv pm.p.cnt * (Hp.own FN 1 pm.wv pm.p.wts)) rfl rfl rfl ?_
  refine Gx.cleave 1 (p := Hp.own FN 1 pm.cv pm.p.cnt) (q := Hp.own FN 1 pm.wv pm.p.wts) rfl rfl rfl ?_
  refine Gx.norm (l' := [Hp.own FN 1 pm.cv pm.p.cnt, Hp.own FN 1 pm.wv pm.p.wts, Hp.own FN 1 pm.lv pm.p.lst, Hp.map Try.prog 3 natL natV pm.mb pm.p.cm, Hp.rec_ pm.b [pm.lv, pm.cv, .map (some pm.mb), pm.wv], Hp.rec_ b1 [.int .i64 2, .int .i64 ((i : Nat) : Int), .int .i64 ((m : Nat) : Int)], Hp.rec_ S [av, pv], Hp.own FA 2 av mms, Hp.big needH mms, Hp.own FP 1 pv (pms.map Pm.b), R, R2]) (rfl) ?_
  refine Gx.regionO (fun j => false) 8 [0, 1, 2, 3, 4, 5, 6, 7] (fun _ => [Hp.own FN 1 pm.cv pm.p.cnt, Hp.own FN 1 pm.wv pm.p.wts, Hp.own FN 1 pm.lv pm.p.lst, Hp.map Try.prog 3 natL natV pm.mb pm.p.cm, Hp.rec_ pm.b [pm.lv, pm.cv, .map (some pm.mb), pm.wv], Hp.rec_ b1 [.int .i64 2, .int .i64 ((i : Nat) : Int), .int .i64 ((m : Nat) : Int)], Hp.rec_ S [av, pv], Hp.own FA 2 av mms, Hp.big needH mms, Hp.own FP 1 pv (pms.map Pm.b), R, R2]) Try.mixed (by kernel_rfl) rfl ?_
  refine Gw.val rfl rfl rfl rfl rfl (fun us => val_move rfl rfl) ?_
  refine Gw.val rfl rfl rfl rfl rfl (fun us => val_nilCheck rfl rfl) ?_
  refine Gw.val rfl rfl rfl rfl rfl (fun us => Val.cast (val_fieldAddr rfl Try.underlying49 rfl Try.ty47 rfl rfl) (v' := ptr pm.b 2) rfl) ?_
  refine Gw.val0 rfl rfl rfl (by kernel_rfl) rfl rfl (val_load rfl Try.ty47 rfl rfl (cell_rec (k := 4) rfl rfl)) ?_
  refine Gw.val rfl rfl rfl rfl rfl (fun us => Val.cast (val_fieldAddr rfl Try.underlying35 rfl Try.ty3 rfl rfl) (v' := ptr b1 2) rfl) ?_
  refine Gw.val0 rfl rfl rfl (by kernel_rfl) rfl rfl (val_load rfl Try.ty3 rfl rfl (cell_rec (k := 5) rfl rfl)) ?_
  refine Gw.val0 rfl rfl rfl (by kernel_rfl) rfl rfl (val_lookup1 rfl Try.underlying47 Try.kN Try.ty3 rfl rfl (i := m) (hmk) (k := 3) rfl (r := .int .i64 (((cmN pm.p m) : Nat) : Int)) (cmN_val _ _)) ?_
  refine Gw.val rfl rfl rfl rfl rfl (fun us => val_add rfl rfl rfl (r := ((cmN pm.p m + 1 : Nat) : Int)) (w64 (by omega) (by omega))) ?_
  refine Gw.done ?_
  refine Gx.norm (l' := [Hp.own FN 1 pm.cv pm.p.cnt, Hp.own FN 1 pm.wv pm.p.wts, Hp.own FN 1 pm.lv pm.p.lst, Hp.map Try.prog 3 natL natV pm.mb pm.p.cm, Hp.rec_ pm.b [pm.lv, pm.cv, .map (some pm.mb), pm.wv], Hp.rec_ b1 [.int .i64 2, .int .i64 ((i : Nat) : Int), .int .i64 ((m : Nat) : Int)], Hp.rec_ S [av, pv], Hp.own FA 2 av mms, Hp.big needH mms, Hp.own FP 1 pv (pms.map Pm.b), R, R2]) rfl ?_
  refine Gx.eff0 rfl rfl (eff_mapUpdate (vf := natV) rfl Try.underlying47 Try.kN natK rfl rfl rfl (i := m) (r := (cmN pm.p m + 1)) (hmk) (k := 3) rfl (by unfold maxLen; omega) (l' := [Hp.own FN 1 pm.cv pm.p.cnt, Hp.own FN 1 pm.wv pm.p.wts, Hp.own FN 1 pm.lv pm.p.lst, Hp.map Try.prog 3 natL natV pm.mb (putM pm.p.cm m (cmN pm.p m + 1)), Hp.rec_ pm.b [pm.lv, pm.cv, .map (some pm.mb), pm.wv], Hp.rec_ b1 [.int .i64 2, .int .i64 ((i : Nat) : Int), .int .i64 ((m : Nat) : Int)], Hp.rec_ S [av, pv], Hp.own FA 2 av mms, Hp.big needH mms, Hp.own FP 1 pv (pms.map Pm.b), R, R2]) rfl) ?_
  rintro _ _ rfl
  refine Gx.done ?_
  refine Gx.thenN ?_
  refine Gx.seq ?_
  refine Gx.regionQ Try.mixed (by kernel_rfl) ?_
  refine Gq.val rfl rfl rfl (val_move rfl rfl) ?_
  refine Gq.val rfl rfl rfl (val_nilCheck rfl rfl) ?_
  refine Gq.val rfl rfl rfl (Val.cast (val_fieldAddr rfl Try.underlying49 rfl Try.ty47 rfl rfl) (v' := ptr pm.b 2) rfl) ?_
  refine Gq.val rfl rfl rfl (val_load rfl Try.ty47 rfl rfl (cell_rec (k := 4) rfl rfl)) ?_
  refine Gq.val rfl rfl rfl (Val.cast (val_fieldAddr rfl Try.underlying35 rfl Try.ty3 rfl rfl) (v' := ptr b1 2) rfl) ?_
  refine Gq.val rfl rfl rfl (val_load rfl Try.ty3 rfl rfl (cell_rec (k := 5) rfl rfl)) ?_
  refine Gq.val rfl rfl rfl (val_lookup1 rfl Try.underlying47 Try.kN Try.ty3 rfl rfl (i := m) (hmk) (k := 3) rfl (r := .int .i64 (((cmN pm.p m + 1) : Nat) : Int)) (by rw [getM_put, if_pos rfl]; rfl)) ?_
  refine Gq.val rfl rfl rfl (val_gtr rfl rfl rfl) ?_
  refine Gq.done ?_
  refine Gx.thenN ?_
  refine Gx.decT rfl (by omega) ?_
  refine Gx.seq ?_
  refine Gx.region ?_
  refine Gx.val rfl rfl rfl (val_assign rfl rfl) ?_
  refine Gx.done ?_
  refine Gx.thenN ?_
  refine Gx.ret ?_
  refine Gx.thenR ?_
  refine Gx.front 11 rfl ?_
  refine Gx.front 2 rfl ?_
  refine Gx.front 2 rfl ?_
  refine Gx.front 3 rfl ?_
  refine Gx.front 4 rfl ?_
  refine Gx.front 5 rfl ?_
  refine Gx.sepEq (l' := [Hp.big procH (pms.set i (⟨pm.b, pm.mb, pm.lv, pm.cv, pm.wv, ⟨pm.p.lst, pm.p.cnt, (putM pm.p.cm m (cmN pm.p m + 1)), pm.p.wts⟩⟩ : Pm)), Hp.rec_ b1 [.int .i64 2, .int .i64 ((i : Nat) : Int), .int .i64 ((m : Nat) : Int)], Hp.rec_ S [av, pv], Hp.own FA 2 av mms, Hp.big needH mms, Hp.own FP 1 pv (pms.map Pm.b), R]) (by show Hp.rec_ pm.b [pm.lv, pm.cv, .map (some pm.mb), pm.wv] * (Hp.map Try.prog 3 natL natV pm.mb (putM pm.p.cm m (cmN pm.p m + 1)) * (Hp.own FN 1 pm.lv pm.p.lst * (Hp.own FN 1 pm.cv pm.p.cnt * (Hp.own FN 1 pm.wv pm.p.wts * (R2 * _))))) = Hp.big procH (pms.set i (⟨pm.b, pm.mb, pm.lv, pm.cv, pm.wv, ⟨pm.p.lst, pm.p.cnt, (putM pm.p.cm m (cmN pm.p m + 1)), pm.p.wts⟩⟩ : Pm)) * _; rw [(hg4 (⟨pm.b, pm.mb, pm.lv, pm.cv, pm.wv, ⟨pm.p.lst, pm.p.cnt, (putM pm.p.cm m (cmN pm.p m + 1)), pm.p.wts⟩⟩ : Pm))]; show _ = (Hp.rec_ pm.b [pm.lv, pm.cv, .map (some pm.mb), pm.wv] * (Hp.map Try.prog 3 natL natV pm.mb (putM pm.p.cm m (cmN pm.p m + 1)) * (Hp.own FN 1 pm.lv pm.p.lst * (Hp.own FN 1 pm.cv pm.p.cnt * Hp.own FN 1 pm.wv pm.p.wts))) * R2) * _; simp only [Hp.mul_assoc] <;> rfl) ?_
  refine Gx.norm (l' := [Hp.big procH (pms.set i (⟨pm.b, pm.mb, pm.lv, pm.cv, pm.wv, ⟨pm.p.lst, pm.p.cnt, (putM pm.p.cm m (cmN pm.p m + 1)), pm.p.wts⟩⟩ : Pm)), Hp.rec_ b1 [.int .i64 2, .int .i64 ((i : Nat) : Int), .int .i64 ((m : Nat) : Int)], Hp.rec_ S [av, pv], Hp.own FA 2 av mms, Hp.big needH mms, Hp.own FP 1 pv ((pms.set i (⟨pm.b, pm.mb, pm.lv, pm.cv, pm.wv, ⟨pm.p.lst, pm.p.cnt, (putM pm.p.cm m (cmN pm.p m + 1)), pm.p.wts⟩⟩ : Pm)).map Pm.b), R]) (by rw [set_bM (y := (⟨pm.b, pm.mb, pm.lv, pm.cv, pm.wv, ⟨pm.p.lst, pm.p.cnt, (putM pm.p.cm m (cmN pm.p m + 1)), pm.p.wts⟩⟩ : Pm)) hpm rfl] <;> rfl) ?_
  refine Gx.drop 1 rfl ?_
  refine Gx.front 5 rfl ?_
  refine Gx.front 1 rfl ?_
  refine Gx.front 5 rfl ?_
  refine Gx.front 5 rfl ?_
  refine Gx.front 5 rfl ?_
  refine Gx.front 5 rfl ?_
  refine Gx.ret1 Try.results14 rfl ?_
  exact ⟨rfl, rfl⟩

theorem step_take {W w : World} {S : Nat} {av pv : Value} {mms : List Mm} {pms : List Pm} {s : CS} {n L : Nat} {R : Hp} {i m : Nat} {pm : Pm} {p : Pt} {mm : Mm} (hp : s.ps[i]? = some p) (hpm : pms[i]? = some pm) (hpq : pm.p = p) (hok : POk pm) (hin : i < n) (hmm : mms[m]? = some mm) (hfo : mm.frm ≠ i) (hc0 : cmN pm.p m = 0) (hW : WOk mms pms s) (hB : BdC n L s) (hn1 : 1 ≤ n) (hn6 : n ≤ 6) (hL : L ≤ 400) (H : Sat W w (sep (WL S av pv mms pms R))) :
    Calls Try.prog 14 #[ptr S 0, .agg #[.int .i64 2, .int .i64 ((i : Nat) : Int), .int .i64 ((m : Nat) : Int)]] w (Ret W fun v l => ∃ (lw : Value) (xa : Option Addr) (wm xc : Nat), IsS lw ∧ xc ≤ maxLen ∧ v = .int .i64 0 ∧ sep l = sep (WL S av pv mms (pms.set i (⟨pm.b, pm.mb, lw, pm.cv, .slice xa wm xc, (settle (mms.map toMs) (⟨pm.p.lst, pm.p.cnt, (putM pm.p.cm m (cmN pm.p m + 1)), ins pm.p.wts m⟩ : Pt))⟩ : Pm)) R)) := by
  have hpl : pms.length = n := by rw [← hB.len, ← hW.ps, List.length_map]
  have hal : mms.length ≤ 400 := by have := hB.al; rw [← hW.all, List.length_map] at this; omega
  have hall : mms.length = s.all.length := by rw [← hW.all, List.length_map]
  have hfr : ∀ z ∈ mms, z.frm < n ∧ z.need.length = n := fun z hz => hB.fr (toMs z) (by rw [← hW.all]; exact List.mem_map_of_mem hz)
  have hmlt := (List.getElem?_eq_some_iff.1 hmm).1
  refine Gx.enter (l := [Hp.rec_ S [av, pv], Hp.own FA 2 av mms, Hp.big needH mms, Hp.own FP 1 pv (pms.map Pm.b), Hp.big procH pms, R]) Try.func14 rfl Try.ntmps14 rfl (H) ?_
  refine Gx.know (m' := [(0, ptr S 0), (1, .agg #[.int .i64 2, .int .i64 ((i : Nat) : Int), .int .i64 ((m : Nat) : Int)])]) (.cons rfl (.cons rfl .nil)) ?_
  refine Gx.seq ?_
  refine Gx.region ?_
  refine Gx.eff rfl rfl rfl (eff_box rfl rfl (vs := [.int .i64 2, .int .i64 ((i : Nat) : Int), .int .i64 ((m : Nat) : Int)]) rfl) ?_
  rintro _ _ ⟨b1, rfl, rfl⟩
  refine Gx.val rfl rfl rfl (val_assign rfl rfl) ?_
  refine Gx.done ?_
  refine Gx.thenN ?_
  refine Gx.seq ?_
  refine Gx.seq ?_
  refine Gx.region ?_
  refine Gx.val rfl rfl rfl (Val.cast (val_fieldAddr rfl Try.underlying35 rfl Try.ty3 rfl rfl) (v' := ptr b1 0) rfl) ?_
  refine Gx.val rfl rfl rfl (val_load rfl Try.ty3 rfl rfl (cell_rec (k := 0) rfl rfl)) ?_
  refine Gx.val rfl rfl rfl (Val.cast (val_neq rfl rfl rfl) (v' := .bool true) rfl) ?_
  refine Gx.val rfl rfl rfl (val_move rfl rfl) ?_
  refine Gx.valg rfl rfl rfl rfl rfl (Val.cast (val_fieldAddr rfl Try.underlying35 rfl Try.ty3 rfl rfl) (v' := ptr b1 0) rfl) ?_
  refine Gx.valg rfl rfl rfl rfl rfl (val_load rfl Try.ty3 rfl rfl (cell_rec (k := 0) rfl rfl)) ?_
  refine Gx.valg rfl rfl rfl rfl rfl (Val.cast (val_neq rfl rfl rfl) (v' := .bool false) rfl) ?_
  refine Gx.val rfl rfl rfl (val_pickT rfl rfl rfl) ?_
  refine Gx.done ?_
  refine Gx.thenN ?_
  refine Gx.f rfl ?_
  refine Gx.skip ?_
  refine Gx.thenN ?_
  refine Gx.seq ?_
  refine Gx.seq ?_
  refine Gx.regionQ Try.mixed (by kernel_rfl) ?_
  refine Gq.val rfl rfl rfl (Val.cast (val_fieldAddr rfl Try.underlying35 rfl Try.ty3 rfl rfl) (v' := ptr b1 1) rfl) ?_
  refine Gq.val rfl rfl rfl (val_load rfl Try.ty3 rfl rfl (cell_rec (k := 0) rfl rfl)) ?_
  refine Gq.val rfl rfl rfl (val_lss rfl rfl rfl) ?_
  refine Gq.val rfl rfl rfl (val_move rfl rfl) ?_
  refine Gq.slot (t := 19) (v := .bool false) (look_decF rfl (by first | omega | (simp only [List.length_map]; omega))) ?_
  refine Gq.valg rfl rfl rfl rfl rfl (Val.cast (val_fieldAddr rfl Try.underlying35 rfl Try.ty3 rfl rfl) (v' := ptr b1 1) rfl) ?_
  refine Gq.valg rfl rfl rfl rfl rfl (val_load rfl Try.ty3 rfl rfl (cell_rec (k := 0) rfl rfl)) ?_
  refine Gq.valg rfl rfl rfl rfl rfl (val_move rfl rfl) ?_
  refine Gq.valg rfl rfl rfl rfl rfl (val_nilCheck rfl rfl) ?_
  refine Gq.valg rfl rfl rfl rfl rfl (Val.cast (val_fieldAddr rfl Try.underlying45 rfl Try.ty43 rfl rfl) (v' := ptr S 1) rfl) ?_
  refine Gq.valg rfl rfl rfl rfl rfl (val_load rfl Try.ty43 rfl rfl (cell_rec (k := 1) rfl rfl)) ?_
  refine Gq.valg rfl rfl rfl rfl rfl (val_len rfl Try.underlying43 rfl (len_own (k := 4) rfl)) ?_
  refine Gq.valg rfl rfl rfl rfl rfl (val_geq rfl rfl rfl) ?_
  refine Gq.val rfl rfl rfl (val_pickF rfl rfl rfl) ?_
  refine Gq.done ?_
  refine Gx.thenN ?_
  refine Gx.decF rfl (by first | omega | (simp only [List.length_map]; omega)) ?_
  refine Gx.skip ?_
  refine Gx.thenN ?_
  refine Gx.seq ?_
  have hbm : (pms.map Pm.b)[i]? = some pm.b := by rw [List.getElem?_map, hpm]; rfl
  refine Gx.regionQ Try.mixed (by kernel_rfl) ?_
  refine Gq.val rfl rfl rfl (val_move rfl rfl) ?_
  refine Gq.val rfl rfl rfl (val_nilCheck rfl rfl) ?_
  refine Gq.val rfl rfl rfl (Val.cast (val_fieldAddr rfl Try.underlying45 rfl Try.ty43 rfl rfl) (v' := ptr S 1) rfl) ?_
  refine Gq.val rfl rfl rfl (val_load rfl Try.ty43 rfl rfl (cell_rec (k := 1) rfl rfl)) ?_
  refine Gq.val rfl rfl rfl (Val.cast (val_fieldAddr rfl Try.underlying35 rfl Try.ty3 rfl rfl) (v' := ptr b1 1) rfl) ?_
  refine Gq.val rfl rfl rfl (val_load rfl Try.ty3 rfl rfl (cell_rec (k := 0) rfl rfl)) ?_
  refine Gq.val rfl rfl rfl (val_ixa rfl Try.underlying43 Try.ty46 rfl rfl (j := i) (rfl) (reach_own (k := 4) rfl hbm)) ?_
  refine Gq.val rfl rfl rfl (val_load rfl Try.ty46 rfl rfl (cell_own (i := 0) (k := 4) rfl hbm rfl)) ?_
  refine Gq.val rfl rfl rfl (val_assign rfl rfl) ?_
  refine Gq.done ?_
  refine Gx.thenN ?_
  refine Gx.seq ?_
  refine Gx.seq ?_
  refine Gx.region ?_
  refine Gx.val rfl rfl rfl (Val.cast (val_fieldAddr rfl Try.underlying35 rfl Try.ty3 rfl rfl) (v' := ptr b1 0) rfl) ?_
  refine Gx.val rfl rfl rfl (val_load rfl Try.ty3 rfl rfl (cell_rec (k := 0) rfl rfl)) ?_
  refine Gx.val rfl rfl rfl (Val.cast (val_eql rfl rfl rfl) (v' := .bool false) rfl) ?_
  refine Gx.done ?_
  refine Gx.thenN ?_
  refine Gx.f rfl ?_
  refine Gx.skip ?_
  refine Gx.thenN ?_
  refine Gx.seq ?_
  refine Gx.seq ?_
  refine Gx.regionQ Try.mixed (by kernel_rfl) ?_
  refine Gq.val rfl rfl rfl (Val.cast (val_fieldAddr rfl Try.underlying35 rfl Try.ty3 rfl rfl) (v' := ptr b1 2) rfl) ?_
  refine Gq.val rfl rfl rfl (val_load rfl Try.ty3 rfl rfl (cell_rec (k := 0) rfl rfl)) ?_
  refine Gq.val rfl rfl rfl (val_lss rfl rfl rfl) ?_
  refine Gq.val rfl rfl rfl (val_move rfl rfl) ?_
  refine Gq.slot (t := 69) (v := .bool false) (look_decF rfl (by omega)) ?_
  refine Gq.valg rfl rfl rfl rfl rfl (Val.cast (val_fieldAddr rfl Try.underlying35 rfl Try.ty3 rfl rfl) (v' := ptr b1 2) rfl) ?_
  refine Gq.valg rfl rfl rfl rfl rfl (val_load rfl Try.ty3 rfl rfl (cell_rec (k := 0) rfl rfl)) ?_
  refine Gq.valg rfl rfl rfl rfl rfl (val_move rfl rfl) ?_
  refine Gq.valg rfl rfl rfl rfl rfl (val_nilCheck rfl rfl) ?_
  refine Gq.valg rfl rfl rfl rfl rfl (Val.cast (val_fieldAddr rfl Try.underlying45 rfl Try.ty42 rfl rfl) (v' := ptr S 0) rfl) ?_
  refine Gq.valg rfl rfl rfl rfl rfl (val_load rfl Try.ty42 rfl rfl (cell_rec (k := 1) rfl rfl)) ?_
  refine Gq.valg rfl rfl rfl rfl rfl (val_len rfl Try.underlying42 rfl (len_own (k := 2) rfl)) ?_
  refine Gq.valg rfl rfl rfl rfl rfl (val_geq rfl rfl rfl) ?_
  refine Gq.val rfl rfl rfl (val_pickF rfl rfl rfl) ?_
  refine Gq.val rfl rfl rfl (val_move rfl rfl) ?_
  refine Gq.slot (t := 79) (v := .bool false) (look_decF rfl (by omega)) ?_
  refine Gq.valg rfl rfl rfl rfl rfl (val_move rfl rfl) ?_
  refine Gq.valg rfl rfl rfl rfl rfl (val_nilCheck rfl rfl) ?_
  refine Gq.valg rfl rfl rfl rfl rfl (Val.cast (val_fieldAddr rfl Try.underlying45 rfl Try.ty42 rfl rfl) (v' := ptr S 0) rfl) ?_
  refine Gq.valg rfl rfl rfl rfl rfl (val_load rfl Try.ty42 rfl rfl (cell_rec (k := 1) rfl rfl)) ?_
  refine Gq.valg rfl rfl rfl rfl rfl (Val.cast (val_fieldAddr rfl Try.underlying35 rfl Try.ty3 rfl rfl) (v' := ptr b1 2) rfl) ?_
  refine Gq.valg rfl rfl rfl rfl rfl (val_load rfl Try.ty3 rfl rfl (cell_rec (k := 0) rfl rfl)) ?_
  refine Gq.valg rfl rfl rfl rfl rfl (val_ixa rfl Try.underlying42 Try.ty53 rfl rfl (j := m) (rfl) (reach_own (k := 2) rfl hmm)) ?_
  refine Gq.valg rfl rfl rfl rfl rfl (Val.cast (val_fieldAddr rfl Try.underlying53 rfl Try.ty3 rfl rfl) (v' := ptr (sB av) (sO av + m * 2)) rfl) ?_
  refine Gq.valg rfl rfl rfl rfl rfl (val_load rfl Try.ty3 rfl rfl (cell_own (i := 0) (k := 2) rfl hmm rfl)) ?_
  refine Gq.valg rfl rfl rfl rfl rfl (Val.cast (val_fieldAddr rfl Try.underlying35 rfl Try.ty3 rfl rfl) (v' := ptr b1 1) rfl) ?_
  refine Gq.valg rfl rfl rfl rfl rfl (val_load rfl Try.ty3 rfl rfl (cell_rec (k := 0) rfl rfl)) ?_
  refine Gq.valg rfl rfl rfl rfl rfl (val_eql rfl rfl rfl) ?_
  refine Gq.val rfl rfl rfl (val_pickF rfl rfl rfl) ?_
  refine Gq.done ?_
  refine Gx.thenN ?_
  refine Gx.decF rfl (by omega) ?_
  refine Gx.skip ?_
  refine Gx.thenN ?_
  refine Gx.seq ?_
  refine Gx.seq ?_
  have hrow := hB.row pm.p (List.mem_of_getElem? (hpq ▸ hp))
  have hcl := hrow.cl
  have hll := hrow.ll
  have hcm := cmN_le hrow m
  have hcml := hrow.cm
  have hmk : m < 4611686018427387904 := by omega
  refine Gx.focus (n := 5) (k := i) rfl hpm (fun R2 hf3 hg4 => ?_)
  refine Gx.norm (l' := [Hp.rec_ b1 [.int .i64 2, .int .i64 ((i : Nat) : Int), .int .i64 ((m : Nat) : Int)], Hp.rec_ S [av, pv], Hp.own FA 2 av mms, Hp.big needH mms, Hp.own FP 1 pv (pms.map Pm.b), procH pm, R, R2]) rfl ?_
  refine Gx.cleave 5 (p := Hp.rec_ pm.b [pm.lv, pm.cv, .map (some pm.mb), pm.wv]) (q := Hp.map Try.prog 3 natL natV pm.mb pm.p.cm * (Hp.own FN 1 pm.lv pm.p.lst * (Hp.own FN 1 pm.cv pm.p.cnt * (Hp.own FN 1 pm.wv pm.p.wts)))) rfl rfl rfl ?_
  refine Gx.cleave 1 (p := Hp.map Try.prog 3 natL natV pm.mb pm.p.cm) (q := Hp.own FN 1 pm.lv pm.p.lst * (Hp.own FN 1 pm.cv pm.p.cnt * (Hp.own FN 1 pm.wv pm.p.wts))) rfl rfl rfl ?_
  refine Gx.cleave 1 (p := Hp.own FN 1 pm.lv pm.p.lst) (q := Hp.own FN 1 pm.cv pm.p.cnt * (Hp.own FN 1 pm.wv pm.p.wts)) rfl rfl rfl ?_
  refine Gx.cleave 1 (p := Hp.own FN 1 pm.cv pm.p.cnt) (q := Hp.own FN 1 pm.wv pm.p.wts) rfl rfl rfl ?_
  refine Gx.norm (l' := [Hp.own FN 1 pm.cv pm.p.cnt, Hp.own FN 1 pm.wv pm.p.wts, Hp.own FN 1 pm.lv pm.p.lst, Hp.map Try.prog 3 natL natV pm.mb pm.p.cm, Hp.rec_ pm.b [pm.lv, pm.cv, .map (some pm.mb), pm.wv], Hp.rec_ b1 [.int .i64 2, .int .i64 ((i : Nat) : Int), .int .i64 ((m : Nat) : Int)], Hp.rec_ S [av, pv], Hp.own FA 2 av mms, Hp.big needH mms, Hp.own FP 1 pv (pms.map Pm.b), R, R2]) (rfl) ?_
  refine Gx.regionO (fun j => false) 8 [0, 1, 2, 3, 4, 5, 6, 7] (fun _ => [Hp.own FN 1 pm.cv pm.p.cnt, Hp.own FN 1 pm.wv pm.p.wts, Hp.own FN 1 pm.lv pm.p.lst, Hp.map Try.prog 3 natL natV pm.mb pm.p.cm, Hp.rec_ pm.b [pm.lv, pm.cv, .map (some pm.mb), pm.wv], Hp.rec_ b1 [.int .i64 2, .int .i64 ((i : Nat) : Int), .int .i64 ((m : Nat) : Int)], Hp.rec_ S [av, pv], Hp.own FA 2 av mms, Hp.big needH mms, Hp.own FP 1 pv (pms.map Pm.b), R, R2]) Try.mixed (by kernel_rfl) rfl ?_
  refine Gw.val rfl rfl rfl rfl rfl (fun us => val_move rfl rfl) ?_
  refine Gw.val rfl rfl rfl rfl rfl (fun us => val_nilCheck rfl rfl) ?_
  refine Gw.val rfl rfl rfl rfl rfl (fun us => Val.cast (val_fieldAddr rfl Try.underlying49 rfl Try.ty47 rfl rfl) (v' := ptr pm.b 2) rfl) ?_
  refine Gw.val0 rfl rfl rfl (by kernel_rfl) rfl rfl (val_load rfl Try.ty47 rfl rfl (cell_rec (k := 4) rfl rfl)) ?_
  refine Gw.val rfl rfl rfl rfl rfl (fun us => Val.cast (val_fieldAddr rfl Try.underlying35 rfl Try.ty3 rfl rfl) (v' := ptr b1 2) rfl) ?_
  refine Gw.val0 rfl rfl rfl (by kernel_rfl) rfl rfl (val_load rfl Try.ty3 rfl rfl (cell_rec (k := 5) rfl rfl)) ?_
  refine Gw.val0 rfl rfl rfl (by kernel_rfl) rfl rfl (val_lookup1 rfl Try.underlying47 Try.kN Try.ty3 rfl rfl (i := m) (hmk) (k := 3) rfl (r := .int .i64 (((cmN pm.p m) : Nat) : Int)) (cmN_val _ _)) ?_
  refine Gw.val rfl rfl rfl rfl rfl (fun us => val_add rfl rfl rfl (r := ((cmN pm.p m + 1 : Nat) : Int)) (w64 (by omega) (by omega))) ?_
  refine Gw.done ?_
  refine Gx.norm (l' := [Hp.own FN 1 pm.cv pm.p.cnt, Hp.own FN 1 pm.wv pm.p.wts, Hp.own FN 1 pm.lv pm.p.lst, Hp.map Try.prog 3 natL natV pm.mb pm.p.cm, Hp.rec_ pm.b [pm.lv, pm.cv, .map (some pm.mb), pm.wv], Hp.rec_ b1 [.int .i64 2, .int .i64 ((i : Nat) : Int), .int .i64 ((m : Nat) : Int)], Hp.rec_ S [av, pv], Hp.own FA 2 av mms, Hp.big needH mms, Hp.own FP 1 pv (pms.map Pm.b), R, R2]) rfl ?_
  refine Gx.eff0 rfl rfl (eff_mapUpdate (vf := natV) rfl Try.underlying47 Try.kN natK rfl rfl rfl (i := m) (r := (cmN pm.p m + 1)) (hmk) (k := 3) rfl (by unfold maxLen; omega) (l' := [Hp.own FN 1 pm.cv pm.p.cnt, Hp.own FN 1 pm.wv pm.p.wts, Hp.own FN 1 pm.lv pm.p.lst, Hp.map Try.prog 3 natL natV pm.mb (putM pm.p.cm m (cmN pm.p m + 1)), Hp.rec_ pm.b [pm.lv, pm.cv, .map (some pm.mb), pm.wv], Hp.rec_ b1 [.int .i64 2, .int .i64 ((i : Nat) : Int), .int .i64 ((m : Nat) : Int)], Hp.rec_ S [av, pv], Hp.own FA 2 av mms, Hp.big needH mms, Hp.own FP 1 pv (pms.map Pm.b), R, R2]) rfl) ?_
  rintro _ _ rfl
  refine Gx.done ?_
  refine Gx.thenN ?_
  refine Gx.seq ?_
  refine Gx.regionQ Try.mixed (by kernel_rfl) ?_
  refine Gq.val rfl rfl rfl (val_move rfl rfl) ?_
  refine Gq.val rfl rfl rfl (val_nilCheck rfl rfl) ?_
  refine Gq.val rfl rfl rfl (Val.cast (val_fieldAddr rfl Try.underlying49 rfl Try.ty47 rfl rfl) (v' := ptr pm.b 2) rfl) ?_
  refine Gq.val rfl rfl rfl (val_load rfl Try.ty47 rfl rfl (cell_rec (k := 4) rfl rfl)) ?_
  refine Gq.val rfl rfl rfl (Val.cast (val_fieldAddr rfl Try.underlying35 rfl Try.ty3 rfl rfl) (v' := ptr b1 2) rfl) ?_
  refine Gq.val rfl rfl rfl (val_load rfl Try.ty3 rfl rfl (cell_rec (k := 5) rfl rfl)) ?_
  refine Gq.val rfl rfl rfl (val_lookup1 rfl Try.underlying47 Try.kN Try.ty3 rfl rfl (i := m) (hmk) (k := 3) rfl (r := .int .i64 (((cmN pm.p m + 1) : Nat) : Int)) (by rw [getM_put, if_pos rfl]; rfl)) ?_
  refine Gq.val rfl rfl rfl (val_gtr rfl rfl rfl) ?_
  refine Gq.done ?_
  refine Gx.thenN ?_
  refine Gx.decF rfl (by omega) ?_
  refine Gx.skip ?_
  refine Gx.thenN ?_
  refine Gx.seq ?_
  obtain ⟨wa, wn, wc, hwc, hwv⟩ := hok.iw
  have hcb := hrow.cb
  have hct : cntL pm.p.wts m ≤ pm.p.wts.length := List.countP_le_length
  refine Gx.norm (l' := [Hp.own FN 1 pm.cv pm.p.cnt, Hp.own FN 1 (.slice wa wn wc) pm.p.wts, Hp.own FN 1 pm.lv pm.p.lst, Hp.map Try.prog 3 natL natV pm.mb (putM pm.p.cm m (cmN pm.p m + 1)), Hp.rec_ pm.b [pm.lv, pm.cv, .map (some pm.mb), .slice wa wn wc], Hp.rec_ b1 [.int .i64 2, .int .i64 ((i : Nat) : Int), .int .i64 ((m : Nat) : Int)], Hp.rec_ S [av, pv], Hp.own FA 2 av mms, Hp.big needH mms, Hp.own FP 1 pv (pms.map Pm.b), R, R2]) (by rw [hwv] <;> rfl) ?_
  refine Gx.regionQ Try.mixed (by kernel_rfl) ?_
  refine Gq.val rfl rfl rfl (val_move rfl rfl) ?_
  refine Gq.val rfl rfl rfl (val_nilCheck rfl rfl) ?_
  refine Gq.val rfl rfl rfl (Val.cast (val_fieldAddr rfl Try.underlying49 rfl Try.ty30 rfl rfl) (v' := ptr pm.b 3) rfl) ?_
  refine Gq.val rfl rfl rfl (val_load rfl Try.ty30 rfl rfl (cell_rec (k := 4) rfl rfl)) ?_
  refine Gq.val rfl rfl rfl (Val.cast (val_fieldAddr rfl Try.underlying35 rfl Try.ty3 rfl rfl) (v' := ptr b1 2) rfl) ?_
  refine Gq.val rfl rfl rfl (val_load rfl Try.ty3 rfl rfl (cell_rec (k := 5) rfl rfl)) ?_
  refine Gq.val rfl rfl rfl (val_call (vs := [.slice wa wn wc, .int .i64 ((m : Nat) : Int)]) rfl Try.fn18 rfl (fun w H => search_any hrow.sw (by omega) (H.at_ (k := 1) rfl))) ?_
  refine Gq.val rfl rfl rfl (val_move rfl rfl) ?_
  refine Gq.val rfl rfl rfl (val_extract rfl rfl rfl) ?_
  refine Gq.val rfl rfl rfl (val_extract rfl rfl rfl) ?_
  refine Gq.val rfl rfl rfl (val_assign rfl rfl) ?_
  refine Gq.val rfl rfl rfl (val_assign rfl rfl) ?_
  refine Gq.done ?_
  refine Gx.thenN ?_
  refine Gx.seq ?_
  refine Gx.regionO (fun j => j == 8 || j == 9) 12 [0, 1, 2, 3, 4, 5, 6, 7, 8, 9, 10, 11] (fun us => match us with | [] => [Hp.own FN 1 pm.cv pm.p.cnt, Hp.own FN 1 (.slice wa wn wc) pm.p.wts, Hp.own FN 1 pm.lv pm.p.lst, Hp.map Try.prog 3 natL natV pm.mb (putM pm.p.cm m (cmN pm.p m + 1)), Hp.rec_ pm.b [pm.lv, pm.cv, .map (some pm.mb), .slice wa wn wc], Hp.rec_ b1 [.int .i64 2, .int .i64 ((i : Nat) : Int), .int .i64 ((m : Nat) : Int)], Hp.rec_ S [av, pv], Hp.own FA 2 av mms, Hp.big needH mms, Hp.own FP 1 pv (pms.map Pm.b), R, R2] | [u1] => [litH (sB u1) m, Hp.own FN 1 pm.cv pm.p.cnt, Hp.own FN 1 (.slice wa wn wc) pm.p.wts, Hp.own FN 1 pm.lv pm.p.lst, Hp.map Try.prog 3 natL natV pm.mb (putM pm.p.cm m (cmN pm.p m + 1)), Hp.rec_ pm.b [pm.lv, pm.cv, .map (some pm.mb), .slice wa wn wc], Hp.rec_ b1 [.int .i64 2, .int .i64 ((i : Nat) : Int), .int .i64 ((m : Nat) : Int)], Hp.rec_ S [av, pv], Hp.own FA 2 av mms, Hp.big needH mms, Hp.own FP 1 pv (pms.map Pm.b), R, R2] | u1 :: u2 :: _ => [Hp.own FN 1 u2 (ins pm.p.wts m), litH (sB u1) m, Hp.own FN 1 pm.cv pm.p.cnt, Hp.own FN 1 pm.lv pm.p.lst, Hp.map Try.prog 3 natL natV pm.mb (putM pm.p.cm m (cmN pm.p m + 1)), Hp.rec_ pm.b [pm.lv, pm.cv, .map (some pm.mb), .slice wa wn wc], Hp.rec_ b1 [.int .i64 2, .int .i64 ((i : Nat) : Int), .int .i64 ((m : Nat) : Int)], Hp.rec_ S [av, pv], Hp.own FA 2 av mms, Hp.big needH mms, Hp.own FP 1 pv (pms.map Pm.b), R, R2]) Try.mixed (by kernel_rfl) rfl ?_
  refine Gw.val rfl rfl rfl rfl rfl (fun us => val_move rfl rfl) ?_
  refine Gw.val rfl rfl rfl rfl rfl (fun us => val_move rfl rfl) ?_
  refine Gw.val rfl rfl rfl rfl rfl (fun us => val_nilCheck rfl rfl) ?_
  refine Gw.val rfl rfl rfl rfl rfl (fun us => Val.cast (val_fieldAddr rfl Try.underlying49 rfl Try.ty30 rfl rfl) (v' := ptr pm.b 3) rfl) ?_
  refine Gw.val rfl rfl rfl rfl rfl (fun us => match us with | [] => val_load rfl Try.ty30 rfl rfl (cell_rec (k := 4) rfl rfl) | [u1] => val_load rfl Try.ty30 rfl rfl (cell_rec (k := 5) rfl rfl) | u1 :: u2 :: _ => val_load rfl Try.ty30 rfl rfl (cell_rec (k := 5) rfl rfl)) ?_
  refine Gw.val rfl rfl rfl rfl rfl (fun us => val_move rfl rfl) ?_
  refine Gw.val rfl rfl rfl rfl rfl (fun us => Val.cast (val_fieldAddr rfl Try.underlying35 rfl Try.ty3 rfl rfl) (v' := ptr b1 2) rfl) ?_
  refine Gw.val rfl rfl rfl rfl rfl (fun us => match us with | [] => val_load rfl Try.ty3 rfl rfl (cell_rec (k := 5) rfl rfl) | [u1] => val_load rfl Try.ty3 rfl rfl (cell_rec (k := 6) rfl rfl) | u1 :: u2 :: _ => val_load rfl Try.ty3 rfl rfl (cell_rec (k := 6) rfl rfl)) ?_
  refine Gw.chg rfl rfl rfl rfl rfl (fun v => ∃ b5, v = .slice (some ⟨b5, 0, none⟩) 1 1) (Eff.mono (eff_litN (k := m) rfl rfl (fun w => by first | (go_simp; done) | (go_simp; rfl))) (by rintro _ _ ⟨b5, rfl, rfl⟩; exact ⟨⟨b5, rfl⟩, rfl⟩)) ?_
  rintro _ ⟨b5, rfl⟩
  refine Gw.chg rfl rfl rfl rfl rfl IsC (Eff.mono (eff_call (vs := [.slice wa wn wc, .int .i64 (((cntL pm.p.wts m) : Nat) : Int), .slice (some ⟨b5, 0, none⟩) 1 1]) rfl Try.fn19 rfl (fun w H => insert_any hct (by omega) hwc (H.at2 (k := 2) (k' := 0) rfl rfl))) (by rintro _ _ ⟨h8, h9⟩; exact ⟨h8, h9⟩)) ?_
  intro vi hivi
  refine Gw.val rfl rfl rfl rfl rfl (fun us => val_nilCheck rfl rfl) ?_
  refine Gw.val rfl rfl rfl rfl rfl (fun us => Val.cast (val_fieldAddr rfl Try.underlying49 rfl Try.ty30 rfl rfl) (v' := ptr pm.b 3) rfl) ?_
  refine Gw.done ?_
  refine Gx.norm (l' := [Hp.own FN 1 vi (ins pm.p.wts m), litH b5 m, Hp.own FN 1 pm.cv pm.p.cnt, Hp.own FN 1 pm.lv pm.p.lst, Hp.map Try.prog 3 natL natV pm.mb (putM pm.p.cm m (cmN pm.p m + 1)), Hp.rec_ pm.b [pm.lv, pm.cv, .map (some pm.mb), .slice wa wn wc], Hp.rec_ b1 [.int .i64 2, .int .i64 ((i : Nat) : Int), .int .i64 ((m : Nat) : Int)], Hp.rec_ S [av, pv], Hp.own FA 2 av mms, Hp.big needH mms, Hp.own FP 1 pv (pms.map Pm.b), R, R2]) rfl ?_
  refine Gx.eff0 rfl rfl (eff_store rfl Try.ty30 rfl rfl (us := [vi]) hivi.isS.cellsL rfl hivi.isS.all (k := 5) rfl (rfl) (vs' := [pm.lv, pm.cv, .map (some pm.mb), vi]) (rfl) (l' := [Hp.own FN 1 vi (ins pm.p.wts m), litH b5 m, Hp.own FN 1 pm.cv pm.p.cnt, Hp.own FN 1 pm.lv pm.p.lst, Hp.map Try.prog 3 natL natV pm.mb (putM pm.p.cm m (cmN pm.p m + 1)), Hp.rec_ pm.b [pm.lv, pm.cv, .map (some pm.mb), vi], Hp.rec_ b1 [.int .i64 2, .int .i64 ((i : Nat) : Int), .int .i64 ((m : Nat) : Int)], Hp.rec_ S [av, pv], Hp.own FA 2 av mms, Hp.big needH mms, Hp.own FP 1 pv (pms.map Pm.b), R, R2]) rfl) ?_
  rintro _ _ rfl
  refine Gx.done ?_
  refine Gx.thenN ?_
  refine Gx.seq ?_
  obtain ⟨xa, xn, xc, hxc, hxv⟩ := hivi
  have hinl : (ins pm.p.wts m).length = pm.p.wts.length + 1 := by unfold ins; simp; omega
  refine Gx.norm (l' := [Hp.own FN 1 (.slice xa xn xc) (ins pm.p.wts m), litH b5 m, Hp.own FN 1 pm.cv pm.p.cnt, Hp.own FN 1 pm.lv pm.p.lst, Hp.map Try.prog 3 natL natV pm.mb (putM pm.p.cm m (cmN pm.p m + 1)), Hp.rec_ pm.b [pm.lv, pm.cv, .map (some pm.mb), .slice xa xn xc], Hp.rec_ b1 [.int .i64 2, .int .i64 ((i : Nat) : Int), .int .i64 ((m : Nat) : Int)], Hp.rec_ S [av, pv], Hp.own FA 2 av mms, Hp.big needH mms, Hp.own FP 1 pv (pms.map Pm.b), R, R2]) (by rw [hxv] <;> rfl) ?_
  refine Gx.drop 1 rfl ?_
  refine Gx.front 0 rfl ?_
  refine Gx.front 1 rfl ?_
  refine Gx.front 2 rfl ?_
  refine Gx.front 4 rfl ?_
  refine Gx.front 8 rfl ?_
  refine Gx.front 8 rfl ?_
  refine Gx.front 8 rfl ?_
  refine Gx.region ?_
  refine Gx.val rfl rfl rfl (val_move rfl rfl) ?_
  refine Gx.val rfl rfl rfl (val_move rfl rfl) ?_
  refine Gx.eff rfl rfl rfl (eff_call (vs := [ptr S 0, ptr pm.b 0]) rfl Try.fn20 rfl (fun w H => settle_any (p := (⟨pm.p.lst, pm.p.cnt, (putM pm.p.cm m (cmN pm.p m + 1)), ins pm.p.wts m⟩ : Pt)) (by omega) (fun z hz => by have := (hfr z hz).1; dsimp only; omega) (fun z hz => by have := (hfr z hz).2; dsimp only; omega) (by dsimp only; omega) (by dsimp only; omega) (fun z hz => by have := hcb z hz; dsimp only; omega) (fun z hz => by (have hz : z ∈ ins pm.p.wts m := hz); unfold ins at hz; rcases List.mem_append.1 hz with q | q; (have := hrow.pw z (List.mem_of_mem_take q); omega); (rcases List.mem_cons.1 q with q | q; (have := (List.getElem?_eq_some_iff.1 hmm).1; omega); (have := hrow.pw z (List.mem_of_mem_drop q); omega))) hxc hok.il hok.ic H)) ?_
  rintro _ l7 ⟨lw, wm, hilw, rfl, hl7⟩
  refine Gx.sepEq (l' := [Hp.rec_ S [av, pv], Hp.own FA 2 av mms, Hp.big needH mms, Hp.rec_ pm.b [lw, pm.cv, .map (some pm.mb), .slice xa wm xc], Hp.own FN 1 lw ((settle (mms.map toMs) (⟨pm.p.lst, pm.p.cnt, (putM pm.p.cm m (cmN pm.p m + 1)), ins pm.p.wts m⟩ : Pt)).lst), Hp.own FN 1 pm.cv ((settle (mms.map toMs) (⟨pm.p.lst, pm.p.cnt, (putM pm.p.cm m (cmN pm.p m + 1)), ins pm.p.wts m⟩ : Pt)).cnt), Hp.own FN 1 (.slice xa wm xc) ((settle (mms.map toMs) (⟨pm.p.lst, pm.p.cnt, (putM pm.p.cm m (cmN pm.p m + 1)), ins pm.p.wts m⟩ : Pt)).wts), Hp.map Try.prog 3 natL natV pm.mb (putM pm.p.cm m (cmN pm.p m + 1)), Hp.rec_ b1 [.int .i64 2, .int .i64 ((i : Nat) : Int), .int .i64 ((m : Nat) : Int)], Hp.own FP 1 pv (pms.map Pm.b), R, R2]) hl7 ?_
  refine Gx.done ?_
  refine Gx.thenN ?_
  refine Gx.seq ?_
  refine Gx.region ?_
  refine Gx.val rfl rfl rfl (val_assign rfl rfl) ?_
  refine Gx.done ?_
  refine Gx.thenN ?_
  refine Gx.ret ?_
  refine Gx.norm (l' := [Hp.rec_ S [av, pv], Hp.own FA 2 av mms, Hp.big needH mms, Hp.rec_ pm.b [lw, pm.cv, .map (some pm.mb), .slice xa wm xc], Hp.own FN 1 lw ((settle (mms.map toMs) (⟨pm.p.lst, pm.p.cnt, (putM pm.p.cm m (cmN pm.p m + 1)), ins pm.p.wts m⟩ : Pt)).lst), Hp.own FN 1 pm.cv ((settle (mms.map toMs) (⟨pm.p.lst, pm.p.cnt, (putM pm.p.cm m (cmN pm.p m + 1)), ins pm.p.wts m⟩ : Pt)).cnt), Hp.own FN 1 (.slice xa wm xc) ((settle (mms.map toMs) (⟨pm.p.lst, pm.p.cnt, (putM pm.p.cm m (cmN pm.p m + 1)), ins pm.p.wts m⟩ : Pt)).wts), Hp.map Try.prog 3 natL natV pm.mb ((settle (mms.map toMs) (⟨pm.p.lst, pm.p.cnt, (putM pm.p.cm m (cmN pm.p m + 1)), ins pm.p.wts m⟩ : Pt)).cm), Hp.rec_ b1 [.int .i64 2, .int .i64 ((i : Nat) : Int), .int .i64 ((m : Nat) : Int)], Hp.own FP 1 pv (pms.map Pm.b), R, R2]) (by rw [show (settle (mms.map toMs) (⟨pm.p.lst, pm.p.cnt, (putM pm.p.cm m (cmN pm.p m + 1)), ins pm.p.wts m⟩ : Pt)).cm = (putM pm.p.cm m (cmN pm.p m + 1)) from stl_cm _ _ _] <;> rfl) ?_
  refine Gx.front 11 rfl ?_
  refine Gx.front 7 rfl ?_
  refine Gx.front 7 rfl ?_
  refine Gx.front 7 rfl ?_
  refine Gx.front 8 rfl ?_
  refine Gx.front 8 rfl ?_
  refine Gx.sepEq (l' := [Hp.big procH (pms.set i (⟨pm.b, pm.mb, lw, pm.cv, .slice xa wm xc, (settle (mms.map toMs) (⟨pm.p.lst, pm.p.cnt, (putM pm.p.cm m (cmN pm.p m + 1)), ins pm.p.wts m⟩ : Pt))⟩ : Pm)), Hp.rec_ S [av, pv], Hp.own FA 2 av mms, Hp.big needH mms, Hp.rec_ b1 [.int .i64 2, .int .i64 ((i : Nat) : Int), .int .i64 ((m : Nat) : Int)], Hp.own FP 1 pv (pms.map Pm.b), R]) (by show Hp.rec_ pm.b [lw, pm.cv, .map (some pm.mb), .slice xa wm xc] * (Hp.map Try.prog 3 natL natV pm.mb ((settle (mms.map toMs) (⟨pm.p.lst, pm.p.cnt, (putM pm.p.cm m (cmN pm.p m + 1)), ins pm.p.wts m⟩ : Pt)).cm) * (Hp.own FN 1 lw ((settle (mms.map toMs) (⟨pm.p.lst, pm.p.cnt, (putM pm.p.cm m (cmN pm.p m + 1)), ins pm.p.wts m⟩ : Pt)).lst) * (Hp.own FN 1 pm.cv ((settle (mms.map toMs) (⟨pm.p.lst, pm.p.cnt, (putM pm.p.cm m (cmN pm.p m + 1)), ins pm.p.wts m⟩ : Pt)).cnt) * (Hp.own FN 1 (.slice xa wm xc) ((settle (mms.map toMs) (⟨pm.p.lst, pm.p.cnt, (putM pm.p.cm m (cmN pm.p m + 1)), ins pm.p.wts m⟩ : Pt)).wts) * (R2 * _))))) = Hp.big procH (pms.set i (⟨pm.b, pm.mb, lw, pm.cv, .slice xa wm xc, (settle (mms.map toMs) (⟨pm.p.lst, pm.p.cnt, (putM pm.p.cm m (cmN pm.p m + 1)), ins pm.p.wts m⟩ : Pt))⟩ : Pm)) * _; rw [(hg4 (⟨pm.b, pm.mb, lw, pm.cv, .slice xa wm xc, (settle (mms.map toMs) (⟨pm.p.lst, pm.p.cnt, (putM pm.p.cm m (cmN pm.p m + 1)), ins pm.p.wts m⟩ : Pt))⟩ : Pm))]; show _ = (Hp.rec_ pm.b [lw, pm.cv, .map (some pm.mb), .slice xa wm xc] * (Hp.map Try.prog 3 natL natV pm.mb ((settle (mms.map toMs) (⟨pm.p.lst, pm.p.cnt, (putM pm.p.cm m (cmN pm.p m + 1)), ins pm.p.wts m⟩ : Pt)).cm) * (Hp.own FN 1 lw ((settle (mms.map toMs) (⟨pm.p.lst, pm.p.cnt, (putM pm.p.cm m (cmN pm.p m + 1)), ins pm.p.wts m⟩ : Pt)).lst) * (Hp.own FN 1 pm.cv ((settle (mms.map toMs) (⟨pm.p.lst, pm.p.cnt, (putM pm.p.cm m (cmN pm.p m + 1)), ins pm.p.wts m⟩ : Pt)).cnt) * Hp.own FN 1 (.slice xa wm xc) ((settle (mms.map toMs) (⟨pm.p.lst, pm.p.cnt, (putM pm.p.cm m (cmN pm.p m + 1)), ins pm.p.wts m⟩ : Pt)).wts)))) * R2) * _; simp only [Hp.mul_assoc] <;> rfl) ?_
  refine Gx.norm (l' := [Hp.big procH (pms.set i (⟨pm.b, pm.mb, lw, pm.cv, .slice xa wm xc, (settle (mms.map toMs) (⟨pm.p.lst, pm.p.cnt, (putM pm.p.cm m (cmN pm.p m + 1)), ins pm.p.wts m⟩ : Pt))⟩ : Pm)), Hp.rec_ S [av, pv], Hp.own FA 2 av mms, Hp.big needH mms, Hp.rec_ b1 [.int .i64 2, .int .i64 ((i : Nat) : Int), .int .i64 ((m : Nat) : Int)], Hp.own FP 1 pv ((pms.set i (⟨pm.b, pm.mb, lw, pm.cv, .slice xa wm xc, (settle (mms.map toMs) (⟨pm.p.lst, pm.p.cnt, (putM pm.p.cm m (cmN pm.p m + 1)), ins pm.p.wts m⟩ : Pt))⟩ : Pm)).map Pm.b), R]) (by rw [set_bM (y := (⟨pm.b, pm.mb, lw, pm.cv, .slice xa wm xc, (settle (mms.map toMs) (⟨pm.p.lst, pm.p.cnt, (putM pm.p.cm m (cmN pm.p m + 1)), ins pm.p.wts m⟩ : Pt))⟩ : Pm)) hpm rfl] <;> rfl) ?_
  refine Gx.drop 4 rfl ?_
  refine Gx.front 5 rfl ?_
  refine Gx.front 1 rfl ?_
  refine Gx.front 5 rfl ?_
  refine Gx.front 5 rfl ?_
  refine Gx.front 5 rfl ?_
  refine Gx.front 5 rfl ?_
  refine Gx.ret1 Try.results14 rfl ?_
  exact ⟨lw, xa, wm, xc, hilw, hxc, rfl, rfl⟩

end Go.Proofs.Ytcjdphhofjibdaa
