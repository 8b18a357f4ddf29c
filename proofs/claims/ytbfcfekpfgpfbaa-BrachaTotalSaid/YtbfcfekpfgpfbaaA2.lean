/- A message comes. The walk. No condition. -/
import Derived.Test.YtbfcfekpfgpfbaaA1
namespace Go.Proofs.Ytbfcfekpfgpfbaa
open Go.RowKit
set_option linter.unusedVariables false
set_option linter.unusedSimpArgs false
set_option maxRecDepth 100000

theorem own_same {α : Type} {f : α → List Value} {sz : Nat} {v : Value} {xs : List α} {i : Nat} {x y : α} (hx : xs[i]? = some x) (h : f y = f x) : Hp.own f sz v (xs.set i y) = Hp.own f sz v xs := by
  have hl : (xs.set i y).length = xs.length := List.length_set
  funext hh
  apply propext
  have hrow : ∀ (off cap : Nat) (o : Obj), isRow f sz off cap (xs.set i y) o ↔ isRow f sz off cap xs o := fun off cap o => by
    unfold isRow
    refine and_congr Iff.rfl ⟨fun h1 j z hz q u hu => ?_, fun h1 j z hz q u hu => ?_⟩
    · by_cases c : i = j
      · subst c; cases hx.symm.trans hz
        exact h1 i y (List.getElem?_set_self (List.getElem?_eq_some_iff.1 hx).1) q u (by rw [h]; exact hu)
      · exact h1 j z (by rw [List.getElem?_set_ne c]; exact hz) q u hu
    · by_cases c : i = j
      · subst c
        rw [List.getElem?_set_self (List.getElem?_eq_some_iff.1 hx).1] at hz; cases hz
        exact h1 i x hx q u (by rw [← h]; exact hu)
      · exact h1 j z (by rw [List.getElem?_set_ne c] at hz; exact hz) q u hu
  have hnil : xs.set i y = [] ↔ xs = [] := by rw [← List.length_eq_zero_iff, hl, List.length_eq_zero_iff]
  constructor
  · rintro (⟨e1, e2, e3⟩ | ⟨g, off, cap, e1, e2, o, e3, e4⟩)
    · exact .inl ⟨e1, hnil.1 e2, e3⟩
    · exact .inr ⟨g, off, cap, by rw [e1, hl], by rw [← hl]; exact e2, o, (hrow off cap o).1 e3, e4⟩
  · rintro (⟨e1, e2, e3⟩ | ⟨g, off, cap, e1, e2, o, e3, e4⟩)
    · exact .inl ⟨e1, hnil.2 e2, e3⟩
    · exact .inr ⟨g, off, cap, by rw [e1, hl], by rw [hl]; exact e2, o, (hrow off cap o).2 e3, e4⟩
theorem come_skip {c : Cf} {s : BS} {at_ : Nat} {m : Mg} {p : Pr} (hm : s.all[at_]? = some m) (hp : s.ps[m.to]? = some p) (h : getM p.hl (smN m.frm, smN m.what) ≠ none ∨ liesB c.L m.to = true) : comeB c s at_ = ⟨s.all.set at_ { m with come := true }, s.ps, s.st⟩ := by
  unfold comeB cameB; rw [hm]; dsimp only; rw [hp]; dsimp only; rw [if_pos h]
theorem come_got {c : Cf} {s : BS} {at_ : Nat} {m : Mg} {p : Pr} (hm : s.all[at_]? = some m) (hp : s.ps[m.to]? = some p) (h1 : getM p.hl (smN m.frm, smN m.what) = none) (h2 : liesB c.L m.to = false) {q : Pr} {k : Nat} (hg : gotB c p m = (q, k)) :
    comeB c s at_ = if k = 0 then ⟨s.all.set at_ { m with come := true }, s.ps.set m.to q, s.st⟩ else sendB ⟨s.all.set at_ { m with come := true }, s.ps.set m.to q, s.st⟩ m.to k m.n := by
  unfold comeB cameB; rw [hm]; dsimp only; rw [hp]; dsimp only; rw [if_neg (by rw [h1, h2]; simp), hg]
section
variable {c : Cf} {p q : Pr} {m : Mg}
def Qeq (p q : Pr) (m : Mg) : Prop := q = ⟨putM p.hl (smN m.frm, smN m.what) m.n, p.ec, p.rd, p.has, p.val⟩
theorem got_1t (hq : Qeq p q m) (h1 : m.what = 1) (h2 : m.frm = c.snd) (h3 : q.ec = false) : gotB c p m = (⟨q.hl, true, q.rd, q.has, q.val⟩, 2) := by
  unfold Qeq at hq; subst hq; unfold gotB; rw [if_pos h1, if_pos ⟨h2, h3⟩]
theorem got_1f (hq : Qeq p q m) (h1 : m.what = 1) (h2 : ¬ (m.frm = c.snd ∧ q.ec = false)) : gotB c p m = (q, 0) := by
  unfold Qeq at hq; subst hq; unfold gotB; rw [if_pos h1, if_neg h2]
theorem got_2t (hq : Qeq p q m) (h1 : ¬ m.what = 1) (h2 : ¬ m.what = 3) (h3 : c.n + c.f < 2 * manyB q.hl m.what m.n) (h4 : q.rd = false) : gotB c p m = (⟨q.hl, q.ec, true, q.has, q.val⟩, 3) := by
  unfold Qeq at hq; subst hq; unfold gotB; rw [if_neg h1, if_neg h2, if_pos ⟨h3, h4⟩]
theorem got_2f (hq : Qeq p q m) (h1 : ¬ m.what = 1) (h2 : ¬ m.what = 3) (h3 : ¬ (c.n + c.f < 2 * manyB q.hl m.what m.n ∧ q.rd = false)) : gotB c p m = (q, 0) := by
  unfold Qeq at hq; subst hq; unfold gotB; rw [if_neg h1, if_neg h2, if_neg h3]
theorem got_3tt (hq : Qeq p q m) (h2 : m.what = 3) (h3 : c.f + 1 ≤ manyB q.hl m.what m.n) (h4 : q.rd = false) (h5 : 2 * c.f + 1 ≤ manyB q.hl m.what m.n) (h6 : q.has = false) : gotB c p m = (⟨q.hl, q.ec, true, true, m.n⟩, 3) := by
  unfold Qeq at hq; subst hq; unfold gotB; rw [if_neg (by omega), if_pos h2, if_pos ⟨h3, h4⟩, if_pos ⟨h5, h6⟩]
theorem got_3tf (hq : Qeq p q m) (h2 : m.what = 3) (h3 : c.f + 1 ≤ manyB q.hl m.what m.n) (h4 : q.rd = false) (h5 : ¬ (2 * c.f + 1 ≤ manyB q.hl m.what m.n ∧ q.has = false)) : gotB c p m = (⟨q.hl, q.ec, true, q.has, q.val⟩, 3) := by
  unfold Qeq at hq; subst hq; unfold gotB; rw [if_neg (by omega), if_pos h2, if_pos ⟨h3, h4⟩, if_neg h5]
theorem got_3ft (hq : Qeq p q m) (h2 : m.what = 3) (h3 : ¬ (c.f + 1 ≤ manyB q.hl m.what m.n ∧ q.rd = false)) (h5 : 2 * c.f + 1 ≤ manyB q.hl m.what m.n) (h6 : q.has = false) : gotB c p m = (⟨q.hl, q.ec, q.rd, true, m.n⟩, 0) := by
  unfold Qeq at hq; subst hq; unfold gotB; rw [if_neg (by omega), if_pos h2, if_neg h3, if_pos ⟨h5, h6⟩]
theorem got_3ff (hq : Qeq p q m) (h2 : m.what = 3) (h3 : ¬ (c.f + 1 ≤ manyB q.hl m.what m.n ∧ q.rd = false)) (h5 : ¬ (2 * c.f + 1 ≤ manyB q.hl m.what m.n ∧ q.has = false)) : gotB c p m = (q, 0) := by
  unfold Qeq at hq; subst hq; unfold gotB; rw [if_neg (by omega), if_pos h2, if_neg h3, if_neg h5]
end
theorem manyB_le (hl : Hl) (w : Nat) (x : Int) : manyB hl w x ≤ hl.length := List.length_filter_le ..
theorem row_of {pms : List Pm} {l : List Pr} {i : Nat} {m : Pm} (h : pms.map Pm.p = l) (hm : pms[i]? = some m) : l[i]? = some m.p := by rw [← h, List.getElem?_map, hm]; rfl
theorem come_any {W w : World} {S at_ : Nat} {c : Cf} {s : BS} {m : Mg} {R : Hp} (hm : s.all[at_]? = some m) (hto : m.to < s.ps.length) (hfr : m.frm < 7) (hwh : m.what ≤ 3) (hn : s.ps.length ≤ 7) (hal : s.all.length ≤ 100000) (hL : c.L < 4294967296) (hcn : c.n ≤ 7) (hcf : c.f ≤ 7) (hhl : ∀ p ∈ s.ps, p.hl.length ≤ 1000) (H : Sat W w (worldH S c s * R)) :
    Calls Try.prog 19 #[ptr S 0, .int .i64 ((at_ : Nat) : Int)] w (Ret W fun v l => v = .tuple #[] ∧ sep l = worldH S c (comeB c s at_) * R) := by
  have hatl := (List.getElem?_eq_some_iff.1 hm).1
  obtain ⟨av, pv, pms, hmap, H⟩ := worldH.open_ H
  have hpl : pms.length = s.ps.length := by rw [← hmap, List.length_map]
  have hav : IsS av := isS_own (H.at_ (k := 1) rfl)
  refine Gx.enter (l := [Hp.rec_ S [.int .i64 ((c.n : Nat) : Int), .int .i64 ((c.f : Nat) : Int), .int .u32 ((c.L : Nat) : Int), .int .i64 ((c.snd : Nat) : Int), av, pv, .bool s.st], Hp.own FG 5 av s.all, Hp.own FR 5 pv pms, Hp.big rowH pms, R]) Try.func19 rfl Try.ntmps19 rfl (H) ?_
  refine Gx.know (m' := [(0, ptr S 0), (1, .int .i64 ((at_ : Nat) : Int))]) (.cons rfl (.cons rfl .nil)) ?_
  refine Gx.seq ?_
  refine Gx.region ?_
  refine Gx.val rfl rfl rfl (val_move rfl rfl) ?_
  refine Gx.val rfl rfl rfl (val_nilCheck rfl rfl) ?_
  refine Gx.val rfl rfl rfl (Val.cast (val_fieldAddr rfl Try.underlying42 rfl Try.ty39 rfl rfl) (v' := ptr S 4) rfl) ?_
  refine Gx.val rfl rfl rfl (val_load rfl Try.ty39 rfl rfl (cell_rec (k := 0) rfl rfl)) ?_
  refine Gx.val rfl rfl rfl (val_move rfl rfl) ?_
  refine Gx.val rfl rfl rfl (val_ixa rfl Try.underlying39 Try.ty48 rfl rfl (j := at_) (rfl) (reach_own (k := 1) rfl hm)) ?_
  refine Gx.val rfl rfl rfl (Val.cast (val_fieldAddr rfl Try.underlying48 rfl Try.ty4 rfl rfl) (v' := ptr (sB av) (sO av + at_ * 5 + 4)) rfl) ?_
  refine Gx.eff0 rfl rfl (eff_storeEl (i := 4) (e' := (⟨m.frm, m.to, m.what, m.n, true⟩ : Mg)) rfl Try.ty4 rfl rfl rfl rfl (k := 1) rfl FG_len hm (by decide) (rfl) (l' := [Hp.rec_ S [.int .i64 ((c.n : Nat) : Int), .int .i64 ((c.f : Nat) : Int), .int .u32 ((c.L : Nat) : Int), .int .i64 ((c.snd : Nat) : Int), av, pv, .bool s.st], Hp.own FG 5 av ((s.all).set at_ (⟨m.frm, m.to, m.what, m.n, true⟩ : Mg)), Hp.own FR 5 pv pms, Hp.big rowH pms, R]) rfl) ?_
  rintro _ _ rfl
  refine Gx.done ?_
  refine Gx.thenN ?_
  refine Gx.seq ?_
  refine Gx.region ?_
  refine Gx.val rfl rfl rfl (val_move rfl rfl) ?_
  refine Gx.val rfl rfl rfl (val_nilCheck rfl rfl) ?_
  refine Gx.val rfl rfl rfl (Val.cast (val_fieldAddr rfl Try.underlying42 rfl Try.ty39 rfl rfl) (v' := ptr S 4) rfl) ?_
  refine Gx.val rfl rfl rfl (val_load rfl Try.ty39 rfl rfl (cell_rec (k := 0) rfl rfl)) ?_
  refine Gx.val rfl rfl rfl (val_move rfl rfl) ?_
  refine Gx.val rfl rfl rfl (val_ixa rfl Try.underlying39 Try.ty48 rfl rfl (j := at_) (rfl) (reach_own (k := 1) rfl (List.getElem?_set_self (List.getElem?_eq_some_iff.1 hm).1))) ?_
  refine Gx.val rfl rfl rfl (Val.cast (val_loadA rfl Try.ty48 rfl rfl rfl (cells_own (k := 1) rfl (List.getElem?_set_self (List.getElem?_eq_some_iff.1 hm).1))) (v' := .agg #[.int .i64 ((m.frm : Nat) : Int), .int .i64 ((m.to : Nat) : Int), .int .i64 ((m.what : Nat) : Int), .int .i64 m.n, .bool true]) rfl) ?_
  refine Gx.eff rfl rfl rfl (eff_alloc rfl Try.ty48 (vs := [.int .i64 0, .int .i64 0, .int .i64 0, .int .i64 0, .bool false]) rfl) ?_
  rintro _ _ ⟨b1, rfl, rfl⟩
  refine Gx.eff0 rfl rfl (eff_store rfl Try.ty48 rfl rfl (us := [.int .i64 ((m.frm : Nat) : Int), .int .i64 ((m.to : Nat) : Int), .int .i64 ((m.what : Nat) : Int), .int .i64 m.n, .bool true]) rfl rfl rfl (k := 0) rfl (rfl) (vs' := [.int .i64 ((m.frm : Nat) : Int), .int .i64 ((m.to : Nat) : Int), .int .i64 ((m.what : Nat) : Int), .int .i64 m.n, .bool true]) (rfl) (l' := [Hp.rec_ b1 [.int .i64 ((m.frm : Nat) : Int), .int .i64 ((m.to : Nat) : Int), .int .i64 ((m.what : Nat) : Int), .int .i64 m.n, .bool true], Hp.rec_ S [.int .i64 ((c.n : Nat) : Int), .int .i64 ((c.f : Nat) : Int), .int .u32 ((c.L : Nat) : Int), .int .i64 ((c.snd : Nat) : Int), av, pv, .bool s.st], Hp.own FG 5 av ((s.all).set at_ (⟨m.frm, m.to, m.what, m.n, true⟩ : Mg)), Hp.own FR 5 pv pms, Hp.big rowH pms, R]) rfl) ?_
  rintro _ _ rfl
  refine Gx.done ?_
  refine Gx.thenN ?_
  refine Gx.seq ?_
  obtain ⟨pm, hpm⟩ := get_of_lt (xs := pms) (k := m.to) (by omega)
  have hrow := row_of hmap hpm
  have hhl9 := hhl pm.p (List.mem_of_getElem? hrow)
  have eK1 : (smN m.frm).val = m.frm := smN_val (by omega)
  have eK2 : (smN m.what).val = m.what := smN_val (by omega)
  refine Gx.regionQ Try.mixed (by kernel_rfl) ?_
  refine Gq.val rfl rfl rfl (val_move rfl rfl) ?_
  refine Gq.val rfl rfl rfl (val_nilCheck rfl rfl) ?_
  refine Gq.val rfl rfl rfl (Val.cast (val_fieldAddr rfl Try.underlying42 rfl Try.ty40 rfl rfl) (v' := ptr S 5) rfl) ?_
  refine Gq.val rfl rfl rfl (val_load rfl Try.ty40 rfl rfl (cell_rec (k := 1) rfl rfl)) ?_
  refine Gq.val rfl rfl rfl (Val.cast (val_fieldAddr rfl Try.underlying48 rfl Try.ty3 rfl rfl) (v' := ptr b1 1) rfl) ?_
  refine Gq.val rfl rfl rfl (val_load rfl Try.ty3 rfl rfl (cell_rec (k := 0) rfl rfl)) ?_
  refine Gq.val rfl rfl rfl (val_ixa rfl Try.underlying40 Try.ty45 rfl rfl (j := m.to) (rfl) (reach_own (k := 3) rfl hpm)) ?_
  refine Gq.val rfl rfl rfl (val_assign rfl rfl) ?_
  refine Gq.done ?_
  refine Gx.thenN ?_
  refine Gx.seq ?_
  refine Gx.region ?_
  refine Gx.val rfl rfl rfl (Val.cast (val_fieldAddr rfl Try.underlying48 rfl Try.ty3 rfl rfl) (v' := ptr b1 0) rfl) ?_
  refine Gx.val rfl rfl rfl (val_load rfl Try.ty3 rfl rfl (cell_rec (k := 0) rfl rfl)) ?_
  refine Gx.val rfl rfl rfl (Val.cast (val_fieldAddr rfl Try.underlying48 rfl Try.ty3 rfl rfl) (v' := ptr b1 2) rfl) ?_
  refine Gx.val rfl rfl rfl (val_load rfl Try.ty3 rfl rfl (cell_rec (k := 0) rfl rfl)) ?_
  refine Gx.val rfl rfl rfl (val_build rfl (qs := [(0, .int .i64 ((m.frm : Nat) : Int)), (1, .int .i64 ((m.what : Nat) : Int))]) rfl rfl (fun w => by go_simp) (v := .agg #[.int .i64 ((m.frm : Nat) : Int), .int .i64 ((m.what : Nat) : Int)])) ?_
  refine Gx.eff rfl rfl rfl (eff_alloc rfl Try.ty60 (vs := [.int .i64 0, .int .i64 0]) rfl) ?_
  rintro _ _ ⟨b2, rfl, rfl⟩
  refine Gx.eff0 rfl rfl (eff_store rfl Try.ty60 rfl rfl (us := [.int .i64 ((m.frm : Nat) : Int), .int .i64 ((m.what : Nat) : Int)]) rfl rfl rfl (k := 0) rfl (rfl) (vs' := [.int .i64 ((m.frm : Nat) : Int), .int .i64 ((m.what : Nat) : Int)]) (rfl) (l' := [Hp.rec_ b2 [.int .i64 ((m.frm : Nat) : Int), .int .i64 ((m.what : Nat) : Int)], Hp.rec_ b1 [.int .i64 ((m.frm : Nat) : Int), .int .i64 ((m.to : Nat) : Int), .int .i64 ((m.what : Nat) : Int), .int .i64 m.n, .bool true], Hp.rec_ S [.int .i64 ((c.n : Nat) : Int), .int .i64 ((c.f : Nat) : Int), .int .u32 ((c.L : Nat) : Int), .int .i64 ((c.snd : Nat) : Int), av, pv, .bool s.st], Hp.own FG 5 av ((s.all).set at_ (⟨m.frm, m.to, m.what, m.n, true⟩ : Mg)), Hp.own FR 5 pv pms, Hp.big rowH pms, R]) rfl) ?_
  rintro _ _ rfl
  refine Gx.done ?_
  refine Gx.thenN ?_
  refine Gx.seq ?_
  refine Gx.seq ?_
  refine Gx.focus (n := 5) (k := m.to) rfl hpm (fun R3 hf4 hg5 => ?_)
  refine Gx.norm (l' := [Hp.rec_ b2 [.int .i64 ((m.frm : Nat) : Int), .int .i64 ((m.what : Nat) : Int)], Hp.rec_ b1 [.int .i64 ((m.frm : Nat) : Int), .int .i64 ((m.to : Nat) : Int), .int .i64 ((m.what : Nat) : Int), .int .i64 m.n, .bool true], Hp.rec_ S [.int .i64 ((c.n : Nat) : Int), .int .i64 ((c.f : Nat) : Int), .int .u32 ((c.L : Nat) : Int), .int .i64 ((c.snd : Nat) : Int), av, pv, .bool s.st], Hp.own FG 5 av ((s.all).set at_ (⟨m.frm, m.to, m.what, m.n, true⟩ : Mg)), Hp.own FR 5 pv pms, Hp.map Try.prog 60 pairL vI pm.mb pm.p.hl, R, R3]) rfl ?_
  refine Gx.norm (l' := [Hp.rec_ b2 [.int .i64 (((smN m.frm).val : Nat) : Int), .int .i64 (((smN m.what).val : Nat) : Int)], Hp.rec_ b1 [.int .i64 ((m.frm : Nat) : Int), .int .i64 ((m.to : Nat) : Int), .int .i64 ((m.what : Nat) : Int), .int .i64 m.n, .bool true], Hp.rec_ S [.int .i64 ((c.n : Nat) : Int), .int .i64 ((c.f : Nat) : Int), .int .u32 ((c.L : Nat) : Int), .int .i64 ((c.snd : Nat) : Int), av, pv, .bool s.st], Hp.own FG 5 av ((s.all).set at_ (⟨m.frm, m.to, m.what, m.n, true⟩ : Mg)), Hp.own FR 5 pv pms, Hp.map Try.prog 60 pairL vI pm.mb pm.p.hl, R, R3]) (by rw [eK1, eK2] <;> rfl) ?_
  rcases hgm : getM pm.p.hl (smN m.frm, smN m.what) with _ | y9
  · refine Gx.regionQ Try.mixed (by kernel_rfl) ?_
    refine Gq.val rfl rfl rfl (val_move rfl rfl) ?_
    refine Gq.val rfl rfl rfl (val_nilCheck rfl rfl) ?_
    refine Gq.val rfl rfl rfl (Val.cast (val_fieldAddr rfl Try.underlying45 rfl Try.ty43 rfl rfl) (v' := ptr (sB pv) (sO pv + m.to * 5)) rfl) ?_
    refine Gq.val rfl rfl rfl (val_load rfl Try.ty43 rfl rfl (cell_own (i := 0) (k := 4) rfl hpm rfl)) ?_
    refine Gq.val rfl rfl rfl (Val.cast (val_loadA rfl Try.ty60 rfl rfl rfl (cells_rec (k := 0) rfl)) (v' := .agg #[.int .i64 (((smN m.frm).val : Nat) : Int), .int .i64 (((smN m.what).val : Nat) : Int)]) rfl) ?_
    refine Gq.val rfl rfl rfl (val_lookupN rfl Try.underlying43 Try.kP Try.ty2 rfl rfl (i := (smN m.frm, smN m.what)) (trivial) (k := 5) rfl (hgm)) ?_
    refine Gq.val rfl rfl rfl (val_move rfl rfl) ?_
    refine Gq.val rfl rfl rfl (val_extract rfl rfl rfl) ?_
    refine Gq.val rfl rfl rfl (val_extract rfl rfl rfl) ?_
    refine Gq.val rfl rfl rfl (val_assign rfl rfl) ?_
    refine Gq.val rfl rfl rfl (val_assign rfl rfl) ?_
    refine Gq.done ?_
    refine Gx.thenN ?_
    refine Gx.seq ?_
    refine Gx.region ?_
    refine Gx.val rfl rfl rfl (val_move rfl rfl) ?_
    refine Gx.val rfl rfl rfl (val_move rfl rfl) ?_
    refine Gx.valg rfl rfl rfl rfl rfl (val_move rfl rfl) ?_
    refine Gx.valg rfl rfl rfl rfl rfl (Val.cast (val_fieldAddr rfl Try.underlying48 rfl Try.ty3 rfl rfl) (v' := ptr b1 1) rfl) ?_
    refine Gx.valg rfl rfl rfl rfl rfl (val_load rfl Try.ty3 rfl rfl (cell_rec (k := 1) rfl rfl)) ?_
    refine Gx.valg rfl rfl rfl rfl rfl (val_call (vs := [ptr S 0, .int .i64 ((m.to : Nat) : Int)]) rfl Try.fn16 rfl (fun w H => lies_any (i := m.to) ((H.at_ (k := 2) rfl).rec_.1) ((H.at_ (k := 2) rfl).cell 2 rfl) hL (by omega))) ?_
    refine Gx.val rfl rfl rfl (val_pickF rfl rfl rfl) ?_
    refine Gx.done ?_
    refine Gx.thenN ?_
    refine Gx.bool rfl (fun h6 => ?_) (fun h6 => ?_)
    · refine Gx.ret ?_
      refine Gx.thenR ?_
      refine Gx.front 7 rfl ?_
      refine Gx.front 6 rfl ?_
      refine Gx.sepEq (l' := [Hp.big rowH pms, Hp.rec_ b2 [.int .i64 (((smN m.frm).val : Nat) : Int), .int .i64 (((smN m.what).val : Nat) : Int)], Hp.rec_ b1 [.int .i64 ((m.frm : Nat) : Int), .int .i64 ((m.to : Nat) : Int), .int .i64 ((m.what : Nat) : Int), .int .i64 m.n, .bool true], Hp.rec_ S [.int .i64 ((c.n : Nat) : Int), .int .i64 ((c.f : Nat) : Int), .int .u32 ((c.L : Nat) : Int), .int .i64 ((c.snd : Nat) : Int), av, pv, .bool s.st], Hp.own FG 5 av ((s.all).set at_ (⟨m.frm, m.to, m.what, m.n, true⟩ : Mg)), Hp.own FR 5 pv pms, R]) (by show Hp.map Try.prog 60 pairL vI pm.mb pm.p.hl * (R3 * _) = Hp.big rowH pms * _; rw [hf4]; show _ = (Hp.map Try.prog 60 pairL vI pm.mb pm.p.hl * R3) * _; simp only [Hp.mul_assoc] <;> rfl) ?_
      refine Gx.front 0 rfl ?_
      refine Gx.front 5 rfl ?_
      refine Gx.front 5 rfl ?_
      refine Gx.front 5 rfl ?_
      refine Gx.sat (l' := [worldH S c (⟨(s.all.set at_ ⟨m.frm, m.to, m.what, m.n, true⟩), s.ps, s.st⟩ : BS), Hp.rec_ b2 [.int .i64 (((smN m.frm).val : Nat) : Int), .int .i64 (((smN m.what).val : Nat) : Int)], Hp.rec_ b1 [.int .i64 ((m.frm : Nat) : Int), .int .i64 ((m.to : Nat) : Int), .int .i64 ((m.what : Nat) : Int), .int .i64 m.n, .bool true], R]) (fun w H => (worldH.shut (S := S) (c := c) (s := (⟨(s.all.set at_ ⟨m.frm, m.to, m.what, m.n, true⟩), s.ps, s.st⟩ : BS)) (pms := pms) (R := sep [Hp.rec_ b2 [.int .i64 (((smN m.frm).val : Nat) : Int), .int .i64 (((smN m.what).val : Nat) : Int)], Hp.rec_ b1 [.int .i64 ((m.frm : Nat) : Int), .int .i64 ((m.to : Nat) : Int), .int .i64 ((m.what : Nat) : Int), .int .i64 m.n, .bool true], R]) (hmap) (H.cast (by rw [sep4R] <;> rfl))).cast (by rw [sep1] <;> rfl)) ?_
      refine Gx.drop 2 rfl ?_
      refine Gx.drop 1 rfl ?_
      refine Gx.norm (l' := [worldH S c (⟨(s.all.set at_ ⟨m.frm, m.to, m.what, m.n, true⟩), s.ps, s.st⟩ : BS), R]) rfl ?_
      refine Gx.ret0 Try.results19 ?_
      exact ⟨rfl, by rw [come_skip hm hrow (.inr h6)]; exact sep1 _ _⟩
    · refine Gx.skip ?_
      refine Gx.thenN ?_
      refine Gx.seq ?_
      refine Gx.regionO (fun j => false) 7 [0, 1, 2, 3, 4, 5, 6] (fun _ => [Hp.rec_ b2 [.int .i64 (((smN m.frm).val : Nat) : Int), .int .i64 (((smN m.what).val : Nat) : Int)], Hp.rec_ b1 [.int .i64 ((m.frm : Nat) : Int), .int .i64 ((m.to : Nat) : Int), .int .i64 ((m.what : Nat) : Int), .int .i64 m.n, .bool true], Hp.rec_ S [.int .i64 ((c.n : Nat) : Int), .int .i64 ((c.f : Nat) : Int), .int .u32 ((c.L : Nat) : Int), .int .i64 ((c.snd : Nat) : Int), av, pv, .bool s.st], Hp.own FG 5 av ((s.all).set at_ (⟨m.frm, m.to, m.what, m.n, true⟩ : Mg)), Hp.own FR 5 pv pms, Hp.map Try.prog 60 pairL vI pm.mb pm.p.hl, R, R3]) Try.mixed (by kernel_rfl) rfl ?_
      refine Gw.val rfl rfl rfl rfl rfl (fun us => val_move rfl rfl) ?_
      refine Gw.val rfl rfl rfl rfl rfl (fun us => val_nilCheck rfl rfl) ?_
      refine Gw.val rfl rfl rfl rfl rfl (fun us => Val.cast (val_fieldAddr rfl Try.underlying45 rfl Try.ty43 rfl rfl) (v' := ptr (sB pv) (sO pv + m.to * 5)) rfl) ?_
      refine Gw.val0 rfl rfl rfl (by kernel_rfl) rfl rfl (val_load rfl Try.ty43 rfl rfl (cell_own (i := 0) (k := 4) rfl hpm rfl)) ?_
      refine Gw.val0 rfl rfl rfl (by kernel_rfl) rfl rfl (Val.cast (val_loadA rfl Try.ty60 rfl rfl rfl (cells_rec (k := 0) rfl)) (v' := .agg #[.int .i64 (((smN m.frm).val : Nat) : Int), .int .i64 (((smN m.what).val : Nat) : Int)]) rfl) ?_
      refine Gw.val rfl rfl rfl rfl rfl (fun us => Val.cast (val_fieldAddr rfl Try.underlying48 rfl Try.ty2 rfl rfl) (v' := ptr b1 3) rfl) ?_
      refine Gw.val0 rfl rfl rfl (by kernel_rfl) rfl rfl (val_load rfl Try.ty2 rfl rfl (cell_rec (k := 1) rfl rfl)) ?_
      refine Gw.done ?_
      refine Gx.norm (l' := [Hp.rec_ b2 [.int .i64 (((smN m.frm).val : Nat) : Int), .int .i64 (((smN m.what).val : Nat) : Int)], Hp.rec_ b1 [.int .i64 ((m.frm : Nat) : Int), .int .i64 ((m.to : Nat) : Int), .int .i64 ((m.what : Nat) : Int), .int .i64 m.n, .bool true], Hp.rec_ S [.int .i64 ((c.n : Nat) : Int), .int .i64 ((c.f : Nat) : Int), .int .u32 ((c.L : Nat) : Int), .int .i64 ((c.snd : Nat) : Int), av, pv, .bool s.st], Hp.own FG 5 av ((s.all).set at_ (⟨m.frm, m.to, m.what, m.n, true⟩ : Mg)), Hp.own FR 5 pv pms, Hp.map Try.prog 60 pairL vI pm.mb pm.p.hl, R, R3]) rfl ?_
      refine Gx.eff0 rfl rfl (eff_mapUpdate (vf := vI) rfl Try.underlying43 Try.kP pairK rfl rfl rfl (i := (smN m.frm, smN m.what)) (r := m.n) (trivial) (k := 5) rfl (by unfold maxLen; omega) (l' := [Hp.rec_ b2 [.int .i64 (((smN m.frm).val : Nat) : Int), .int .i64 (((smN m.what).val : Nat) : Int)], Hp.rec_ b1 [.int .i64 ((m.frm : Nat) : Int), .int .i64 ((m.to : Nat) : Int), .int .i64 ((m.what : Nat) : Int), .int .i64 m.n, .bool true], Hp.rec_ S [.int .i64 ((c.n : Nat) : Int), .int .i64 ((c.f : Nat) : Int), .int .u32 ((c.L : Nat) : Int), .int .i64 ((c.snd : Nat) : Int), av, pv, .bool s.st], Hp.own FG 5 av ((s.all).set at_ (⟨m.frm, m.to, m.what, m.n, true⟩ : Mg)), Hp.own FR 5 pv pms, Hp.map Try.prog 60 pairL vI pm.mb (putM pm.p.hl (smN m.frm, smN m.what) m.n), R, R3]) rfl) ?_
      rintro _ _ rfl
      refine Gx.done ?_
      refine Gx.thenN ?_
      refine Gx.seq ?_
      obtain ⟨pm1, hpm1e⟩ : ∃ q : Pm, q = ⟨pm.mb, ⟨(putM pm.p.hl (smN m.frm, smN m.what) m.n), pm.p.ec, pm.p.rd, pm.p.has, pm.p.val⟩⟩ := ⟨_, rfl⟩
      obtain ⟨pms1, hp1⟩ : ∃ q, q = pms.set m.to pm1 := ⟨_, rfl⟩
      have hpm1 : pms1[m.to]? = some pm1 := by rw [hp1]; exact List.getElem?_set_self (List.getElem?_eq_some_iff.1 hpm).1
      have hpl1 : pms1.length = pms.length := by rw [hp1, List.length_set]
      have hhl1 : pm1.p.hl.length ≤ 1001 := by rw [hpm1e]; dsimp only; rw [putM_length]; split <;> omega
      have hmb := manyB_le pm1.p.hl m.what m.n
      have hpe1 : pm1.p.ec = pm.p.ec := by rw [hpm1e]
      have hpe2 : pm1.p.rd = pm.p.rd := by rw [hpm1e]
      have hpe3 : pm1.p.has = pm.p.has := by rw [hpm1e]
      refine Gx.norm (l' := [Hp.rec_ b2 [.int .i64 (((smN m.frm).val : Nat) : Int), .int .i64 (((smN m.what).val : Nat) : Int)], Hp.rec_ b1 [.int .i64 ((m.frm : Nat) : Int), .int .i64 ((m.to : Nat) : Int), .int .i64 ((m.what : Nat) : Int), .int .i64 m.n, .bool true], Hp.rec_ S [.int .i64 ((c.n : Nat) : Int), .int .i64 ((c.f : Nat) : Int), .int .u32 ((c.L : Nat) : Int), .int .i64 ((c.snd : Nat) : Int), av, pv, .bool s.st], Hp.own FG 5 av ((s.all).set at_ (⟨m.frm, m.to, m.what, m.n, true⟩ : Mg)), Hp.own FR 5 pv pms1, Hp.map Try.prog 60 pairL vI pm1.mb pm1.p.hl, R, R3]) (by rw [hp1, hpm1e, own_same (f := FR) (y := ⟨pm.mb, ⟨(putM pm.p.hl (smN m.frm, smN m.what) m.n), pm.p.ec, pm.p.rd, pm.p.has, pm.p.val⟩⟩) hpm rfl] <;> rfl) ?_
      refine Gx.region ?_
      refine Gx.val rfl rfl rfl (val_move rfl rfl) ?_
      refine Gx.val rfl rfl rfl (Val.cast (val_fieldAddr rfl Try.underlying48 rfl Try.ty3 rfl rfl) (v' := ptr b1 2) rfl) ?_
      refine Gx.val rfl rfl rfl (val_load rfl Try.ty3 rfl rfl (cell_rec (k := 1) rfl rfl)) ?_
      refine Gx.val rfl rfl rfl (Val.cast (val_fieldAddr rfl Try.underlying48 rfl Try.ty2 rfl rfl) (v' := ptr b1 3) rfl) ?_
      refine Gx.val rfl rfl rfl (val_load rfl Try.ty2 rfl rfl (cell_rec (k := 1) rfl rfl)) ?_
      refine Gx.eff rfl rfl rfl (eff_call (vs := [ptr (sB pv) (sO pv + m.to * 5), .int .i64 ((m.what : Nat) : Int), .int .i64 m.n]) rfl Try.fn21 rfl (fun w H => many_any (what := m.what) (x := m.n) hpm1 (by omega) (H.at2 (k := 4) (k' := 4) rfl rfl))) ?_
      rintro _ l7 ⟨rfl, hl7⟩
      refine Gx.sepEq (l' := [Hp.own FR 5 pv pms1, Hp.map Try.prog 60 pairL vI pm1.mb pm1.p.hl, Hp.rec_ b2 [.int .i64 (((smN m.frm).val : Nat) : Int), .int .i64 (((smN m.what).val : Nat) : Int)], Hp.rec_ b1 [.int .i64 ((m.frm : Nat) : Int), .int .i64 ((m.to : Nat) : Int), .int .i64 ((m.what : Nat) : Int), .int .i64 m.n, .bool true], Hp.rec_ S [.int .i64 ((c.n : Nat) : Int), .int .i64 ((c.f : Nat) : Int), .int .u32 ((c.L : Nat) : Int), .int .i64 ((c.snd : Nat) : Int), av, pv, .bool s.st], Hp.own FG 5 av ((s.all).set at_ (⟨m.frm, m.to, m.what, m.n, true⟩ : Mg)), R, R3]) hl7 ?_
      refine Gx.val rfl rfl rfl (val_assign rfl rfl) ?_
      refine Gx.done ?_
      refine Gx.thenN ?_
      refine Gx.seq ?_
      refine Gx.seq ?_
      refine Gx.region ?_
      refine Gx.val rfl rfl rfl (Val.cast (val_fieldAddr rfl Try.underlying48 rfl Try.ty3 rfl rfl) (v' := ptr b1 2) rfl) ?_
      refine Gx.val rfl rfl rfl (val_load rfl Try.ty3 rfl rfl (cell_rec (k := 3) rfl rfl)) ?_
      refine Gx.val rfl rfl rfl (val_eql rfl rfl rfl) ?_
      refine Gx.done ?_
      refine Gx.thenN ?_
      refine Gx.dec rfl (fun h8 => ?_) (fun h8 => ?_)
      · refine Gx.seq ?_
        refine Gx.seq ?_
        refine Gx.regionQ Try.mixed (by kernel_rfl) ?_
        refine Gq.val rfl rfl rfl (Val.cast (val_fieldAddr rfl Try.underlying48 rfl Try.ty3 rfl rfl) (v' := ptr b1 0) rfl) ?_
        refine Gq.val rfl rfl rfl (val_load rfl Try.ty3 rfl rfl (cell_rec (k := 3) rfl rfl)) ?_
        refine Gq.val rfl rfl rfl (val_move rfl rfl) ?_
        refine Gq.val rfl rfl rfl (val_nilCheck rfl rfl) ?_
        refine Gq.val rfl rfl rfl (Val.cast (val_fieldAddr rfl Try.underlying42 rfl Try.ty3 rfl rfl) (v' := ptr S 3) rfl) ?_
        refine Gq.val rfl rfl rfl (val_load rfl Try.ty3 rfl rfl (cell_rec (k := 4) rfl rfl)) ?_
        refine Gq.val rfl rfl rfl (val_eql rfl rfl rfl) ?_
        refine Gq.val rfl rfl rfl (val_move rfl rfl) ?_
        refine Gq.cases (t := 76) rfl (fun h9 => ?_) (fun h9 => ?_)
        · refine Gq.valg rfl rfl rfl rfl rfl (val_move rfl rfl) ?_
          refine Gq.valg rfl rfl rfl rfl rfl (val_nilCheck rfl rfl) ?_
          refine Gq.valg rfl rfl rfl rfl rfl (Val.cast (val_fieldAddr rfl Try.underlying45 rfl Try.ty4 rfl rfl) (v' := ptr (sB pv) (sO pv + m.to * 5 + 1)) rfl) ?_
          refine Gq.valg rfl rfl rfl rfl rfl (val_load rfl Try.ty4 rfl rfl (cell_own (i := 1) (k := 0) rfl hpm1 rfl)) ?_
          refine Gq.valg rfl rfl rfl rfl rfl (val_not rfl rfl) ?_
          refine Gq.val rfl rfl rfl (val_pickT rfl rfl rfl) ?_
          refine Gq.done ?_
          refine Gx.thenN ?_
          refine Gx.bool rfl (fun h10 => ?_) (fun h10 => ?_)
          · refine Gx.seq ?_
            refine Gx.region ?_
            refine Gx.val rfl rfl rfl (val_move rfl rfl) ?_
            refine Gx.val rfl rfl rfl (val_nilCheck rfl rfl) ?_
            refine Gx.val rfl rfl rfl (Val.cast (val_fieldAddr rfl Try.underlying45 rfl Try.ty4 rfl rfl) (v' := ptr (sB pv) (sO pv + m.to * 5 + 1)) rfl) ?_
            refine Gx.eff0 rfl rfl (eff_storeEl (i := 1) (e' := (⟨pm1.mb, ⟨pm1.p.hl, true, pm1.p.rd, pm1.p.has, pm1.p.val⟩⟩ : Pm)) rfl Try.ty4 rfl rfl rfl rfl (k := 0) rfl FR_len hpm1 (by decide) (rfl) (l' := [Hp.own FR 5 pv (pms1.set m.to (⟨pm1.mb, ⟨pm1.p.hl, true, pm1.p.rd, pm1.p.has, pm1.p.val⟩⟩ : Pm)), Hp.map Try.prog 60 pairL vI pm1.mb pm1.p.hl, Hp.rec_ b2 [.int .i64 (((smN m.frm).val : Nat) : Int), .int .i64 (((smN m.what).val : Nat) : Int)], Hp.rec_ b1 [.int .i64 ((m.frm : Nat) : Int), .int .i64 ((m.to : Nat) : Int), .int .i64 ((m.what : Nat) : Int), .int .i64 m.n, .bool true], Hp.rec_ S [.int .i64 ((c.n : Nat) : Int), .int .i64 ((c.f : Nat) : Int), .int .u32 ((c.L : Nat) : Int), .int .i64 ((c.snd : Nat) : Int), av, pv, .bool s.st], Hp.own FG 5 av ((s.all).set at_ (⟨m.frm, m.to, m.what, m.n, true⟩ : Mg)), R, R3]) rfl) ?_
            rintro _ _ rfl
            refine Gx.done ?_
            refine Gx.thenN ?_
            refine Gx.region ?_
            refine Gx.val rfl rfl rfl (val_move rfl rfl) ?_
            refine Gx.val rfl rfl rfl (Val.cast (val_fieldAddr rfl Try.underlying48 rfl Try.ty3 rfl rfl) (v' := ptr b1 1) rfl) ?_
            refine Gx.val rfl rfl rfl (val_load rfl Try.ty3 rfl rfl (cell_rec (k := 3) rfl rfl)) ?_
            refine Gx.val rfl rfl rfl (Val.cast (val_fieldAddr rfl Try.underlying48 rfl Try.ty2 rfl rfl) (v' := ptr b1 3) rfl) ?_
            refine Gx.val rfl rfl rfl (val_load rfl Try.ty2 rfl rfl (cell_rec (k := 3) rfl rfl)) ?_
            refine Gx.eff rfl rfl rfl (eff_call (vs := [ptr S 0, .int .i64 ((m.to : Nat) : Int), .int .i64 2, .int .i64 m.n]) rfl Try.fn17 rfl (fun w H => send_any (s := ⟨(s.all.set at_ ⟨m.frm, m.to, m.what, m.n, true⟩), s.ps, s.st⟩) (what := 2) (x := m.n) hav (by dsimp only; rw [List.length_set]; exact hal) (by simp only [List.length_set]; omega) (H.at3 (k := 4) (k' := 4) (k'' := 0) rfl rfl rfl))) ?_
            rintro _ l11 ⟨bv, hbv, rfl, hl11⟩
            refine Gx.sepEq (l' := [Hp.rec_ S [.int .i64 ((c.n : Nat) : Int), .int .i64 ((c.f : Nat) : Int), .int .u32 ((c.L : Nat) : Int), .int .i64 ((c.snd : Nat) : Int), bv, pv, .bool s.st], Hp.own FG 5 bv ((s.all.set at_ ⟨m.frm, m.to, m.what, m.n, true⟩) ++ newM m.to 2 m.n (pms1.set m.to (⟨pm1.mb, ⟨pm1.p.hl, true, pm1.p.rd, pm1.p.has, pm1.p.val⟩⟩ : Pm)).length), Hp.own FR 5 pv (pms1.set m.to (⟨pm1.mb, ⟨pm1.p.hl, true, pm1.p.rd, pm1.p.has, pm1.p.val⟩⟩ : Pm)), Hp.map Try.prog 60 pairL vI pm1.mb pm1.p.hl, Hp.rec_ b2 [.int .i64 (((smN m.frm).val : Nat) : Int), .int .i64 (((smN m.what).val : Nat) : Int)], Hp.rec_ b1 [.int .i64 ((m.frm : Nat) : Int), .int .i64 ((m.to : Nat) : Int), .int .i64 ((m.what : Nat) : Int), .int .i64 m.n, .bool true], R, R3]) hl11 ?_
            refine Gx.done ?_
            refine Gx.thenN ?_
            refine Gx.ret ?_
            refine Gx.thenR ?_
            refine Gx.front 7 rfl ?_
            refine Gx.front 4 rfl ?_
            have hfl : (pms1.set m.to (⟨pm1.mb, ⟨pm1.p.hl, true, pm1.p.rd, pm1.p.has, pm1.p.val⟩⟩ : Pm)).length = s.ps.length := by simp only [List.length_set, hpl1, hpl]
            have hfx : pms1.set m.to (⟨pm1.mb, ⟨pm1.p.hl, true, pm1.p.rd, pm1.p.has, pm1.p.val⟩⟩ : Pm) = (pms.set m.to (⟨pm1.mb, ⟨pm1.p.hl, true, pm1.p.rd, pm1.p.has, pm1.p.val⟩⟩ : Pm)) := by simp only [hp1, List.set_set]
            refine Gx.sepEq (l' := [Hp.big rowH (pms.set m.to (⟨pm1.mb, ⟨pm1.p.hl, true, pm1.p.rd, pm1.p.has, pm1.p.val⟩⟩ : Pm)), Hp.rec_ S [.int .i64 ((c.n : Nat) : Int), .int .i64 ((c.f : Nat) : Int), .int .u32 ((c.L : Nat) : Int), .int .i64 ((c.snd : Nat) : Int), bv, pv, .bool s.st], Hp.own FG 5 bv ((s.all.set at_ ⟨m.frm, m.to, m.what, m.n, true⟩) ++ newM m.to 2 m.n (pms1.set m.to (⟨pm1.mb, ⟨pm1.p.hl, true, pm1.p.rd, pm1.p.has, pm1.p.val⟩⟩ : Pm)).length), Hp.own FR 5 pv (pms1.set m.to (⟨pm1.mb, ⟨pm1.p.hl, true, pm1.p.rd, pm1.p.has, pm1.p.val⟩⟩ : Pm)), Hp.rec_ b2 [.int .i64 (((smN m.frm).val : Nat) : Int), .int .i64 (((smN m.what).val : Nat) : Int)], Hp.rec_ b1 [.int .i64 ((m.frm : Nat) : Int), .int .i64 ((m.to : Nat) : Int), .int .i64 ((m.what : Nat) : Int), .int .i64 m.n, .bool true], R]) (by show Hp.map Try.prog 60 pairL vI pm1.mb pm1.p.hl * (R3 * _) = Hp.big rowH (pms.set m.to (⟨pm1.mb, ⟨pm1.p.hl, true, pm1.p.rd, pm1.p.has, pm1.p.val⟩⟩ : Pm)) * _; rw [hg5 (⟨pm1.mb, ⟨pm1.p.hl, true, pm1.p.rd, pm1.p.has, pm1.p.val⟩⟩ : Pm)]; show _ = (Hp.map Try.prog 60 pairL vI pm1.mb pm1.p.hl * R3) * _; simp only [Hp.mul_assoc] <;> rfl) ?_
            refine Gx.norm (l' := [Hp.big rowH (pms.set m.to (⟨pm1.mb, ⟨pm1.p.hl, true, pm1.p.rd, pm1.p.has, pm1.p.val⟩⟩ : Pm)), Hp.rec_ S [.int .i64 ((c.n : Nat) : Int), .int .i64 ((c.f : Nat) : Int), .int .u32 ((c.L : Nat) : Int), .int .i64 ((c.snd : Nat) : Int), bv, pv, .bool s.st], Hp.own FG 5 bv ((s.all.set at_ ⟨m.frm, m.to, m.what, m.n, true⟩) ++ newM m.to 2 m.n s.ps.length), Hp.own FR 5 pv (pms.set m.to (⟨pm1.mb, ⟨pm1.p.hl, true, pm1.p.rd, pm1.p.has, pm1.p.val⟩⟩ : Pm)), Hp.rec_ b2 [.int .i64 (((smN m.frm).val : Nat) : Int), .int .i64 (((smN m.what).val : Nat) : Int)], Hp.rec_ b1 [.int .i64 ((m.frm : Nat) : Int), .int .i64 ((m.to : Nat) : Int), .int .i64 ((m.what : Nat) : Int), .int .i64 m.n, .bool true], R]) (by rw [hfl, hfx] <;> rfl) ?_
            refine Gx.front 0 rfl ?_
            refine Gx.front 3 rfl ?_
            refine Gx.front 3 rfl ?_
            refine Gx.front 3 rfl ?_
            refine Gx.sat (l' := [worldH S c (⟨(s.all.set at_ ⟨m.frm, m.to, m.what, m.n, true⟩) ++ newM m.to 2 m.n s.ps.length, s.ps.set m.to (⟨pm1.mb, ⟨pm1.p.hl, true, pm1.p.rd, pm1.p.has, pm1.p.val⟩⟩ : Pm).p, s.st⟩ : BS), Hp.rec_ b2 [.int .i64 (((smN m.frm).val : Nat) : Int), .int .i64 (((smN m.what).val : Nat) : Int)], Hp.rec_ b1 [.int .i64 ((m.frm : Nat) : Int), .int .i64 ((m.to : Nat) : Int), .int .i64 ((m.what : Nat) : Int), .int .i64 m.n, .bool true], R]) (fun w H => (worldH.shut (S := S) (c := c) (s := (⟨(s.all.set at_ ⟨m.frm, m.to, m.what, m.n, true⟩) ++ newM m.to 2 m.n s.ps.length, s.ps.set m.to (⟨pm1.mb, ⟨pm1.p.hl, true, pm1.p.rd, pm1.p.has, pm1.p.val⟩⟩ : Pm).p, s.st⟩ : BS)) (pms := (pms.set m.to (⟨pm1.mb, ⟨pm1.p.hl, true, pm1.p.rd, pm1.p.has, pm1.p.val⟩⟩ : Pm))) (R := sep [Hp.rec_ b2 [.int .i64 (((smN m.frm).val : Nat) : Int), .int .i64 (((smN m.what).val : Nat) : Int)], Hp.rec_ b1 [.int .i64 ((m.frm : Nat) : Int), .int .i64 ((m.to : Nat) : Int), .int .i64 ((m.what : Nat) : Int), .int .i64 m.n, .bool true], R]) (by rw [List.map_set, hmap]) (H.cast (by rw [sep4R] <;> rfl))).cast (by rw [sep1] <;> rfl)) ?_
            refine Gx.drop 2 rfl ?_
            refine Gx.drop 1 rfl ?_
            refine Gx.norm (l' := [worldH S c (⟨(s.all.set at_ ⟨m.frm, m.to, m.what, m.n, true⟩) ++ newM m.to 2 m.n s.ps.length, s.ps.set m.to (⟨pm1.mb, ⟨pm1.p.hl, true, pm1.p.rd, pm1.p.has, pm1.p.val⟩⟩ : Pm).p, s.st⟩ : BS), R]) rfl ?_
            have hQ : Qeq pm.p pm1.p m := by unfold Qeq; rw [hpm1e]
            have hgot : gotB c pm.p m = ((⟨pm1.mb, ⟨pm1.p.hl, true, pm1.p.rd, pm1.p.has, pm1.p.val⟩⟩ : Pm).p, 2) := got_1t hQ (by omega) (by omega) (by simpa using h10)
            have hlf : liesB c.L m.to = false := by simpa using h6
            refine Gx.ret0 Try.results19 ?_
            exact ⟨rfl, by rw [come_got hm hrow hgm hlf hgot]; rw [if_neg (by decide)]; unfold sendB; simp only [List.length_set]; exact sep1 _ _⟩
          · refine Gx.skip ?_
            refine Gx.thenN ?_
            refine Gx.ret ?_
            refine Gx.thenR ?_
            refine Gx.front 7 rfl ?_
            refine Gx.front 2 rfl ?_
            have hfl : pms1.length = s.ps.length := by simp only [List.length_set, hpl1, hpl]
            have hfx : pms1 = (pms.set m.to pm1) := by simp only [hp1, List.set_set]
            refine Gx.sepEq (l' := [Hp.big rowH (pms.set m.to pm1), Hp.own FR 5 pv pms1, Hp.rec_ b2 [.int .i64 (((smN m.frm).val : Nat) : Int), .int .i64 (((smN m.what).val : Nat) : Int)], Hp.rec_ b1 [.int .i64 ((m.frm : Nat) : Int), .int .i64 ((m.to : Nat) : Int), .int .i64 ((m.what : Nat) : Int), .int .i64 m.n, .bool true], Hp.rec_ S [.int .i64 ((c.n : Nat) : Int), .int .i64 ((c.f : Nat) : Int), .int .u32 ((c.L : Nat) : Int), .int .i64 ((c.snd : Nat) : Int), av, pv, .bool s.st], Hp.own FG 5 av ((s.all).set at_ (⟨m.frm, m.to, m.what, m.n, true⟩ : Mg)), R]) (by show Hp.map Try.prog 60 pairL vI pm1.mb pm1.p.hl * (R3 * _) = Hp.big rowH (pms.set m.to pm1) * _; rw [hg5 pm1]; show _ = (Hp.map Try.prog 60 pairL vI pm1.mb pm1.p.hl * R3) * _; simp only [Hp.mul_assoc] <;> rfl) ?_
            refine Gx.norm (l' := [Hp.big rowH (pms.set m.to pm1), Hp.own FR 5 pv (pms.set m.to pm1), Hp.rec_ b2 [.int .i64 (((smN m.frm).val : Nat) : Int), .int .i64 (((smN m.what).val : Nat) : Int)], Hp.rec_ b1 [.int .i64 ((m.frm : Nat) : Int), .int .i64 ((m.to : Nat) : Int), .int .i64 ((m.what : Nat) : Int), .int .i64 m.n, .bool true], Hp.rec_ S [.int .i64 ((c.n : Nat) : Int), .int .i64 ((c.f : Nat) : Int), .int .u32 ((c.L : Nat) : Int), .int .i64 ((c.snd : Nat) : Int), av, pv, .bool s.st], Hp.own FG 5 av ((s.all).set at_ (⟨m.frm, m.to, m.what, m.n, true⟩ : Mg)), R]) (by rw [hfx] <;> rfl) ?_
            refine Gx.front 0 rfl ?_
            refine Gx.front 1 rfl ?_
            refine Gx.front 5 rfl ?_
            refine Gx.front 5 rfl ?_
            refine Gx.sat (l' := [worldH S c (⟨(s.all.set at_ ⟨m.frm, m.to, m.what, m.n, true⟩), s.ps.set m.to pm1.p, s.st⟩ : BS), Hp.rec_ b2 [.int .i64 (((smN m.frm).val : Nat) : Int), .int .i64 (((smN m.what).val : Nat) : Int)], Hp.rec_ b1 [.int .i64 ((m.frm : Nat) : Int), .int .i64 ((m.to : Nat) : Int), .int .i64 ((m.what : Nat) : Int), .int .i64 m.n, .bool true], R]) (fun w H => (worldH.shut (S := S) (c := c) (s := (⟨(s.all.set at_ ⟨m.frm, m.to, m.what, m.n, true⟩), s.ps.set m.to pm1.p, s.st⟩ : BS)) (pms := (pms.set m.to pm1)) (R := sep [Hp.rec_ b2 [.int .i64 (((smN m.frm).val : Nat) : Int), .int .i64 (((smN m.what).val : Nat) : Int)], Hp.rec_ b1 [.int .i64 ((m.frm : Nat) : Int), .int .i64 ((m.to : Nat) : Int), .int .i64 ((m.what : Nat) : Int), .int .i64 m.n, .bool true], R]) (by rw [List.map_set, hmap]) (H.cast (by rw [sep4R] <;> rfl))).cast (by rw [sep1] <;> rfl)) ?_
            refine Gx.drop 2 rfl ?_
            refine Gx.drop 1 rfl ?_
            refine Gx.norm (l' := [worldH S c (⟨(s.all.set at_ ⟨m.frm, m.to, m.what, m.n, true⟩), s.ps.set m.to pm1.p, s.st⟩ : BS), R]) rfl ?_
            have hQ : Qeq pm.p pm1.p m := by unfold Qeq; rw [hpm1e]
            have hgot : gotB c pm.p m = (pm1.p, 0) := got_1f hQ (by omega) (fun q => by have h7 := q.2; have h8 := h10; rw [h7] at h8; simp at h8)
            have hlf : liesB c.L m.to = false := by simpa using h6
            refine Gx.ret0 Try.results19 ?_
            exact ⟨rfl, by rw [come_got hm hrow hgm hlf hgot]; rw [if_pos rfl]; exact sep1 _ _⟩
        · refine Gq.skipg rfl rfl rfl rfl rfl rfl ?_
          refine Gq.skipg rfl rfl rfl rfl rfl rfl ?_
          refine Gq.skipg rfl rfl rfl rfl rfl rfl ?_
          refine Gq.skipg rfl rfl rfl rfl rfl rfl ?_
          refine Gq.skipg rfl rfl rfl rfl rfl rfl ?_
          refine Gq.val rfl rfl rfl (val_pickF rfl rfl rfl) ?_
          refine Gq.done ?_
          refine Gx.thenN ?_
          refine Gx.f rfl ?_
          refine Gx.skip ?_
          refine Gx.thenN ?_
          refine Gx.ret ?_
          refine Gx.thenR ?_
          refine Gx.front 7 rfl ?_
          refine Gx.front 2 rfl ?_
          have hfl : pms1.length = s.ps.length := by simp only [List.length_set, hpl1, hpl]
          have hfx : pms1 = (pms.set m.to pm1) := by simp only [hp1, List.set_set]
          refine Gx.sepEq (l' := [Hp.big rowH (pms.set m.to pm1), Hp.own FR 5 pv pms1, Hp.rec_ b2 [.int .i64 (((smN m.frm).val : Nat) : Int), .int .i64 (((smN m.what).val : Nat) : Int)], Hp.rec_ b1 [.int .i64 ((m.frm : Nat) : Int), .int .i64 ((m.to : Nat) : Int), .int .i64 ((m.what : Nat) : Int), .int .i64 m.n, .bool true], Hp.rec_ S [.int .i64 ((c.n : Nat) : Int), .int .i64 ((c.f : Nat) : Int), .int .u32 ((c.L : Nat) : Int), .int .i64 ((c.snd : Nat) : Int), av, pv, .bool s.st], Hp.own FG 5 av ((s.all).set at_ (⟨m.frm, m.to, m.what, m.n, true⟩ : Mg)), R]) (by show Hp.map Try.prog 60 pairL vI pm1.mb pm1.p.hl * (R3 * _) = Hp.big rowH (pms.set m.to pm1) * _; rw [hg5 pm1]; show _ = (Hp.map Try.prog 60 pairL vI pm1.mb pm1.p.hl * R3) * _; simp only [Hp.mul_assoc] <;> rfl) ?_
          refine Gx.norm (l' := [Hp.big rowH (pms.set m.to pm1), Hp.own FR 5 pv (pms.set m.to pm1), Hp.rec_ b2 [.int .i64 (((smN m.frm).val : Nat) : Int), .int .i64 (((smN m.what).val : Nat) : Int)], Hp.rec_ b1 [.int .i64 ((m.frm : Nat) : Int), .int .i64 ((m.to : Nat) : Int), .int .i64 ((m.what : Nat) : Int), .int .i64 m.n, .bool true], Hp.rec_ S [.int .i64 ((c.n : Nat) : Int), .int .i64 ((c.f : Nat) : Int), .int .u32 ((c.L : Nat) : Int), .int .i64 ((c.snd : Nat) : Int), av, pv, .bool s.st], Hp.own FG 5 av ((s.all).set at_ (⟨m.frm, m.to, m.what, m.n, true⟩ : Mg)), R]) (by rw [hfx] <;> rfl) ?_
          refine Gx.front 0 rfl ?_
          refine Gx.front 1 rfl ?_
          refine Gx.front 5 rfl ?_
          refine Gx.front 5 rfl ?_
          refine Gx.sat (l' := [worldH S c (⟨(s.all.set at_ ⟨m.frm, m.to, m.what, m.n, true⟩), s.ps.set m.to pm1.p, s.st⟩ : BS), Hp.rec_ b2 [.int .i64 (((smN m.frm).val : Nat) : Int), .int .i64 (((smN m.what).val : Nat) : Int)], Hp.rec_ b1 [.int .i64 ((m.frm : Nat) : Int), .int .i64 ((m.to : Nat) : Int), .int .i64 ((m.what : Nat) : Int), .int .i64 m.n, .bool true], R]) (fun w H => (worldH.shut (S := S) (c := c) (s := (⟨(s.all.set at_ ⟨m.frm, m.to, m.what, m.n, true⟩), s.ps.set m.to pm1.p, s.st⟩ : BS)) (pms := (pms.set m.to pm1)) (R := sep [Hp.rec_ b2 [.int .i64 (((smN m.frm).val : Nat) : Int), .int .i64 (((smN m.what).val : Nat) : Int)], Hp.rec_ b1 [.int .i64 ((m.frm : Nat) : Int), .int .i64 ((m.to : Nat) : Int), .int .i64 ((m.what : Nat) : Int), .int .i64 m.n, .bool true], R]) (by rw [List.map_set, hmap]) (H.cast (by rw [sep4R] <;> rfl))).cast (by rw [sep1] <;> rfl)) ?_
          refine Gx.drop 2 rfl ?_
          refine Gx.drop 1 rfl ?_
          refine Gx.norm (l' := [worldH S c (⟨(s.all.set at_ ⟨m.frm, m.to, m.what, m.n, true⟩), s.ps.set m.to pm1.p, s.st⟩ : BS), R]) rfl ?_
          have hQ : Qeq pm.p pm1.p m := by unfold Qeq; rw [hpm1e]
          have hgot : gotB c pm.p m = (pm1.p, 0) := got_1f hQ (by omega) (fun q => absurd q.1 (by omega))
          have hlf : liesB c.L m.to = false := by simpa using h6
          refine Gx.ret0 Try.results19 ?_
          exact ⟨rfl, by rw [come_got hm hrow hgm hlf hgot]; rw [if_pos rfl]; exact sep1 _ _⟩
      · refine Gx.skip ?_
        refine Gx.thenN ?_
        refine Gx.seq ?_
        refine Gx.regionQ Try.mixed (by kernel_rfl) ?_
        refine Gq.val rfl rfl rfl (val_move rfl rfl) ?_
        refine Gq.val rfl rfl rfl (val_mul rfl rfl rfl (r := ((2 * manyB pm1.p.hl m.what m.n : Nat) : Int)) (w64 (by omega) (by omega))) ?_
        refine Gq.val rfl rfl rfl (val_move rfl rfl) ?_
        refine Gq.val rfl rfl rfl (val_nilCheck rfl rfl) ?_
        refine Gq.val rfl rfl rfl (Val.cast (val_fieldAddr rfl Try.underlying42 rfl Try.ty3 rfl rfl) (v' := ptr S 0) rfl) ?_
        refine Gq.val rfl rfl rfl (val_load rfl Try.ty3 rfl rfl (cell_rec (k := 4) rfl rfl)) ?_
        refine Gq.val rfl rfl rfl (val_move rfl rfl) ?_
        refine Gq.val rfl rfl rfl (val_nilCheck rfl rfl) ?_
        refine Gq.val rfl rfl rfl (Val.cast (val_fieldAddr rfl Try.underlying42 rfl Try.ty3 rfl rfl) (v' := ptr S 1) rfl) ?_
        refine Gq.val rfl rfl rfl (val_load rfl Try.ty3 rfl rfl (cell_rec (k := 4) rfl rfl)) ?_
        refine Gq.val rfl rfl rfl (val_add rfl rfl rfl (r := ((c.n + c.f : Nat) : Int)) (w64 (by omega) (by omega))) ?_
        refine Gq.val rfl rfl rfl (val_gtr rfl rfl rfl) ?_
        refine Gq.val rfl rfl rfl (val_assign rfl rfl) ?_
        refine Gq.done ?_
        refine Gx.thenN ?_
        refine Gx.seq ?_
        refine Gx.seq ?_
        refine Gx.region ?_
        refine Gx.val rfl rfl rfl (Val.cast (val_fieldAddr rfl Try.underlying48 rfl Try.ty3 rfl rfl) (v' := ptr b1 2) rfl) ?_
        refine Gx.val rfl rfl rfl (val_load rfl Try.ty3 rfl rfl (cell_rec (k := 3) rfl rfl)) ?_
        refine Gx.val rfl rfl rfl (val_eql rfl rfl rfl) ?_
        refine Gx.done ?_
        refine Gx.thenN ?_
        refine Gx.dec rfl (fun h12 => ?_) (fun h12 => ?_)
        · refine Gx.seq ?_
          refine Gx.region ?_
          refine Gx.val rfl rfl rfl (val_move rfl rfl) ?_
          refine Gx.val rfl rfl rfl (val_move rfl rfl) ?_
          refine Gx.val rfl rfl rfl (val_nilCheck rfl rfl) ?_
          refine Gx.val rfl rfl rfl (Val.cast (val_fieldAddr rfl Try.underlying42 rfl Try.ty3 rfl rfl) (v' := ptr S 1) rfl) ?_
          refine Gx.val rfl rfl rfl (val_load rfl Try.ty3 rfl rfl (cell_rec (k := 4) rfl rfl)) ?_
          refine Gx.val rfl rfl rfl (val_add rfl rfl rfl (r := ((c.f + 1 : Nat) : Int)) (w64 (by omega) (by omega))) ?_
          refine Gx.val rfl rfl rfl (val_geq rfl rfl rfl) ?_
          refine Gx.val rfl rfl rfl (val_assign rfl rfl) ?_
          refine Gx.done ?_
          refine Gx.thenN ?_
          refine Gx.seq ?_
          refine Gx.region ?_
          refine Gx.val rfl rfl rfl (val_move rfl rfl) ?_
          refine Gx.val rfl rfl rfl (val_move rfl rfl) ?_
          refine Gx.val rfl rfl rfl (val_nilCheck rfl rfl) ?_
          refine Gx.val rfl rfl rfl (Val.cast (val_fieldAddr rfl Try.underlying42 rfl Try.ty3 rfl rfl) (v' := ptr S 1) rfl) ?_
          refine Gx.val rfl rfl rfl (val_load rfl Try.ty3 rfl rfl (cell_rec (k := 4) rfl rfl)) ?_
          refine Gx.val rfl rfl rfl (val_mul rfl rfl rfl (r := ((2 * c.f : Nat) : Int)) (w64 (by omega) (by omega))) ?_
          refine Gx.val rfl rfl rfl (val_add rfl rfl rfl (r := ((2 * c.f + 1 : Nat) : Int)) (w64 (by omega) (by omega))) ?_
          refine Gx.val rfl rfl rfl (val_geq rfl rfl rfl) ?_
          refine Gx.val rfl rfl rfl (val_move rfl rfl) ?_
          refine Gx.cases (t := 122) rfl (fun h13 => ?_) (fun h13 => ?_)
          · refine Gx.valg rfl rfl rfl rfl rfl (val_move rfl rfl) ?_
            refine Gx.valg rfl rfl rfl rfl rfl (val_nilCheck rfl rfl) ?_
            refine Gx.valg rfl rfl rfl rfl rfl (Val.cast (val_fieldAddr rfl Try.underlying45 rfl Try.ty4 rfl rfl) (v' := ptr (sB pv) (sO pv + m.to * 5 + 3)) rfl) ?_
            refine Gx.valg rfl rfl rfl rfl rfl (val_load rfl Try.ty4 rfl rfl (cell_own (i := 3) (k := 0) rfl hpm1 rfl)) ?_
            refine Gx.valg rfl rfl rfl rfl rfl (val_not rfl rfl) ?_
            refine Gx.val rfl rfl rfl (val_pickT rfl rfl rfl) ?_
            refine Gx.done ?_
            refine Gx.thenN ?_
            refine Gx.bool rfl (fun h14 => ?_) (fun h14 => ?_)
            · refine Gx.regionO (fun j => j == 6) 9 [0, 1, 2, 3, 4, 5, 6, 7, 8] (fun us => match us with | [] => [Hp.own FR 5 pv pms1, Hp.map Try.prog 60 pairL vI pm1.mb pm1.p.hl, Hp.rec_ b2 [.int .i64 (((smN m.frm).val : Nat) : Int), .int .i64 (((smN m.what).val : Nat) : Int)], Hp.rec_ b1 [.int .i64 ((m.frm : Nat) : Int), .int .i64 ((m.to : Nat) : Int), .int .i64 ((m.what : Nat) : Int), .int .i64 m.n, .bool true], Hp.rec_ S [.int .i64 ((c.n : Nat) : Int), .int .i64 ((c.f : Nat) : Int), .int .u32 ((c.L : Nat) : Int), .int .i64 ((c.snd : Nat) : Int), av, pv, .bool s.st], Hp.own FG 5 av ((s.all).set at_ (⟨m.frm, m.to, m.what, m.n, true⟩ : Mg)), R, R3] | u1 :: _ => [Hp.own FR 5 pv (pms1.set m.to (⟨pm1.mb, ⟨pm1.p.hl, pm1.p.ec, pm1.p.rd, true, pm1.p.val⟩⟩ : Pm)), Hp.map Try.prog 60 pairL vI pm1.mb pm1.p.hl, Hp.rec_ b2 [.int .i64 (((smN m.frm).val : Nat) : Int), .int .i64 (((smN m.what).val : Nat) : Int)], Hp.rec_ b1 [.int .i64 ((m.frm : Nat) : Int), .int .i64 ((m.to : Nat) : Int), .int .i64 ((m.what : Nat) : Int), .int .i64 m.n, .bool true], Hp.rec_ S [.int .i64 ((c.n : Nat) : Int), .int .i64 ((c.f : Nat) : Int), .int .u32 ((c.L : Nat) : Int), .int .i64 ((c.snd : Nat) : Int), av, pv, .bool s.st], Hp.own FG 5 av ((s.all).set at_ (⟨m.frm, m.to, m.what, m.n, true⟩ : Mg)), R, R3]) Try.mixed (by kernel_rfl) rfl ?_
              refine Gw.val rfl rfl rfl rfl rfl (fun us => val_move rfl rfl) ?_
              refine Gw.val rfl rfl rfl rfl rfl (fun us => val_move rfl rfl) ?_
              refine Gw.val rfl rfl rfl rfl rfl (fun us => Val.cast (val_fieldAddr rfl Try.underlying48 rfl Try.ty2 rfl rfl) (v' := ptr b1 3) rfl) ?_
              refine Gw.val rfl rfl rfl rfl rfl (fun us => match us with | [] => val_load rfl Try.ty2 rfl rfl (cell_rec (k := 3) rfl rfl) | u1 :: _ => val_load rfl Try.ty2 rfl rfl (cell_rec (k := 3) rfl rfl)) ?_
              refine Gw.val rfl rfl rfl rfl rfl (fun us => val_nilCheck rfl rfl) ?_
              refine Gw.val rfl rfl rfl rfl rfl (fun us => Val.cast (val_fieldAddr rfl Try.underlying45 rfl Try.ty4 rfl rfl) (v' := ptr (sB pv) (sO pv + m.to * 5 + 3)) rfl) ?_
              refine Gw.chg0 rfl rfl rfl rfl (Eff.mono (eff_storeEl (i := 3) (e' := (⟨pm1.mb, ⟨pm1.p.hl, pm1.p.ec, pm1.p.rd, true, pm1.p.val⟩⟩ : Pm)) rfl Try.ty4 rfl rfl rfl rfl (k := 0) rfl FR_len hpm1 (by decide) (rfl) (l' := [Hp.own FR 5 pv (pms1.set m.to (⟨pm1.mb, ⟨pm1.p.hl, pm1.p.ec, pm1.p.rd, true, pm1.p.val⟩⟩ : Pm)), Hp.map Try.prog 60 pairL vI pm1.mb pm1.p.hl, Hp.rec_ b2 [.int .i64 (((smN m.frm).val : Nat) : Int), .int .i64 (((smN m.what).val : Nat) : Int)], Hp.rec_ b1 [.int .i64 ((m.frm : Nat) : Int), .int .i64 ((m.to : Nat) : Int), .int .i64 ((m.what : Nat) : Int), .int .i64 m.n, .bool true], Hp.rec_ S [.int .i64 ((c.n : Nat) : Int), .int .i64 ((c.f : Nat) : Int), .int .u32 ((c.L : Nat) : Int), .int .i64 ((c.snd : Nat) : Int), av, pv, .bool s.st], Hp.own FG 5 av ((s.all).set at_ (⟨m.frm, m.to, m.what, m.n, true⟩ : Mg)), R, R3]) rfl) (fun _ _ h => congrArg sep h)) (fun _ => ?_)
              refine Gw.val rfl rfl rfl rfl rfl (fun us => val_nilCheck rfl rfl) ?_
              refine Gw.val rfl rfl rfl rfl rfl (fun us => Val.cast (val_fieldAddr rfl Try.underlying45 rfl Try.ty2 rfl rfl) (v' := ptr (sB pv) (sO pv + m.to * 5 + 4)) rfl) ?_
              refine Gw.done ?_
              refine Gx.norm (l' := [Hp.own FR 5 pv (pms1.set m.to (⟨pm1.mb, ⟨pm1.p.hl, pm1.p.ec, pm1.p.rd, true, pm1.p.val⟩⟩ : Pm)), Hp.map Try.prog 60 pairL vI pm1.mb pm1.p.hl, Hp.rec_ b2 [.int .i64 (((smN m.frm).val : Nat) : Int), .int .i64 (((smN m.what).val : Nat) : Int)], Hp.rec_ b1 [.int .i64 ((m.frm : Nat) : Int), .int .i64 ((m.to : Nat) : Int), .int .i64 ((m.what : Nat) : Int), .int .i64 m.n, .bool true], Hp.rec_ S [.int .i64 ((c.n : Nat) : Int), .int .i64 ((c.f : Nat) : Int), .int .u32 ((c.L : Nat) : Int), .int .i64 ((c.snd : Nat) : Int), av, pv, .bool s.st], Hp.own FG 5 av ((s.all).set at_ (⟨m.frm, m.to, m.what, m.n, true⟩ : Mg)), R, R3]) rfl ?_
              refine Gx.eff0 rfl rfl (eff_storeEl (i := 4) (e' := (⟨pm1.mb, ⟨pm1.p.hl, pm1.p.ec, pm1.p.rd, true, m.n⟩⟩ : Pm)) rfl Try.ty2 rfl rfl rfl rfl (k := 0) rfl FR_len (List.getElem?_set_self (List.getElem?_eq_some_iff.1 hpm1).1) (by decide) (rfl) (l' := [Hp.own FR 5 pv ((pms1.set m.to (⟨pm1.mb, ⟨pm1.p.hl, pm1.p.ec, pm1.p.rd, true, pm1.p.val⟩⟩ : Pm)).set m.to (⟨pm1.mb, ⟨pm1.p.hl, pm1.p.ec, pm1.p.rd, true, m.n⟩⟩ : Pm)), Hp.map Try.prog 60 pairL vI pm1.mb pm1.p.hl, Hp.rec_ b2 [.int .i64 (((smN m.frm).val : Nat) : Int), .int .i64 (((smN m.what).val : Nat) : Int)], Hp.rec_ b1 [.int .i64 ((m.frm : Nat) : Int), .int .i64 ((m.to : Nat) : Int), .int .i64 ((m.what : Nat) : Int), .int .i64 m.n, .bool true], Hp.rec_ S [.int .i64 ((c.n : Nat) : Int), .int .i64 ((c.f : Nat) : Int), .int .u32 ((c.L : Nat) : Int), .int .i64 ((c.snd : Nat) : Int), av, pv, .bool s.st], Hp.own FG 5 av ((s.all).set at_ (⟨m.frm, m.to, m.what, m.n, true⟩ : Mg)), R, R3]) rfl) ?_
              rintro _ _ rfl
              refine Gx.done ?_
              refine Gx.thenN ?_
              refine Gx.seq ?_
              refine Gx.region ?_
              refine Gx.val rfl rfl rfl (val_move rfl rfl) ?_
              refine Gx.val rfl rfl rfl (val_move rfl rfl) ?_
              refine Gx.cases (t := 138) rfl (fun h15 => ?_) (fun h15 => ?_)
              · refine Gx.valg rfl rfl rfl rfl rfl (val_move rfl rfl) ?_
                refine Gx.valg rfl rfl rfl rfl rfl (val_nilCheck rfl rfl) ?_
                refine Gx.valg rfl rfl rfl rfl rfl (Val.cast (val_fieldAddr rfl Try.underlying45 rfl Try.ty4 rfl rfl) (v' := ptr (sB pv) (sO pv + m.to * 5 + 2)) rfl) ?_
                refine Gx.valg rfl rfl rfl rfl rfl (val_load rfl Try.ty4 rfl rfl (cell_own (i := 2) (k := 0) rfl (List.getElem?_set_self (List.getElem?_eq_some_iff.1 (List.getElem?_set_self (List.getElem?_eq_some_iff.1 hpm1).1)).1) rfl)) ?_
                refine Gx.valg rfl rfl rfl rfl rfl (val_not rfl rfl) ?_
                refine Gx.val rfl rfl rfl (val_pickT rfl rfl rfl) ?_
                refine Gx.done ?_
                refine Gx.thenN ?_
                refine Gx.bool rfl (fun h16 => ?_) (fun h16 => ?_)
                · refine Gx.seq ?_
                  refine Gx.region ?_
                  refine Gx.val rfl rfl rfl (val_move rfl rfl) ?_
                  refine Gx.val rfl rfl rfl (val_nilCheck rfl rfl) ?_
                  refine Gx.val rfl rfl rfl (Val.cast (val_fieldAddr rfl Try.underlying45 rfl Try.ty4 rfl rfl) (v' := ptr (sB pv) (sO pv + m.to * 5 + 2)) rfl) ?_
                  refine Gx.eff0 rfl rfl (eff_storeEl (i := 2) (e' := (⟨pm1.mb, ⟨pm1.p.hl, pm1.p.ec, true, true, m.n⟩⟩ : Pm)) rfl Try.ty4 rfl rfl rfl rfl (k := 0) rfl FR_len (List.getElem?_set_self (List.getElem?_eq_some_iff.1 (List.getElem?_set_self (List.getElem?_eq_some_iff.1 hpm1).1)).1) (by decide) (rfl) (l' := [Hp.own FR 5 pv (((pms1.set m.to (⟨pm1.mb, ⟨pm1.p.hl, pm1.p.ec, pm1.p.rd, true, pm1.p.val⟩⟩ : Pm)).set m.to (⟨pm1.mb, ⟨pm1.p.hl, pm1.p.ec, pm1.p.rd, true, m.n⟩⟩ : Pm)).set m.to (⟨pm1.mb, ⟨pm1.p.hl, pm1.p.ec, true, true, m.n⟩⟩ : Pm)), Hp.map Try.prog 60 pairL vI pm1.mb pm1.p.hl, Hp.rec_ b2 [.int .i64 (((smN m.frm).val : Nat) : Int), .int .i64 (((smN m.what).val : Nat) : Int)], Hp.rec_ b1 [.int .i64 ((m.frm : Nat) : Int), .int .i64 ((m.to : Nat) : Int), .int .i64 ((m.what : Nat) : Int), .int .i64 m.n, .bool true], Hp.rec_ S [.int .i64 ((c.n : Nat) : Int), .int .i64 ((c.f : Nat) : Int), .int .u32 ((c.L : Nat) : Int), .int .i64 ((c.snd : Nat) : Int), av, pv, .bool s.st], Hp.own FG 5 av ((s.all).set at_ (⟨m.frm, m.to, m.what, m.n, true⟩ : Mg)), R, R3]) rfl) ?_
                  rintro _ _ rfl
                  refine Gx.done ?_
                  refine Gx.thenN ?_
                  refine Gx.region ?_
                  refine Gx.val rfl rfl rfl (val_move rfl rfl) ?_
                  refine Gx.val rfl rfl rfl (Val.cast (val_fieldAddr rfl Try.underlying48 rfl Try.ty3 rfl rfl) (v' := ptr b1 1) rfl) ?_
                  refine Gx.val rfl rfl rfl (val_load rfl Try.ty3 rfl rfl (cell_rec (k := 3) rfl rfl)) ?_
                  refine Gx.val rfl rfl rfl (Val.cast (val_fieldAddr rfl Try.underlying48 rfl Try.ty2 rfl rfl) (v' := ptr b1 3) rfl) ?_
                  refine Gx.val rfl rfl rfl (val_load rfl Try.ty2 rfl rfl (cell_rec (k := 3) rfl rfl)) ?_
                  refine Gx.eff rfl rfl rfl (eff_call (vs := [ptr S 0, .int .i64 ((m.to : Nat) : Int), .int .i64 3, .int .i64 m.n]) rfl Try.fn17 rfl (fun w H => send_any (s := ⟨(s.all.set at_ ⟨m.frm, m.to, m.what, m.n, true⟩), s.ps, s.st⟩) (what := 3) (x := m.n) hav (by dsimp only; rw [List.length_set]; exact hal) (by simp only [List.length_set]; omega) (H.at3 (k := 4) (k' := 4) (k'' := 0) rfl rfl rfl))) ?_
                  rintro _ l17 ⟨bv, hbv, rfl, hl17⟩
                  refine Gx.sepEq (l' := [Hp.rec_ S [.int .i64 ((c.n : Nat) : Int), .int .i64 ((c.f : Nat) : Int), .int .u32 ((c.L : Nat) : Int), .int .i64 ((c.snd : Nat) : Int), bv, pv, .bool s.st], Hp.own FG 5 bv ((s.all.set at_ ⟨m.frm, m.to, m.what, m.n, true⟩) ++ newM m.to 3 m.n (((pms1.set m.to (⟨pm1.mb, ⟨pm1.p.hl, pm1.p.ec, pm1.p.rd, true, pm1.p.val⟩⟩ : Pm)).set m.to (⟨pm1.mb, ⟨pm1.p.hl, pm1.p.ec, pm1.p.rd, true, m.n⟩⟩ : Pm)).set m.to (⟨pm1.mb, ⟨pm1.p.hl, pm1.p.ec, true, true, m.n⟩⟩ : Pm)).length), Hp.own FR 5 pv (((pms1.set m.to (⟨pm1.mb, ⟨pm1.p.hl, pm1.p.ec, pm1.p.rd, true, pm1.p.val⟩⟩ : Pm)).set m.to (⟨pm1.mb, ⟨pm1.p.hl, pm1.p.ec, pm1.p.rd, true, m.n⟩⟩ : Pm)).set m.to (⟨pm1.mb, ⟨pm1.p.hl, pm1.p.ec, true, true, m.n⟩⟩ : Pm)), Hp.map Try.prog 60 pairL vI pm1.mb pm1.p.hl, Hp.rec_ b2 [.int .i64 (((smN m.frm).val : Nat) : Int), .int .i64 (((smN m.what).val : Nat) : Int)], Hp.rec_ b1 [.int .i64 ((m.frm : Nat) : Int), .int .i64 ((m.to : Nat) : Int), .int .i64 ((m.what : Nat) : Int), .int .i64 m.n, .bool true], R, R3]) hl17 ?_
                  refine Gx.done ?_
                  refine Gx.endN ?_
                  refine Gx.front 7 rfl ?_
                  refine Gx.front 4 rfl ?_
                  have hfl : (((pms1.set m.to (⟨pm1.mb, ⟨pm1.p.hl, pm1.p.ec, pm1.p.rd, true, pm1.p.val⟩⟩ : Pm)).set m.to (⟨pm1.mb, ⟨pm1.p.hl, pm1.p.ec, pm1.p.rd, true, m.n⟩⟩ : Pm)).set m.to (⟨pm1.mb, ⟨pm1.p.hl, pm1.p.ec, true, true, m.n⟩⟩ : Pm)).length = s.ps.length := by simp only [List.length_set, hpl1, hpl]
                  have hfx : ((pms1.set m.to (⟨pm1.mb, ⟨pm1.p.hl, pm1.p.ec, pm1.p.rd, true, pm1.p.val⟩⟩ : Pm)).set m.to (⟨pm1.mb, ⟨pm1.p.hl, pm1.p.ec, pm1.p.rd, true, m.n⟩⟩ : Pm)).set m.to (⟨pm1.mb, ⟨pm1.p.hl, pm1.p.ec, true, true, m.n⟩⟩ : Pm) = (pms.set m.to (⟨pm1.mb, ⟨pm1.p.hl, pm1.p.ec, true, true, m.n⟩⟩ : Pm)) := by simp only [hp1, List.set_set]
                  refine Gx.sepEq (l' := [Hp.big rowH (pms.set m.to (⟨pm1.mb, ⟨pm1.p.hl, pm1.p.ec, true, true, m.n⟩⟩ : Pm)), Hp.rec_ S [.int .i64 ((c.n : Nat) : Int), .int .i64 ((c.f : Nat) : Int), .int .u32 ((c.L : Nat) : Int), .int .i64 ((c.snd : Nat) : Int), bv, pv, .bool s.st], Hp.own FG 5 bv ((s.all.set at_ ⟨m.frm, m.to, m.what, m.n, true⟩) ++ newM m.to 3 m.n (((pms1.set m.to (⟨pm1.mb, ⟨pm1.p.hl, pm1.p.ec, pm1.p.rd, true, pm1.p.val⟩⟩ : Pm)).set m.to (⟨pm1.mb, ⟨pm1.p.hl, pm1.p.ec, pm1.p.rd, true, m.n⟩⟩ : Pm)).set m.to (⟨pm1.mb, ⟨pm1.p.hl, pm1.p.ec, true, true, m.n⟩⟩ : Pm)).length), Hp.own FR 5 pv (((pms1.set m.to (⟨pm1.mb, ⟨pm1.p.hl, pm1.p.ec, pm1.p.rd, true, pm1.p.val⟩⟩ : Pm)).set m.to (⟨pm1.mb, ⟨pm1.p.hl, pm1.p.ec, pm1.p.rd, true, m.n⟩⟩ : Pm)).set m.to (⟨pm1.mb, ⟨pm1.p.hl, pm1.p.ec, true, true, m.n⟩⟩ : Pm)), Hp.rec_ b2 [.int .i64 (((smN m.frm).val : Nat) : Int), .int .i64 (((smN m.what).val : Nat) : Int)], Hp.rec_ b1 [.int .i64 ((m.frm : Nat) : Int), .int .i64 ((m.to : Nat) : Int), .int .i64 ((m.what : Nat) : Int), .int .i64 m.n, .bool true], R]) (by show Hp.map Try.prog 60 pairL vI pm1.mb pm1.p.hl * (R3 * _) = Hp.big rowH (pms.set m.to (⟨pm1.mb, ⟨pm1.p.hl, pm1.p.ec, true, true, m.n⟩⟩ : Pm)) * _; rw [hg5 (⟨pm1.mb, ⟨pm1.p.hl, pm1.p.ec, true, true, m.n⟩⟩ : Pm)]; show _ = (Hp.map Try.prog 60 pairL vI pm1.mb pm1.p.hl * R3) * _; simp only [Hp.mul_assoc] <;> rfl) ?_
                  refine Gx.norm (l' := [Hp.big rowH (pms.set m.to (⟨pm1.mb, ⟨pm1.p.hl, pm1.p.ec, true, true, m.n⟩⟩ : Pm)), Hp.rec_ S [.int .i64 ((c.n : Nat) : Int), .int .i64 ((c.f : Nat) : Int), .int .u32 ((c.L : Nat) : Int), .int .i64 ((c.snd : Nat) : Int), bv, pv, .bool s.st], Hp.own FG 5 bv ((s.all.set at_ ⟨m.frm, m.to, m.what, m.n, true⟩) ++ newM m.to 3 m.n s.ps.length), Hp.own FR 5 pv (pms.set m.to (⟨pm1.mb, ⟨pm1.p.hl, pm1.p.ec, true, true, m.n⟩⟩ : Pm)), Hp.rec_ b2 [.int .i64 (((smN m.frm).val : Nat) : Int), .int .i64 (((smN m.what).val : Nat) : Int)], Hp.rec_ b1 [.int .i64 ((m.frm : Nat) : Int), .int .i64 ((m.to : Nat) : Int), .int .i64 ((m.what : Nat) : Int), .int .i64 m.n, .bool true], R]) (by rw [hfl, hfx] <;> rfl) ?_
                  refine Gx.front 0 rfl ?_
                  refine Gx.front 3 rfl ?_
                  refine Gx.front 3 rfl ?_
                  refine Gx.front 3 rfl ?_
                  refine Gx.sat (l' := [worldH S c (⟨(s.all.set at_ ⟨m.frm, m.to, m.what, m.n, true⟩) ++ newM m.to 3 m.n s.ps.length, s.ps.set m.to (⟨pm1.mb, ⟨pm1.p.hl, pm1.p.ec, true, true, m.n⟩⟩ : Pm).p, s.st⟩ : BS), Hp.rec_ b2 [.int .i64 (((smN m.frm).val : Nat) : Int), .int .i64 (((smN m.what).val : Nat) : Int)], Hp.rec_ b1 [.int .i64 ((m.frm : Nat) : Int), .int .i64 ((m.to : Nat) : Int), .int .i64 ((m.what : Nat) : Int), .int .i64 m.n, .bool true], R]) (fun w H => (worldH.shut (S := S) (c := c) (s := (⟨(s.all.set at_ ⟨m.frm, m.to, m.what, m.n, true⟩) ++ newM m.to 3 m.n s.ps.length, s.ps.set m.to (⟨pm1.mb, ⟨pm1.p.hl, pm1.p.ec, true, true, m.n⟩⟩ : Pm).p, s.st⟩ : BS)) (pms := (pms.set m.to (⟨pm1.mb, ⟨pm1.p.hl, pm1.p.ec, true, true, m.n⟩⟩ : Pm))) (R := sep [Hp.rec_ b2 [.int .i64 (((smN m.frm).val : Nat) : Int), .int .i64 (((smN m.what).val : Nat) : Int)], Hp.rec_ b1 [.int .i64 ((m.frm : Nat) : Int), .int .i64 ((m.to : Nat) : Int), .int .i64 ((m.what : Nat) : Int), .int .i64 m.n, .bool true], R]) (by rw [List.map_set, hmap]) (H.cast (by rw [sep4R] <;> rfl))).cast (by rw [sep1] <;> rfl)) ?_
                  refine Gx.drop 2 rfl ?_
                  refine Gx.drop 1 rfl ?_
                  refine Gx.norm (l' := [worldH S c (⟨(s.all.set at_ ⟨m.frm, m.to, m.what, m.n, true⟩) ++ newM m.to 3 m.n s.ps.length, s.ps.set m.to (⟨pm1.mb, ⟨pm1.p.hl, pm1.p.ec, true, true, m.n⟩⟩ : Pm).p, s.st⟩ : BS), R]) rfl ?_
                  have hQ : Qeq pm.p pm1.p m := by unfold Qeq; rw [hpm1e]
                  have hgot : gotB c pm.p m = ((⟨pm1.mb, ⟨pm1.p.hl, pm1.p.ec, true, true, m.n⟩⟩ : Pm).p, 3) := got_3tt hQ (by omega) (by omega) (by simpa using h16) (by omega) (by simpa using h14)
                  have hlf : liesB c.L m.to = false := by simpa using h6
                  refine Gx.ret0 Try.results19 ?_
                  exact ⟨rfl, by rw [come_got hm hrow hgm hlf hgot]; rw [if_neg (by decide)]; unfold sendB; simp only [List.length_set]; exact sep1 _ _⟩
                · refine Gx.skip ?_
                  refine Gx.endN ?_
                  refine Gx.front 7 rfl ?_
                  refine Gx.front 2 rfl ?_
                  have hfl : ((pms1.set m.to (⟨pm1.mb, ⟨pm1.p.hl, pm1.p.ec, pm1.p.rd, true, pm1.p.val⟩⟩ : Pm)).set m.to (⟨pm1.mb, ⟨pm1.p.hl, pm1.p.ec, pm1.p.rd, true, m.n⟩⟩ : Pm)).length = s.ps.length := by simp only [List.length_set, hpl1, hpl]
                  have hfx : (pms1.set m.to (⟨pm1.mb, ⟨pm1.p.hl, pm1.p.ec, pm1.p.rd, true, pm1.p.val⟩⟩ : Pm)).set m.to (⟨pm1.mb, ⟨pm1.p.hl, pm1.p.ec, pm1.p.rd, true, m.n⟩⟩ : Pm) = (pms.set m.to (⟨pm1.mb, ⟨pm1.p.hl, pm1.p.ec, pm1.p.rd, true, m.n⟩⟩ : Pm)) := by simp only [hp1, List.set_set]
                  refine Gx.sepEq (l' := [Hp.big rowH (pms.set m.to (⟨pm1.mb, ⟨pm1.p.hl, pm1.p.ec, pm1.p.rd, true, m.n⟩⟩ : Pm)), Hp.own FR 5 pv ((pms1.set m.to (⟨pm1.mb, ⟨pm1.p.hl, pm1.p.ec, pm1.p.rd, true, pm1.p.val⟩⟩ : Pm)).set m.to (⟨pm1.mb, ⟨pm1.p.hl, pm1.p.ec, pm1.p.rd, true, m.n⟩⟩ : Pm)), Hp.rec_ b2 [.int .i64 (((smN m.frm).val : Nat) : Int), .int .i64 (((smN m.what).val : Nat) : Int)], Hp.rec_ b1 [.int .i64 ((m.frm : Nat) : Int), .int .i64 ((m.to : Nat) : Int), .int .i64 ((m.what : Nat) : Int), .int .i64 m.n, .bool true], Hp.rec_ S [.int .i64 ((c.n : Nat) : Int), .int .i64 ((c.f : Nat) : Int), .int .u32 ((c.L : Nat) : Int), .int .i64 ((c.snd : Nat) : Int), av, pv, .bool s.st], Hp.own FG 5 av ((s.all).set at_ (⟨m.frm, m.to, m.what, m.n, true⟩ : Mg)), R]) (by show Hp.map Try.prog 60 pairL vI pm1.mb pm1.p.hl * (R3 * _) = Hp.big rowH (pms.set m.to (⟨pm1.mb, ⟨pm1.p.hl, pm1.p.ec, pm1.p.rd, true, m.n⟩⟩ : Pm)) * _; rw [hg5 (⟨pm1.mb, ⟨pm1.p.hl, pm1.p.ec, pm1.p.rd, true, m.n⟩⟩ : Pm)]; show _ = (Hp.map Try.prog 60 pairL vI pm1.mb pm1.p.hl * R3) * _; simp only [Hp.mul_assoc] <;> rfl) ?_
                  refine Gx.norm (l' := [Hp.big rowH (pms.set m.to (⟨pm1.mb, ⟨pm1.p.hl, pm1.p.ec, pm1.p.rd, true, m.n⟩⟩ : Pm)), Hp.own FR 5 pv (pms.set m.to (⟨pm1.mb, ⟨pm1.p.hl, pm1.p.ec, pm1.p.rd, true, m.n⟩⟩ : Pm)), Hp.rec_ b2 [.int .i64 (((smN m.frm).val : Nat) : Int), .int .i64 (((smN m.what).val : Nat) : Int)], Hp.rec_ b1 [.int .i64 ((m.frm : Nat) : Int), .int .i64 ((m.to : Nat) : Int), .int .i64 ((m.what : Nat) : Int), .int .i64 m.n, .bool true], Hp.rec_ S [.int .i64 ((c.n : Nat) : Int), .int .i64 ((c.f : Nat) : Int), .int .u32 ((c.L : Nat) : Int), .int .i64 ((c.snd : Nat) : Int), av, pv, .bool s.st], Hp.own FG 5 av ((s.all).set at_ (⟨m.frm, m.to, m.what, m.n, true⟩ : Mg)), R]) (by rw [hfx] <;> rfl) ?_
                  refine Gx.front 0 rfl ?_
                  refine Gx.front 1 rfl ?_
                  refine Gx.front 5 rfl ?_
                  refine Gx.front 5 rfl ?_
                  refine Gx.sat (l' := [worldH S c (⟨(s.all.set at_ ⟨m.frm, m.to, m.what, m.n, true⟩), s.ps.set m.to (⟨pm1.mb, ⟨pm1.p.hl, pm1.p.ec, pm1.p.rd, true, m.n⟩⟩ : Pm).p, s.st⟩ : BS), Hp.rec_ b2 [.int .i64 (((smN m.frm).val : Nat) : Int), .int .i64 (((smN m.what).val : Nat) : Int)], Hp.rec_ b1 [.int .i64 ((m.frm : Nat) : Int), .int .i64 ((m.to : Nat) : Int), .int .i64 ((m.what : Nat) : Int), .int .i64 m.n, .bool true], R]) (fun w H => (worldH.shut (S := S) (c := c) (s := (⟨(s.all.set at_ ⟨m.frm, m.to, m.what, m.n, true⟩), s.ps.set m.to (⟨pm1.mb, ⟨pm1.p.hl, pm1.p.ec, pm1.p.rd, true, m.n⟩⟩ : Pm).p, s.st⟩ : BS)) (pms := (pms.set m.to (⟨pm1.mb, ⟨pm1.p.hl, pm1.p.ec, pm1.p.rd, true, m.n⟩⟩ : Pm))) (R := sep [Hp.rec_ b2 [.int .i64 (((smN m.frm).val : Nat) : Int), .int .i64 (((smN m.what).val : Nat) : Int)], Hp.rec_ b1 [.int .i64 ((m.frm : Nat) : Int), .int .i64 ((m.to : Nat) : Int), .int .i64 ((m.what : Nat) : Int), .int .i64 m.n, .bool true], R]) (by rw [List.map_set, hmap]) (H.cast (by rw [sep4R] <;> rfl))).cast (by rw [sep1] <;> rfl)) ?_
                  refine Gx.drop 2 rfl ?_
                  refine Gx.drop 1 rfl ?_
                  refine Gx.norm (l' := [worldH S c (⟨(s.all.set at_ ⟨m.frm, m.to, m.what, m.n, true⟩), s.ps.set m.to (⟨pm1.mb, ⟨pm1.p.hl, pm1.p.ec, pm1.p.rd, true, m.n⟩⟩ : Pm).p, s.st⟩ : BS), R]) rfl ?_
                  have hQ : Qeq pm.p pm1.p m := by unfold Qeq; rw [hpm1e]
                  have hgot : gotB c pm.p m = ((⟨pm1.mb, ⟨pm1.p.hl, pm1.p.ec, pm1.p.rd, true, m.n⟩⟩ : Pm).p, 0) := got_3ft hQ (by omega) (fun q => by have h7 := q.2; have h8 := h16; rw [h7] at h8; simp at h8) (by omega) (by simpa using h14)
                  have hlf : liesB c.L m.to = false := by simpa using h6
                  refine Gx.ret0 Try.results19 ?_
                  exact ⟨rfl, by rw [come_got hm hrow hgm hlf hgot]; rw [if_pos rfl]; exact sep1 _ _⟩
              · refine Gx.skipg rfl rfl rfl rfl rfl rfl ?_
                refine Gx.skipg rfl rfl rfl rfl rfl rfl ?_
                refine Gx.skipg rfl rfl rfl rfl rfl rfl ?_
                refine Gx.skipg rfl rfl rfl rfl rfl rfl ?_
                refine Gx.skipg rfl rfl rfl rfl rfl rfl ?_
                refine Gx.val rfl rfl rfl (val_pickF rfl rfl rfl) ?_
                refine Gx.done ?_
                refine Gx.thenN ?_
                refine Gx.f rfl ?_
                refine Gx.skip ?_
                refine Gx.endN ?_
                refine Gx.front 7 rfl ?_
                refine Gx.front 2 rfl ?_
                have hfl : ((pms1.set m.to (⟨pm1.mb, ⟨pm1.p.hl, pm1.p.ec, pm1.p.rd, true, pm1.p.val⟩⟩ : Pm)).set m.to (⟨pm1.mb, ⟨pm1.p.hl, pm1.p.ec, pm1.p.rd, true, m.n⟩⟩ : Pm)).length = s.ps.length := by simp only [List.length_set, hpl1, hpl]
                have hfx : (pms1.set m.to (⟨pm1.mb, ⟨pm1.p.hl, pm1.p.ec, pm1.p.rd, true, pm1.p.val⟩⟩ : Pm)).set m.to (⟨pm1.mb, ⟨pm1.p.hl, pm1.p.ec, pm1.p.rd, true, m.n⟩⟩ : Pm) = (pms.set m.to (⟨pm1.mb, ⟨pm1.p.hl, pm1.p.ec, pm1.p.rd, true, m.n⟩⟩ : Pm)) := by simp only [hp1, List.set_set]
                refine Gx.sepEq (l' := [Hp.big rowH (pms.set m.to (⟨pm1.mb, ⟨pm1.p.hl, pm1.p.ec, pm1.p.rd, true, m.n⟩⟩ : Pm)), Hp.own FR 5 pv ((pms1.set m.to (⟨pm1.mb, ⟨pm1.p.hl, pm1.p.ec, pm1.p.rd, true, pm1.p.val⟩⟩ : Pm)).set m.to (⟨pm1.mb, ⟨pm1.p.hl, pm1.p.ec, pm1.p.rd, true, m.n⟩⟩ : Pm)), Hp.rec_ b2 [.int .i64 (((smN m.frm).val : Nat) : Int), .int .i64 (((smN m.what).val : Nat) : Int)], Hp.rec_ b1 [.int .i64 ((m.frm : Nat) : Int), .int .i64 ((m.to : Nat) : Int), .int .i64 ((m.what : Nat) : Int), .int .i64 m.n, .bool true], Hp.rec_ S [.int .i64 ((c.n : Nat) : Int), .int .i64 ((c.f : Nat) : Int), .int .u32 ((c.L : Nat) : Int), .int .i64 ((c.snd : Nat) : Int), av, pv, .bool s.st], Hp.own FG 5 av ((s.all).set at_ (⟨m.frm, m.to, m.what, m.n, true⟩ : Mg)), R]) (by show Hp.map Try.prog 60 pairL vI pm1.mb pm1.p.hl * (R3 * _) = Hp.big rowH (pms.set m.to (⟨pm1.mb, ⟨pm1.p.hl, pm1.p.ec, pm1.p.rd, true, m.n⟩⟩ : Pm)) * _; rw [hg5 (⟨pm1.mb, ⟨pm1.p.hl, pm1.p.ec, pm1.p.rd, true, m.n⟩⟩ : Pm)]; show _ = (Hp.map Try.prog 60 pairL vI pm1.mb pm1.p.hl * R3) * _; simp only [Hp.mul_assoc] <;> rfl) ?_
                refine Gx.norm (l' := [Hp.big rowH (pms.set m.to (⟨pm1.mb, ⟨pm1.p.hl, pm1.p.ec, pm1.p.rd, true, m.n⟩⟩ : Pm)), Hp.own FR 5 pv (pms.set m.to (⟨pm1.mb, ⟨pm1.p.hl, pm1.p.ec, pm1.p.rd, true, m.n⟩⟩ : Pm)), Hp.rec_ b2 [.int .i64 (((smN m.frm).val : Nat) : Int), .int .i64 (((smN m.what).val : Nat) : Int)], Hp.rec_ b1 [.int .i64 ((m.frm : Nat) : Int), .int .i64 ((m.to : Nat) : Int), .int .i64 ((m.what : Nat) : Int), .int .i64 m.n, .bool true], Hp.rec_ S [.int .i64 ((c.n : Nat) : Int), .int .i64 ((c.f : Nat) : Int), .int .u32 ((c.L : Nat) : Int), .int .i64 ((c.snd : Nat) : Int), av, pv, .bool s.st], Hp.own FG 5 av ((s.all).set at_ (⟨m.frm, m.to, m.what, m.n, true⟩ : Mg)), R]) (by rw [hfx] <;> rfl) ?_
                refine Gx.front 0 rfl ?_
                refine Gx.front 1 rfl ?_
                refine Gx.front 5 rfl ?_
                refine Gx.front 5 rfl ?_
                refine Gx.sat (l' := [worldH S c (⟨(s.all.set at_ ⟨m.frm, m.to, m.what, m.n, true⟩), s.ps.set m.to (⟨pm1.mb, ⟨pm1.p.hl, pm1.p.ec, pm1.p.rd, true, m.n⟩⟩ : Pm).p, s.st⟩ : BS), Hp.rec_ b2 [.int .i64 (((smN m.frm).val : Nat) : Int), .int .i64 (((smN m.what).val : Nat) : Int)], Hp.rec_ b1 [.int .i64 ((m.frm : Nat) : Int), .int .i64 ((m.to : Nat) : Int), .int .i64 ((m.what : Nat) : Int), .int .i64 m.n, .bool true], R]) (fun w H => (worldH.shut (S := S) (c := c) (s := (⟨(s.all.set at_ ⟨m.frm, m.to, m.what, m.n, true⟩), s.ps.set m.to (⟨pm1.mb, ⟨pm1.p.hl, pm1.p.ec, pm1.p.rd, true, m.n⟩⟩ : Pm).p, s.st⟩ : BS)) (pms := (pms.set m.to (⟨pm1.mb, ⟨pm1.p.hl, pm1.p.ec, pm1.p.rd, true, m.n⟩⟩ : Pm))) (R := sep [Hp.rec_ b2 [.int .i64 (((smN m.frm).val : Nat) : Int), .int .i64 (((smN m.what).val : Nat) : Int)], Hp.rec_ b1 [.int .i64 ((m.frm : Nat) : Int), .int .i64 ((m.to : Nat) : Int), .int .i64 ((m.what : Nat) : Int), .int .i64 m.n, .bool true], R]) (by rw [List.map_set, hmap]) (H.cast (by rw [sep4R] <;> rfl))).cast (by rw [sep1] <;> rfl)) ?_
                refine Gx.drop 2 rfl ?_
                refine Gx.drop 1 rfl ?_
                refine Gx.norm (l' := [worldH S c (⟨(s.all.set at_ ⟨m.frm, m.to, m.what, m.n, true⟩), s.ps.set m.to (⟨pm1.mb, ⟨pm1.p.hl, pm1.p.ec, pm1.p.rd, true, m.n⟩⟩ : Pm).p, s.st⟩ : BS), R]) rfl ?_
                have hQ : Qeq pm.p pm1.p m := by unfold Qeq; rw [hpm1e]
                have hgot : gotB c pm.p m = ((⟨pm1.mb, ⟨pm1.p.hl, pm1.p.ec, pm1.p.rd, true, m.n⟩⟩ : Pm).p, 0) := got_3ft hQ (by omega) (fun q => absurd q.1 (by omega)) (by omega) (by simpa using h14)
                have hlf : liesB c.L m.to = false := by simpa using h6
                refine Gx.ret0 Try.results19 ?_
                exact ⟨rfl, by rw [come_got hm hrow hgm hlf hgot]; rw [if_pos rfl]; exact sep1 _ _⟩
            · refine Gx.skip ?_
              refine Gx.thenN ?_
              refine Gx.seq ?_
              refine Gx.region ?_
              refine Gx.val rfl rfl rfl (val_move rfl rfl) ?_
              refine Gx.val rfl rfl rfl (val_move rfl rfl) ?_
              refine Gx.cases (t := 138) rfl (fun h18 => ?_) (fun h18 => ?_)
              · refine Gx.valg rfl rfl rfl rfl rfl (val_move rfl rfl) ?_
                refine Gx.valg rfl rfl rfl rfl rfl (val_nilCheck rfl rfl) ?_
                refine Gx.valg rfl rfl rfl rfl rfl (Val.cast (val_fieldAddr rfl Try.underlying45 rfl Try.ty4 rfl rfl) (v' := ptr (sB pv) (sO pv + m.to * 5 + 2)) rfl) ?_
                refine Gx.valg rfl rfl rfl rfl rfl (val_load rfl Try.ty4 rfl rfl (cell_own (i := 2) (k := 0) rfl hpm1 rfl)) ?_
                refine Gx.valg rfl rfl rfl rfl rfl (val_not rfl rfl) ?_
                refine Gx.val rfl rfl rfl (val_pickT rfl rfl rfl) ?_
                refine Gx.done ?_
                refine Gx.thenN ?_
                refine Gx.bool rfl (fun h19 => ?_) (fun h19 => ?_)
                · refine Gx.seq ?_
                  refine Gx.region ?_
                  refine Gx.val rfl rfl rfl (val_move rfl rfl) ?_
                  refine Gx.val rfl rfl rfl (val_nilCheck rfl rfl) ?_
                  refine Gx.val rfl rfl rfl (Val.cast (val_fieldAddr rfl Try.underlying45 rfl Try.ty4 rfl rfl) (v' := ptr (sB pv) (sO pv + m.to * 5 + 2)) rfl) ?_
                  refine Gx.eff0 rfl rfl (eff_storeEl (i := 2) (e' := (⟨pm1.mb, ⟨pm1.p.hl, pm1.p.ec, true, pm1.p.has, pm1.p.val⟩⟩ : Pm)) rfl Try.ty4 rfl rfl rfl rfl (k := 0) rfl FR_len hpm1 (by decide) (rfl) (l' := [Hp.own FR 5 pv (pms1.set m.to (⟨pm1.mb, ⟨pm1.p.hl, pm1.p.ec, true, pm1.p.has, pm1.p.val⟩⟩ : Pm)), Hp.map Try.prog 60 pairL vI pm1.mb pm1.p.hl, Hp.rec_ b2 [.int .i64 (((smN m.frm).val : Nat) : Int), .int .i64 (((smN m.what).val : Nat) : Int)], Hp.rec_ b1 [.int .i64 ((m.frm : Nat) : Int), .int .i64 ((m.to : Nat) : Int), .int .i64 ((m.what : Nat) : Int), .int .i64 m.n, .bool true], Hp.rec_ S [.int .i64 ((c.n : Nat) : Int), .int .i64 ((c.f : Nat) : Int), .int .u32 ((c.L : Nat) : Int), .int .i64 ((c.snd : Nat) : Int), av, pv, .bool s.st], Hp.own FG 5 av ((s.all).set at_ (⟨m.frm, m.to, m.what, m.n, true⟩ : Mg)), R, R3]) rfl) ?_
                  rintro _ _ rfl
                  refine Gx.done ?_
                  refine Gx.thenN ?_
                  refine Gx.region ?_
                  refine Gx.val rfl rfl rfl (val_move rfl rfl) ?_
                  refine Gx.val rfl rfl rfl (Val.cast (val_fieldAddr rfl Try.underlying48 rfl Try.ty3 rfl rfl) (v' := ptr b1 1) rfl) ?_
                  refine Gx.val rfl rfl rfl (val_load rfl Try.ty3 rfl rfl (cell_rec (k := 3) rfl rfl)) ?_
                  refine Gx.val rfl rfl rfl (Val.cast (val_fieldAddr rfl Try.underlying48 rfl Try.ty2 rfl rfl) (v' := ptr b1 3) rfl) ?_
                  refine Gx.val rfl rfl rfl (val_load rfl Try.ty2 rfl rfl (cell_rec (k := 3) rfl rfl)) ?_
                  refine Gx.eff rfl rfl rfl (eff_call (vs := [ptr S 0, .int .i64 ((m.to : Nat) : Int), .int .i64 3, .int .i64 m.n]) rfl Try.fn17 rfl (fun w H => send_any (s := ⟨(s.all.set at_ ⟨m.frm, m.to, m.what, m.n, true⟩), s.ps, s.st⟩) (what := 3) (x := m.n) hav (by dsimp only; rw [List.length_set]; exact hal) (by simp only [List.length_set]; omega) (H.at3 (k := 4) (k' := 4) (k'' := 0) rfl rfl rfl))) ?_
                  rintro _ l20 ⟨bv, hbv, rfl, hl20⟩
                  refine Gx.sepEq (l' := [Hp.rec_ S [.int .i64 ((c.n : Nat) : Int), .int .i64 ((c.f : Nat) : Int), .int .u32 ((c.L : Nat) : Int), .int .i64 ((c.snd : Nat) : Int), bv, pv, .bool s.st], Hp.own FG 5 bv ((s.all.set at_ ⟨m.frm, m.to, m.what, m.n, true⟩) ++ newM m.to 3 m.n (pms1.set m.to (⟨pm1.mb, ⟨pm1.p.hl, pm1.p.ec, true, pm1.p.has, pm1.p.val⟩⟩ : Pm)).length), Hp.own FR 5 pv (pms1.set m.to (⟨pm1.mb, ⟨pm1.p.hl, pm1.p.ec, true, pm1.p.has, pm1.p.val⟩⟩ : Pm)), Hp.map Try.prog 60 pairL vI pm1.mb pm1.p.hl, Hp.rec_ b2 [.int .i64 (((smN m.frm).val : Nat) : Int), .int .i64 (((smN m.what).val : Nat) : Int)], Hp.rec_ b1 [.int .i64 ((m.frm : Nat) : Int), .int .i64 ((m.to : Nat) : Int), .int .i64 ((m.what : Nat) : Int), .int .i64 m.n, .bool true], R, R3]) hl20 ?_
                  refine Gx.done ?_
                  refine Gx.endN ?_
                  refine Gx.front 7 rfl ?_
                  refine Gx.front 4 rfl ?_
                  have hfl : (pms1.set m.to (⟨pm1.mb, ⟨pm1.p.hl, pm1.p.ec, true, pm1.p.has, pm1.p.val⟩⟩ : Pm)).length = s.ps.length := by simp only [List.length_set, hpl1, hpl]
                  have hfx : pms1.set m.to (⟨pm1.mb, ⟨pm1.p.hl, pm1.p.ec, true, pm1.p.has, pm1.p.val⟩⟩ : Pm) = (pms.set m.to (⟨pm1.mb, ⟨pm1.p.hl, pm1.p.ec, true, pm1.p.has, pm1.p.val⟩⟩ : Pm)) := by simp only [hp1, List.set_set]
                  refine Gx.sepEq (l' := [Hp.big rowH (pms.set m.to (⟨pm1.mb, ⟨pm1.p.hl, pm1.p.ec, true, pm1.p.has, pm1.p.val⟩⟩ : Pm)), Hp.rec_ S [.int .i64 ((c.n : Nat) : Int), .int .i64 ((c.f : Nat) : Int), .int .u32 ((c.L : Nat) : Int), .int .i64 ((c.snd : Nat) : Int), bv, pv, .bool s.st], Hp.own FG 5 bv ((s.all.set at_ ⟨m.frm, m.to, m.what, m.n, true⟩) ++ newM m.to 3 m.n (pms1.set m.to (⟨pm1.mb, ⟨pm1.p.hl, pm1.p.ec, true, pm1.p.has, pm1.p.val⟩⟩ : Pm)).length), Hp.own FR 5 pv (pms1.set m.to (⟨pm1.mb, ⟨pm1.p.hl, pm1.p.ec, true, pm1.p.has, pm1.p.val⟩⟩ : Pm)), Hp.rec_ b2 [.int .i64 (((smN m.frm).val : Nat) : Int), .int .i64 (((smN m.what).val : Nat) : Int)], Hp.rec_ b1 [.int .i64 ((m.frm : Nat) : Int), .int .i64 ((m.to : Nat) : Int), .int .i64 ((m.what : Nat) : Int), .int .i64 m.n, .bool true], R]) (by show Hp.map Try.prog 60 pairL vI pm1.mb pm1.p.hl * (R3 * _) = Hp.big rowH (pms.set m.to (⟨pm1.mb, ⟨pm1.p.hl, pm1.p.ec, true, pm1.p.has, pm1.p.val⟩⟩ : Pm)) * _; rw [hg5 (⟨pm1.mb, ⟨pm1.p.hl, pm1.p.ec, true, pm1.p.has, pm1.p.val⟩⟩ : Pm)]; show _ = (Hp.map Try.prog 60 pairL vI pm1.mb pm1.p.hl * R3) * _; simp only [Hp.mul_assoc] <;> rfl) ?_
                  refine Gx.norm (l' := [Hp.big rowH (pms.set m.to (⟨pm1.mb, ⟨pm1.p.hl, pm1.p.ec, true, pm1.p.has, pm1.p.val⟩⟩ : Pm)), Hp.rec_ S [.int .i64 ((c.n : Nat) : Int), .int .i64 ((c.f : Nat) : Int), .int .u32 ((c.L : Nat) : Int), .int .i64 ((c.snd : Nat) : Int), bv, pv, .bool s.st], Hp.own FG 5 bv ((s.all.set at_ ⟨m.frm, m.to, m.what, m.n, true⟩) ++ newM m.to 3 m.n s.ps.length), Hp.own FR 5 pv (pms.set m.to (⟨pm1.mb, ⟨pm1.p.hl, pm1.p.ec, true, pm1.p.has, pm1.p.val⟩⟩ : Pm)), Hp.rec_ b2 [.int .i64 (((smN m.frm).val : Nat) : Int), .int .i64 (((smN m.what).val : Nat) : Int)], Hp.rec_ b1 [.int .i64 ((m.frm : Nat) : Int), .int .i64 ((m.to : Nat) : Int), .int .i64 ((m.what : Nat) : Int), .int .i64 m.n, .bool true], R]) (by rw [hfl, hfx] <;> rfl) ?_
                  refine Gx.front 0 rfl ?_
                  refine Gx.front 3 rfl ?_
                  refine Gx.front 3 rfl ?_
                  refine Gx.front 3 rfl ?_
                  refine Gx.sat (l' := [worldH S c (⟨(s.all.set at_ ⟨m.frm, m.to, m.what, m.n, true⟩) ++ newM m.to 3 m.n s.ps.length, s.ps.set m.to (⟨pm1.mb, ⟨pm1.p.hl, pm1.p.ec, true, pm1.p.has, pm1.p.val⟩⟩ : Pm).p, s.st⟩ : BS), Hp.rec_ b2 [.int .i64 (((smN m.frm).val : Nat) : Int), .int .i64 (((smN m.what).val : Nat) : Int)], Hp.rec_ b1 [.int .i64 ((m.frm : Nat) : Int), .int .i64 ((m.to : Nat) : Int), .int .i64 ((m.what : Nat) : Int), .int .i64 m.n, .bool true], R]) (fun w H => (worldH.shut (S := S) (c := c) (s := (⟨(s.all.set at_ ⟨m.frm, m.to, m.what, m.n, true⟩) ++ newM m.to 3 m.n s.ps.length, s.ps.set m.to (⟨pm1.mb, ⟨pm1.p.hl, pm1.p.ec, true, pm1.p.has, pm1.p.val⟩⟩ : Pm).p, s.st⟩ : BS)) (pms := (pms.set m.to (⟨pm1.mb, ⟨pm1.p.hl, pm1.p.ec, true, pm1.p.has, pm1.p.val⟩⟩ : Pm))) (R := sep [Hp.rec_ b2 [.int .i64 (((smN m.frm).val : Nat) : Int), .int .i64 (((smN m.what).val : Nat) : Int)], Hp.rec_ b1 [.int .i64 ((m.frm : Nat) : Int), .int .i64 ((m.to : Nat) : Int), .int .i64 ((m.what : Nat) : Int), .int .i64 m.n, .bool true], R]) (by rw [List.map_set, hmap]) (H.cast (by rw [sep4R] <;> rfl))).cast (by rw [sep1] <;> rfl)) ?_
                  refine Gx.drop 2 rfl ?_
                  refine Gx.drop 1 rfl ?_
                  refine Gx.norm (l' := [worldH S c (⟨(s.all.set at_ ⟨m.frm, m.to, m.what, m.n, true⟩) ++ newM m.to 3 m.n s.ps.length, s.ps.set m.to (⟨pm1.mb, ⟨pm1.p.hl, pm1.p.ec, true, pm1.p.has, pm1.p.val⟩⟩ : Pm).p, s.st⟩ : BS), R]) rfl ?_
                  have hQ : Qeq pm.p pm1.p m := by unfold Qeq; rw [hpm1e]
                  have hgot : gotB c pm.p m = ((⟨pm1.mb, ⟨pm1.p.hl, pm1.p.ec, true, pm1.p.has, pm1.p.val⟩⟩ : Pm).p, 3) := got_3tf hQ (by omega) (by omega) (by simpa using h19) (fun q => by have h7 := q.2; have h8 := h14; rw [h7] at h8; simp at h8)
                  have hlf : liesB c.L m.to = false := by simpa using h6
                  refine Gx.ret0 Try.results19 ?_
                  exact ⟨rfl, by rw [come_got hm hrow hgm hlf hgot]; rw [if_neg (by decide)]; unfold sendB; simp only [List.length_set]; exact sep1 _ _⟩
                · refine Gx.skip ?_
                  refine Gx.endN ?_
                  refine Gx.front 7 rfl ?_
                  refine Gx.front 2 rfl ?_
                  have hfl : pms1.length = s.ps.length := by simp only [List.length_set, hpl1, hpl]
                  have hfx : pms1 = (pms.set m.to pm1) := by simp only [hp1, List.set_set]
                  refine Gx.sepEq (l' := [Hp.big rowH (pms.set m.to pm1), Hp.own FR 5 pv pms1, Hp.rec_ b2 [.int .i64 (((smN m.frm).val : Nat) : Int), .int .i64 (((smN m.what).val : Nat) : Int)], Hp.rec_ b1 [.int .i64 ((m.frm : Nat) : Int), .int .i64 ((m.to : Nat) : Int), .int .i64 ((m.what : Nat) : Int), .int .i64 m.n, .bool true], Hp.rec_ S [.int .i64 ((c.n : Nat) : Int), .int .i64 ((c.f : Nat) : Int), .int .u32 ((c.L : Nat) : Int), .int .i64 ((c.snd : Nat) : Int), av, pv, .bool s.st], Hp.own FG 5 av ((s.all).set at_ (⟨m.frm, m.to, m.what, m.n, true⟩ : Mg)), R]) (by show Hp.map Try.prog 60 pairL vI pm1.mb pm1.p.hl * (R3 * _) = Hp.big rowH (pms.set m.to pm1) * _; rw [hg5 pm1]; show _ = (Hp.map Try.prog 60 pairL vI pm1.mb pm1.p.hl * R3) * _; simp only [Hp.mul_assoc] <;> rfl) ?_
                  refine Gx.norm (l' := [Hp.big rowH (pms.set m.to pm1), Hp.own FR 5 pv (pms.set m.to pm1), Hp.rec_ b2 [.int .i64 (((smN m.frm).val : Nat) : Int), .int .i64 (((smN m.what).val : Nat) : Int)], Hp.rec_ b1 [.int .i64 ((m.frm : Nat) : Int), .int .i64 ((m.to : Nat) : Int), .int .i64 ((m.what : Nat) : Int), .int .i64 m.n, .bool true], Hp.rec_ S [.int .i64 ((c.n : Nat) : Int), .int .i64 ((c.f : Nat) : Int), .int .u32 ((c.L : Nat) : Int), .int .i64 ((c.snd : Nat) : Int), av, pv, .bool s.st], Hp.own FG 5 av ((s.all).set at_ (⟨m.frm, m.to, m.what, m.n, true⟩ : Mg)), R]) (by rw [hfx] <;> rfl) ?_
                  refine Gx.front 0 rfl ?_
                  refine Gx.front 1 rfl ?_
                  refine Gx.front 5 rfl ?_
                  refine Gx.front 5 rfl ?_
                  refine Gx.sat (l' := [worldH S c (⟨(s.all.set at_ ⟨m.frm, m.to, m.what, m.n, true⟩), s.ps.set m.to pm1.p, s.st⟩ : BS), Hp.rec_ b2 [.int .i64 (((smN m.frm).val : Nat) : Int), .int .i64 (((smN m.what).val : Nat) : Int)], Hp.rec_ b1 [.int .i64 ((m.frm : Nat) : Int), .int .i64 ((m.to : Nat) : Int), .int .i64 ((m.what : Nat) : Int), .int .i64 m.n, .bool true], R]) (fun w H => (worldH.shut (S := S) (c := c) (s := (⟨(s.all.set at_ ⟨m.frm, m.to, m.what, m.n, true⟩), s.ps.set m.to pm1.p, s.st⟩ : BS)) (pms := (pms.set m.to pm1)) (R := sep [Hp.rec_ b2 [.int .i64 (((smN m.frm).val : Nat) : Int), .int .i64 (((smN m.what).val : Nat) : Int)], Hp.rec_ b1 [.int .i64 ((m.frm : Nat) : Int), .int .i64 ((m.to : Nat) : Int), .int .i64 ((m.what : Nat) : Int), .int .i64 m.n, .bool true], R]) (by rw [List.map_set, hmap]) (H.cast (by rw [sep4R] <;> rfl))).cast (by rw [sep1] <;> rfl)) ?_
                  refine Gx.drop 2 rfl ?_
                  refine Gx.drop 1 rfl ?_
                  refine Gx.norm (l' := [worldH S c (⟨(s.all.set at_ ⟨m.frm, m.to, m.what, m.n, true⟩), s.ps.set m.to pm1.p, s.st⟩ : BS), R]) rfl ?_
                  have hQ : Qeq pm.p pm1.p m := by unfold Qeq; rw [hpm1e]
                  have hgot : gotB c pm.p m = (pm1.p, 0) := got_3ff hQ (by omega) (fun q => by have h7 := q.2; have h8 := h19; rw [h7] at h8; simp at h8) (fun q => by have h7 := q.2; have h8 := h14; rw [h7] at h8; simp at h8)
                  have hlf : liesB c.L m.to = false := by simpa using h6
                  refine Gx.ret0 Try.results19 ?_
                  exact ⟨rfl, by rw [come_got hm hrow hgm hlf hgot]; rw [if_pos rfl]; exact sep1 _ _⟩
              · refine Gx.skipg rfl rfl rfl rfl rfl rfl ?_
                refine Gx.skipg rfl rfl rfl rfl rfl rfl ?_
                refine Gx.skipg rfl rfl rfl rfl rfl rfl ?_
                refine Gx.skipg rfl rfl rfl rfl rfl rfl ?_
                refine Gx.skipg rfl rfl rfl rfl rfl rfl ?_
                refine Gx.val rfl rfl rfl (val_pickF rfl rfl rfl) ?_
                refine Gx.done ?_
                refine Gx.thenN ?_
                refine Gx.f rfl ?_
                refine Gx.skip ?_
                refine Gx.endN ?_
                refine Gx.front 7 rfl ?_
                refine Gx.front 2 rfl ?_
                have hfl : pms1.length = s.ps.length := by simp only [List.length_set, hpl1, hpl]
                have hfx : pms1 = (pms.set m.to pm1) := by simp only [hp1, List.set_set]
                refine Gx.sepEq (l' := [Hp.big rowH (pms.set m.to pm1), Hp.own FR 5 pv pms1, Hp.rec_ b2 [.int .i64 (((smN m.frm).val : Nat) : Int), .int .i64 (((smN m.what).val : Nat) : Int)], Hp.rec_ b1 [.int .i64 ((m.frm : Nat) : Int), .int .i64 ((m.to : Nat) : Int), .int .i64 ((m.what : Nat) : Int), .int .i64 m.n, .bool true], Hp.rec_ S [.int .i64 ((c.n : Nat) : Int), .int .i64 ((c.f : Nat) : Int), .int .u32 ((c.L : Nat) : Int), .int .i64 ((c.snd : Nat) : Int), av, pv, .bool s.st], Hp.own FG 5 av ((s.all).set at_ (⟨m.frm, m.to, m.what, m.n, true⟩ : Mg)), R]) (by show Hp.map Try.prog 60 pairL vI pm1.mb pm1.p.hl * (R3 * _) = Hp.big rowH (pms.set m.to pm1) * _; rw [hg5 pm1]; show _ = (Hp.map Try.prog 60 pairL vI pm1.mb pm1.p.hl * R3) * _; simp only [Hp.mul_assoc] <;> rfl) ?_
                refine Gx.norm (l' := [Hp.big rowH (pms.set m.to pm1), Hp.own FR 5 pv (pms.set m.to pm1), Hp.rec_ b2 [.int .i64 (((smN m.frm).val : Nat) : Int), .int .i64 (((smN m.what).val : Nat) : Int)], Hp.rec_ b1 [.int .i64 ((m.frm : Nat) : Int), .int .i64 ((m.to : Nat) : Int), .int .i64 ((m.what : Nat) : Int), .int .i64 m.n, .bool true], Hp.rec_ S [.int .i64 ((c.n : Nat) : Int), .int .i64 ((c.f : Nat) : Int), .int .u32 ((c.L : Nat) : Int), .int .i64 ((c.snd : Nat) : Int), av, pv, .bool s.st], Hp.own FG 5 av ((s.all).set at_ (⟨m.frm, m.to, m.what, m.n, true⟩ : Mg)), R]) (by rw [hfx] <;> rfl) ?_
                refine Gx.front 0 rfl ?_
                refine Gx.front 1 rfl ?_
                refine Gx.front 5 rfl ?_
                refine Gx.front 5 rfl ?_
                refine Gx.sat (l' := [worldH S c (⟨(s.all.set at_ ⟨m.frm, m.to, m.what, m.n, true⟩), s.ps.set m.to pm1.p, s.st⟩ : BS), Hp.rec_ b2 [.int .i64 (((smN m.frm).val : Nat) : Int), .int .i64 (((smN m.what).val : Nat) : Int)], Hp.rec_ b1 [.int .i64 ((m.frm : Nat) : Int), .int .i64 ((m.to : Nat) : Int), .int .i64 ((m.what : Nat) : Int), .int .i64 m.n, .bool true], R]) (fun w H => (worldH.shut (S := S) (c := c) (s := (⟨(s.all.set at_ ⟨m.frm, m.to, m.what, m.n, true⟩), s.ps.set m.to pm1.p, s.st⟩ : BS)) (pms := (pms.set m.to pm1)) (R := sep [Hp.rec_ b2 [.int .i64 (((smN m.frm).val : Nat) : Int), .int .i64 (((smN m.what).val : Nat) : Int)], Hp.rec_ b1 [.int .i64 ((m.frm : Nat) : Int), .int .i64 ((m.to : Nat) : Int), .int .i64 ((m.what : Nat) : Int), .int .i64 m.n, .bool true], R]) (by rw [List.map_set, hmap]) (H.cast (by rw [sep4R] <;> rfl))).cast (by rw [sep1] <;> rfl)) ?_
                refine Gx.drop 2 rfl ?_
                refine Gx.drop 1 rfl ?_
                refine Gx.norm (l' := [worldH S c (⟨(s.all.set at_ ⟨m.frm, m.to, m.what, m.n, true⟩), s.ps.set m.to pm1.p, s.st⟩ : BS), R]) rfl ?_
                have hQ : Qeq pm.p pm1.p m := by unfold Qeq; rw [hpm1e]
                have hgot : gotB c pm.p m = (pm1.p, 0) := got_3ff hQ (by omega) (fun q => absurd q.1 (by omega)) (fun q => by have h7 := q.2; have h8 := h14; rw [h7] at h8; simp at h8)
                have hlf : liesB c.L m.to = false := by simpa using h6
                refine Gx.ret0 Try.results19 ?_
                exact ⟨rfl, by rw [come_got hm hrow hgm hlf hgot]; rw [if_pos rfl]; exact sep1 _ _⟩
          · refine Gx.skipg rfl rfl rfl rfl rfl rfl ?_
            refine Gx.skipg rfl rfl rfl rfl rfl rfl ?_
            refine Gx.skipg rfl rfl rfl rfl rfl rfl ?_
            refine Gx.skipg rfl rfl rfl rfl rfl rfl ?_
            refine Gx.skipg rfl rfl rfl rfl rfl rfl ?_
            refine Gx.val rfl rfl rfl (val_pickF rfl rfl rfl) ?_
            refine Gx.done ?_
            refine Gx.thenN ?_
            refine Gx.f rfl ?_
            refine Gx.skip ?_
            refine Gx.thenN ?_
            refine Gx.seq ?_
            refine Gx.region ?_
            refine Gx.val rfl rfl rfl (val_move rfl rfl) ?_
            refine Gx.val rfl rfl rfl (val_move rfl rfl) ?_
            refine Gx.cases (t := 138) rfl (fun h21 => ?_) (fun h21 => ?_)
            · refine Gx.valg rfl rfl rfl rfl rfl (val_move rfl rfl) ?_
              refine Gx.valg rfl rfl rfl rfl rfl (val_nilCheck rfl rfl) ?_
              refine Gx.valg rfl rfl rfl rfl rfl (Val.cast (val_fieldAddr rfl Try.underlying45 rfl Try.ty4 rfl rfl) (v' := ptr (sB pv) (sO pv + m.to * 5 + 2)) rfl) ?_
              refine Gx.valg rfl rfl rfl rfl rfl (val_load rfl Try.ty4 rfl rfl (cell_own (i := 2) (k := 0) rfl hpm1 rfl)) ?_
              refine Gx.valg rfl rfl rfl rfl rfl (val_not rfl rfl) ?_
              refine Gx.val rfl rfl rfl (val_pickT rfl rfl rfl) ?_
              refine Gx.done ?_
              refine Gx.thenN ?_
              refine Gx.bool rfl (fun h22 => ?_) (fun h22 => ?_)
              · refine Gx.seq ?_
                refine Gx.region ?_
                refine Gx.val rfl rfl rfl (val_move rfl rfl) ?_
                refine Gx.val rfl rfl rfl (val_nilCheck rfl rfl) ?_
                refine Gx.val rfl rfl rfl (Val.cast (val_fieldAddr rfl Try.underlying45 rfl Try.ty4 rfl rfl) (v' := ptr (sB pv) (sO pv + m.to * 5 + 2)) rfl) ?_
                refine Gx.eff0 rfl rfl (eff_storeEl (i := 2) (e' := (⟨pm1.mb, ⟨pm1.p.hl, pm1.p.ec, true, pm1.p.has, pm1.p.val⟩⟩ : Pm)) rfl Try.ty4 rfl rfl rfl rfl (k := 0) rfl FR_len hpm1 (by decide) (rfl) (l' := [Hp.own FR 5 pv (pms1.set m.to (⟨pm1.mb, ⟨pm1.p.hl, pm1.p.ec, true, pm1.p.has, pm1.p.val⟩⟩ : Pm)), Hp.map Try.prog 60 pairL vI pm1.mb pm1.p.hl, Hp.rec_ b2 [.int .i64 (((smN m.frm).val : Nat) : Int), .int .i64 (((smN m.what).val : Nat) : Int)], Hp.rec_ b1 [.int .i64 ((m.frm : Nat) : Int), .int .i64 ((m.to : Nat) : Int), .int .i64 ((m.what : Nat) : Int), .int .i64 m.n, .bool true], Hp.rec_ S [.int .i64 ((c.n : Nat) : Int), .int .i64 ((c.f : Nat) : Int), .int .u32 ((c.L : Nat) : Int), .int .i64 ((c.snd : Nat) : Int), av, pv, .bool s.st], Hp.own FG 5 av ((s.all).set at_ (⟨m.frm, m.to, m.what, m.n, true⟩ : Mg)), R, R3]) rfl) ?_
                rintro _ _ rfl
                refine Gx.done ?_
                refine Gx.thenN ?_
                refine Gx.region ?_
                refine Gx.val rfl rfl rfl (val_move rfl rfl) ?_
                refine Gx.val rfl rfl rfl (Val.cast (val_fieldAddr rfl Try.underlying48 rfl Try.ty3 rfl rfl) (v' := ptr b1 1) rfl) ?_
                refine Gx.val rfl rfl rfl (val_load rfl Try.ty3 rfl rfl (cell_rec (k := 3) rfl rfl)) ?_
                refine Gx.val rfl rfl rfl (Val.cast (val_fieldAddr rfl Try.underlying48 rfl Try.ty2 rfl rfl) (v' := ptr b1 3) rfl) ?_
                refine Gx.val rfl rfl rfl (val_load rfl Try.ty2 rfl rfl (cell_rec (k := 3) rfl rfl)) ?_
                refine Gx.eff rfl rfl rfl (eff_call (vs := [ptr S 0, .int .i64 ((m.to : Nat) : Int), .int .i64 3, .int .i64 m.n]) rfl Try.fn17 rfl (fun w H => send_any (s := ⟨(s.all.set at_ ⟨m.frm, m.to, m.what, m.n, true⟩), s.ps, s.st⟩) (what := 3) (x := m.n) hav (by dsimp only; rw [List.length_set]; exact hal) (by simp only [List.length_set]; omega) (H.at3 (k := 4) (k' := 4) (k'' := 0) rfl rfl rfl))) ?_
                rintro _ l23 ⟨bv, hbv, rfl, hl23⟩
                refine Gx.sepEq (l' := [Hp.rec_ S [.int .i64 ((c.n : Nat) : Int), .int .i64 ((c.f : Nat) : Int), .int .u32 ((c.L : Nat) : Int), .int .i64 ((c.snd : Nat) : Int), bv, pv, .bool s.st], Hp.own FG 5 bv ((s.all.set at_ ⟨m.frm, m.to, m.what, m.n, true⟩) ++ newM m.to 3 m.n (pms1.set m.to (⟨pm1.mb, ⟨pm1.p.hl, pm1.p.ec, true, pm1.p.has, pm1.p.val⟩⟩ : Pm)).length), Hp.own FR 5 pv (pms1.set m.to (⟨pm1.mb, ⟨pm1.p.hl, pm1.p.ec, true, pm1.p.has, pm1.p.val⟩⟩ : Pm)), Hp.map Try.prog 60 pairL vI pm1.mb pm1.p.hl, Hp.rec_ b2 [.int .i64 (((smN m.frm).val : Nat) : Int), .int .i64 (((smN m.what).val : Nat) : Int)], Hp.rec_ b1 [.int .i64 ((m.frm : Nat) : Int), .int .i64 ((m.to : Nat) : Int), .int .i64 ((m.what : Nat) : Int), .int .i64 m.n, .bool true], R, R3]) hl23 ?_
                refine Gx.done ?_
                refine Gx.endN ?_
                refine Gx.front 7 rfl ?_
                refine Gx.front 4 rfl ?_
                have hfl : (pms1.set m.to (⟨pm1.mb, ⟨pm1.p.hl, pm1.p.ec, true, pm1.p.has, pm1.p.val⟩⟩ : Pm)).length = s.ps.length := by simp only [List.length_set, hpl1, hpl]
                have hfx : pms1.set m.to (⟨pm1.mb, ⟨pm1.p.hl, pm1.p.ec, true, pm1.p.has, pm1.p.val⟩⟩ : Pm) = (pms.set m.to (⟨pm1.mb, ⟨pm1.p.hl, pm1.p.ec, true, pm1.p.has, pm1.p.val⟩⟩ : Pm)) := by simp only [hp1, List.set_set]
                refine Gx.sepEq (l' := [Hp.big rowH (pms.set m.to (⟨pm1.mb, ⟨pm1.p.hl, pm1.p.ec, true, pm1.p.has, pm1.p.val⟩⟩ : Pm)), Hp.rec_ S [.int .i64 ((c.n : Nat) : Int), .int .i64 ((c.f : Nat) : Int), .int .u32 ((c.L : Nat) : Int), .int .i64 ((c.snd : Nat) : Int), bv, pv, .bool s.st], Hp.own FG 5 bv ((s.all.set at_ ⟨m.frm, m.to, m.what, m.n, true⟩) ++ newM m.to 3 m.n (pms1.set m.to (⟨pm1.mb, ⟨pm1.p.hl, pm1.p.ec, true, pm1.p.has, pm1.p.val⟩⟩ : Pm)).length), Hp.own FR 5 pv (pms1.set m.to (⟨pm1.mb, ⟨pm1.p.hl, pm1.p.ec, true, pm1.p.has, pm1.p.val⟩⟩ : Pm)), Hp.rec_ b2 [.int .i64 (((smN m.frm).val : Nat) : Int), .int .i64 (((smN m.what).val : Nat) : Int)], Hp.rec_ b1 [.int .i64 ((m.frm : Nat) : Int), .int .i64 ((m.to : Nat) : Int), .int .i64 ((m.what : Nat) : Int), .int .i64 m.n, .bool true], R]) (by show Hp.map Try.prog 60 pairL vI pm1.mb pm1.p.hl * (R3 * _) = Hp.big rowH (pms.set m.to (⟨pm1.mb, ⟨pm1.p.hl, pm1.p.ec, true, pm1.p.has, pm1.p.val⟩⟩ : Pm)) * _; rw [hg5 (⟨pm1.mb, ⟨pm1.p.hl, pm1.p.ec, true, pm1.p.has, pm1.p.val⟩⟩ : Pm)]; show _ = (Hp.map Try.prog 60 pairL vI pm1.mb pm1.p.hl * R3) * _; simp only [Hp.mul_assoc] <;> rfl) ?_
                refine Gx.norm (l' := [Hp.big rowH (pms.set m.to (⟨pm1.mb, ⟨pm1.p.hl, pm1.p.ec, true, pm1.p.has, pm1.p.val⟩⟩ : Pm)), Hp.rec_ S [.int .i64 ((c.n : Nat) : Int), .int .i64 ((c.f : Nat) : Int), .int .u32 ((c.L : Nat) : Int), .int .i64 ((c.snd : Nat) : Int), bv, pv, .bool s.st], Hp.own FG 5 bv ((s.all.set at_ ⟨m.frm, m.to, m.what, m.n, true⟩) ++ newM m.to 3 m.n s.ps.length), Hp.own FR 5 pv (pms.set m.to (⟨pm1.mb, ⟨pm1.p.hl, pm1.p.ec, true, pm1.p.has, pm1.p.val⟩⟩ : Pm)), Hp.rec_ b2 [.int .i64 (((smN m.frm).val : Nat) : Int), .int .i64 (((smN m.what).val : Nat) : Int)], Hp.rec_ b1 [.int .i64 ((m.frm : Nat) : Int), .int .i64 ((m.to : Nat) : Int), .int .i64 ((m.what : Nat) : Int), .int .i64 m.n, .bool true], R]) (by rw [hfl, hfx] <;> rfl) ?_
                refine Gx.front 0 rfl ?_
                refine Gx.front 3 rfl ?_
                refine Gx.front 3 rfl ?_
                refine Gx.front 3 rfl ?_
                refine Gx.sat (l' := [worldH S c (⟨(s.all.set at_ ⟨m.frm, m.to, m.what, m.n, true⟩) ++ newM m.to 3 m.n s.ps.length, s.ps.set m.to (⟨pm1.mb, ⟨pm1.p.hl, pm1.p.ec, true, pm1.p.has, pm1.p.val⟩⟩ : Pm).p, s.st⟩ : BS), Hp.rec_ b2 [.int .i64 (((smN m.frm).val : Nat) : Int), .int .i64 (((smN m.what).val : Nat) : Int)], Hp.rec_ b1 [.int .i64 ((m.frm : Nat) : Int), .int .i64 ((m.to : Nat) : Int), .int .i64 ((m.what : Nat) : Int), .int .i64 m.n, .bool true], R]) (fun w H => (worldH.shut (S := S) (c := c) (s := (⟨(s.all.set at_ ⟨m.frm, m.to, m.what, m.n, true⟩) ++ newM m.to 3 m.n s.ps.length, s.ps.set m.to (⟨pm1.mb, ⟨pm1.p.hl, pm1.p.ec, true, pm1.p.has, pm1.p.val⟩⟩ : Pm).p, s.st⟩ : BS)) (pms := (pms.set m.to (⟨pm1.mb, ⟨pm1.p.hl, pm1.p.ec, true, pm1.p.has, pm1.p.val⟩⟩ : Pm))) (R := sep [Hp.rec_ b2 [.int .i64 (((smN m.frm).val : Nat) : Int), .int .i64 (((smN m.what).val : Nat) : Int)], Hp.rec_ b1 [.int .i64 ((m.frm : Nat) : Int), .int .i64 ((m.to : Nat) : Int), .int .i64 ((m.what : Nat) : Int), .int .i64 m.n, .bool true], R]) (by rw [List.map_set, hmap]) (H.cast (by rw [sep4R] <;> rfl))).cast (by rw [sep1] <;> rfl)) ?_
                refine Gx.drop 2 rfl ?_
                refine Gx.drop 1 rfl ?_
                refine Gx.norm (l' := [worldH S c (⟨(s.all.set at_ ⟨m.frm, m.to, m.what, m.n, true⟩) ++ newM m.to 3 m.n s.ps.length, s.ps.set m.to (⟨pm1.mb, ⟨pm1.p.hl, pm1.p.ec, true, pm1.p.has, pm1.p.val⟩⟩ : Pm).p, s.st⟩ : BS), R]) rfl ?_
                have hQ : Qeq pm.p pm1.p m := by unfold Qeq; rw [hpm1e]
                have hgot : gotB c pm.p m = ((⟨pm1.mb, ⟨pm1.p.hl, pm1.p.ec, true, pm1.p.has, pm1.p.val⟩⟩ : Pm).p, 3) := got_3tf hQ (by omega) (by omega) (by simpa using h22) (fun q => absurd q.1 (by omega))
                have hlf : liesB c.L m.to = false := by simpa using h6
                refine Gx.ret0 Try.results19 ?_
                exact ⟨rfl, by rw [come_got hm hrow hgm hlf hgot]; rw [if_neg (by decide)]; unfold sendB; simp only [List.length_set]; exact sep1 _ _⟩
              · refine Gx.skip ?_
                refine Gx.endN ?_
                refine Gx.front 7 rfl ?_
                refine Gx.front 2 rfl ?_
                have hfl : pms1.length = s.ps.length := by simp only [List.length_set, hpl1, hpl]
                have hfx : pms1 = (pms.set m.to pm1) := by simp only [hp1, List.set_set]
                refine Gx.sepEq (l' := [Hp.big rowH (pms.set m.to pm1), Hp.own FR 5 pv pms1, Hp.rec_ b2 [.int .i64 (((smN m.frm).val : Nat) : Int), .int .i64 (((smN m.what).val : Nat) : Int)], Hp.rec_ b1 [.int .i64 ((m.frm : Nat) : Int), .int .i64 ((m.to : Nat) : Int), .int .i64 ((m.what : Nat) : Int), .int .i64 m.n, .bool true], Hp.rec_ S [.int .i64 ((c.n : Nat) : Int), .int .i64 ((c.f : Nat) : Int), .int .u32 ((c.L : Nat) : Int), .int .i64 ((c.snd : Nat) : Int), av, pv, .bool s.st], Hp.own FG 5 av ((s.all).set at_ (⟨m.frm, m.to, m.what, m.n, true⟩ : Mg)), R]) (by show Hp.map Try.prog 60 pairL vI pm1.mb pm1.p.hl * (R3 * _) = Hp.big rowH (pms.set m.to pm1) * _; rw [hg5 pm1]; show _ = (Hp.map Try.prog 60 pairL vI pm1.mb pm1.p.hl * R3) * _; simp only [Hp.mul_assoc] <;> rfl) ?_
                refine Gx.norm (l' := [Hp.big rowH (pms.set m.to pm1), Hp.own FR 5 pv (pms.set m.to pm1), Hp.rec_ b2 [.int .i64 (((smN m.frm).val : Nat) : Int), .int .i64 (((smN m.what).val : Nat) : Int)], Hp.rec_ b1 [.int .i64 ((m.frm : Nat) : Int), .int .i64 ((m.to : Nat) : Int), .int .i64 ((m.what : Nat) : Int), .int .i64 m.n, .bool true], Hp.rec_ S [.int .i64 ((c.n : Nat) : Int), .int .i64 ((c.f : Nat) : Int), .int .u32 ((c.L : Nat) : Int), .int .i64 ((c.snd : Nat) : Int), av, pv, .bool s.st], Hp.own FG 5 av ((s.all).set at_ (⟨m.frm, m.to, m.what, m.n, true⟩ : Mg)), R]) (by rw [hfx] <;> rfl) ?_
                refine Gx.front 0 rfl ?_
                refine Gx.front 1 rfl ?_
                refine Gx.front 5 rfl ?_
                refine Gx.front 5 rfl ?_
                refine Gx.sat (l' := [worldH S c (⟨(s.all.set at_ ⟨m.frm, m.to, m.what, m.n, true⟩), s.ps.set m.to pm1.p, s.st⟩ : BS), Hp.rec_ b2 [.int .i64 (((smN m.frm).val : Nat) : Int), .int .i64 (((smN m.what).val : Nat) : Int)], Hp.rec_ b1 [.int .i64 ((m.frm : Nat) : Int), .int .i64 ((m.to : Nat) : Int), .int .i64 ((m.what : Nat) : Int), .int .i64 m.n, .bool true], R]) (fun w H => (worldH.shut (S := S) (c := c) (s := (⟨(s.all.set at_ ⟨m.frm, m.to, m.what, m.n, true⟩), s.ps.set m.to pm1.p, s.st⟩ : BS)) (pms := (pms.set m.to pm1)) (R := sep [Hp.rec_ b2 [.int .i64 (((smN m.frm).val : Nat) : Int), .int .i64 (((smN m.what).val : Nat) : Int)], Hp.rec_ b1 [.int .i64 ((m.frm : Nat) : Int), .int .i64 ((m.to : Nat) : Int), .int .i64 ((m.what : Nat) : Int), .int .i64 m.n, .bool true], R]) (by rw [List.map_set, hmap]) (H.cast (by rw [sep4R] <;> rfl))).cast (by rw [sep1] <;> rfl)) ?_
                refine Gx.drop 2 rfl ?_
                refine Gx.drop 1 rfl ?_
                refine Gx.norm (l' := [worldH S c (⟨(s.all.set at_ ⟨m.frm, m.to, m.what, m.n, true⟩), s.ps.set m.to pm1.p, s.st⟩ : BS), R]) rfl ?_
                have hQ : Qeq pm.p pm1.p m := by unfold Qeq; rw [hpm1e]
                have hgot : gotB c pm.p m = (pm1.p, 0) := got_3ff hQ (by omega) (fun q => by have h7 := q.2; have h8 := h22; rw [h7] at h8; simp at h8) (fun q => absurd q.1 (by omega))
                have hlf : liesB c.L m.to = false := by simpa using h6
                refine Gx.ret0 Try.results19 ?_
                exact ⟨rfl, by rw [come_got hm hrow hgm hlf hgot]; rw [if_pos rfl]; exact sep1 _ _⟩
            · refine Gx.skipg rfl rfl rfl rfl rfl rfl ?_
              refine Gx.skipg rfl rfl rfl rfl rfl rfl ?_
              refine Gx.skipg rfl rfl rfl rfl rfl rfl ?_
              refine Gx.skipg rfl rfl rfl rfl rfl rfl ?_
              refine Gx.skipg rfl rfl rfl rfl rfl rfl ?_
              refine Gx.val rfl rfl rfl (val_pickF rfl rfl rfl) ?_
              refine Gx.done ?_
              refine Gx.thenN ?_
              refine Gx.f rfl ?_
              refine Gx.skip ?_
              refine Gx.endN ?_
              refine Gx.front 7 rfl ?_
              refine Gx.front 2 rfl ?_
              have hfl : pms1.length = s.ps.length := by simp only [List.length_set, hpl1, hpl]
              have hfx : pms1 = (pms.set m.to pm1) := by simp only [hp1, List.set_set]
              refine Gx.sepEq (l' := [Hp.big rowH (pms.set m.to pm1), Hp.own FR 5 pv pms1, Hp.rec_ b2 [.int .i64 (((smN m.frm).val : Nat) : Int), .int .i64 (((smN m.what).val : Nat) : Int)], Hp.rec_ b1 [.int .i64 ((m.frm : Nat) : Int), .int .i64 ((m.to : Nat) : Int), .int .i64 ((m.what : Nat) : Int), .int .i64 m.n, .bool true], Hp.rec_ S [.int .i64 ((c.n : Nat) : Int), .int .i64 ((c.f : Nat) : Int), .int .u32 ((c.L : Nat) : Int), .int .i64 ((c.snd : Nat) : Int), av, pv, .bool s.st], Hp.own FG 5 av ((s.all).set at_ (⟨m.frm, m.to, m.what, m.n, true⟩ : Mg)), R]) (by show Hp.map Try.prog 60 pairL vI pm1.mb pm1.p.hl * (R3 * _) = Hp.big rowH (pms.set m.to pm1) * _; rw [hg5 pm1]; show _ = (Hp.map Try.prog 60 pairL vI pm1.mb pm1.p.hl * R3) * _; simp only [Hp.mul_assoc] <;> rfl) ?_
              refine Gx.norm (l' := [Hp.big rowH (pms.set m.to pm1), Hp.own FR 5 pv (pms.set m.to pm1), Hp.rec_ b2 [.int .i64 (((smN m.frm).val : Nat) : Int), .int .i64 (((smN m.what).val : Nat) : Int)], Hp.rec_ b1 [.int .i64 ((m.frm : Nat) : Int), .int .i64 ((m.to : Nat) : Int), .int .i64 ((m.what : Nat) : Int), .int .i64 m.n, .bool true], Hp.rec_ S [.int .i64 ((c.n : Nat) : Int), .int .i64 ((c.f : Nat) : Int), .int .u32 ((c.L : Nat) : Int), .int .i64 ((c.snd : Nat) : Int), av, pv, .bool s.st], Hp.own FG 5 av ((s.all).set at_ (⟨m.frm, m.to, m.what, m.n, true⟩ : Mg)), R]) (by rw [hfx] <;> rfl) ?_
              refine Gx.front 0 rfl ?_
              refine Gx.front 1 rfl ?_
              refine Gx.front 5 rfl ?_
              refine Gx.front 5 rfl ?_
              refine Gx.sat (l' := [worldH S c (⟨(s.all.set at_ ⟨m.frm, m.to, m.what, m.n, true⟩), s.ps.set m.to pm1.p, s.st⟩ : BS), Hp.rec_ b2 [.int .i64 (((smN m.frm).val : Nat) : Int), .int .i64 (((smN m.what).val : Nat) : Int)], Hp.rec_ b1 [.int .i64 ((m.frm : Nat) : Int), .int .i64 ((m.to : Nat) : Int), .int .i64 ((m.what : Nat) : Int), .int .i64 m.n, .bool true], R]) (fun w H => (worldH.shut (S := S) (c := c) (s := (⟨(s.all.set at_ ⟨m.frm, m.to, m.what, m.n, true⟩), s.ps.set m.to pm1.p, s.st⟩ : BS)) (pms := (pms.set m.to pm1)) (R := sep [Hp.rec_ b2 [.int .i64 (((smN m.frm).val : Nat) : Int), .int .i64 (((smN m.what).val : Nat) : Int)], Hp.rec_ b1 [.int .i64 ((m.frm : Nat) : Int), .int .i64 ((m.to : Nat) : Int), .int .i64 ((m.what : Nat) : Int), .int .i64 m.n, .bool true], R]) (by rw [List.map_set, hmap]) (H.cast (by rw [sep4R] <;> rfl))).cast (by rw [sep1] <;> rfl)) ?_
              refine Gx.drop 2 rfl ?_
              refine Gx.drop 1 rfl ?_
              refine Gx.norm (l' := [worldH S c (⟨(s.all.set at_ ⟨m.frm, m.to, m.what, m.n, true⟩), s.ps.set m.to pm1.p, s.st⟩ : BS), R]) rfl ?_
              have hQ : Qeq pm.p pm1.p m := by unfold Qeq; rw [hpm1e]
              have hgot : gotB c pm.p m = (pm1.p, 0) := got_3ff hQ (by omega) (fun q => absurd q.1 (by omega)) (fun q => absurd q.1 (by omega))
              have hlf : liesB c.L m.to = false := by simpa using h6
              refine Gx.ret0 Try.results19 ?_
              exact ⟨rfl, by rw [come_got hm hrow hgm hlf hgot]; rw [if_pos rfl]; exact sep1 _ _⟩
        · refine Gx.skip ?_
          refine Gx.thenN ?_
          refine Gx.seq ?_
          refine Gx.region ?_
          refine Gx.val rfl rfl rfl (val_move rfl rfl) ?_
          refine Gx.val rfl rfl rfl (val_move rfl rfl) ?_
          refine Gx.cases (t := 138) rfl (fun h24 => ?_) (fun h24 => ?_)
          · refine Gx.valg rfl rfl rfl rfl rfl (val_move rfl rfl) ?_
            refine Gx.valg rfl rfl rfl rfl rfl (val_nilCheck rfl rfl) ?_
            refine Gx.valg rfl rfl rfl rfl rfl (Val.cast (val_fieldAddr rfl Try.underlying45 rfl Try.ty4 rfl rfl) (v' := ptr (sB pv) (sO pv + m.to * 5 + 2)) rfl) ?_
            refine Gx.valg rfl rfl rfl rfl rfl (val_load rfl Try.ty4 rfl rfl (cell_own (i := 2) (k := 0) rfl hpm1 rfl)) ?_
            refine Gx.valg rfl rfl rfl rfl rfl (val_not rfl rfl) ?_
            refine Gx.val rfl rfl rfl (val_pickT rfl rfl rfl) ?_
            refine Gx.done ?_
            refine Gx.thenN ?_
            refine Gx.bool rfl (fun h25 => ?_) (fun h25 => ?_)
            · refine Gx.seq ?_
              refine Gx.region ?_
              refine Gx.val rfl rfl rfl (val_move rfl rfl) ?_
              refine Gx.val rfl rfl rfl (val_nilCheck rfl rfl) ?_
              refine Gx.val rfl rfl rfl (Val.cast (val_fieldAddr rfl Try.underlying45 rfl Try.ty4 rfl rfl) (v' := ptr (sB pv) (sO pv + m.to * 5 + 2)) rfl) ?_
              refine Gx.eff0 rfl rfl (eff_storeEl (i := 2) (e' := (⟨pm1.mb, ⟨pm1.p.hl, pm1.p.ec, true, pm1.p.has, pm1.p.val⟩⟩ : Pm)) rfl Try.ty4 rfl rfl rfl rfl (k := 0) rfl FR_len hpm1 (by decide) (rfl) (l' := [Hp.own FR 5 pv (pms1.set m.to (⟨pm1.mb, ⟨pm1.p.hl, pm1.p.ec, true, pm1.p.has, pm1.p.val⟩⟩ : Pm)), Hp.map Try.prog 60 pairL vI pm1.mb pm1.p.hl, Hp.rec_ b2 [.int .i64 (((smN m.frm).val : Nat) : Int), .int .i64 (((smN m.what).val : Nat) : Int)], Hp.rec_ b1 [.int .i64 ((m.frm : Nat) : Int), .int .i64 ((m.to : Nat) : Int), .int .i64 ((m.what : Nat) : Int), .int .i64 m.n, .bool true], Hp.rec_ S [.int .i64 ((c.n : Nat) : Int), .int .i64 ((c.f : Nat) : Int), .int .u32 ((c.L : Nat) : Int), .int .i64 ((c.snd : Nat) : Int), av, pv, .bool s.st], Hp.own FG 5 av ((s.all).set at_ (⟨m.frm, m.to, m.what, m.n, true⟩ : Mg)), R, R3]) rfl) ?_
              rintro _ _ rfl
              refine Gx.done ?_
              refine Gx.thenN ?_
              refine Gx.region ?_
              refine Gx.val rfl rfl rfl (val_move rfl rfl) ?_
              refine Gx.val rfl rfl rfl (Val.cast (val_fieldAddr rfl Try.underlying48 rfl Try.ty3 rfl rfl) (v' := ptr b1 1) rfl) ?_
              refine Gx.val rfl rfl rfl (val_load rfl Try.ty3 rfl rfl (cell_rec (k := 3) rfl rfl)) ?_
              refine Gx.val rfl rfl rfl (Val.cast (val_fieldAddr rfl Try.underlying48 rfl Try.ty2 rfl rfl) (v' := ptr b1 3) rfl) ?_
              refine Gx.val rfl rfl rfl (val_load rfl Try.ty2 rfl rfl (cell_rec (k := 3) rfl rfl)) ?_
              refine Gx.eff rfl rfl rfl (eff_call (vs := [ptr S 0, .int .i64 ((m.to : Nat) : Int), .int .i64 3, .int .i64 m.n]) rfl Try.fn17 rfl (fun w H => send_any (s := ⟨(s.all.set at_ ⟨m.frm, m.to, m.what, m.n, true⟩), s.ps, s.st⟩) (what := 3) (x := m.n) hav (by dsimp only; rw [List.length_set]; exact hal) (by simp only [List.length_set]; omega) (H.at3 (k := 4) (k' := 4) (k'' := 0) rfl rfl rfl))) ?_
              rintro _ l26 ⟨bv, hbv, rfl, hl26⟩
              refine Gx.sepEq (l' := [Hp.rec_ S [.int .i64 ((c.n : Nat) : Int), .int .i64 ((c.f : Nat) : Int), .int .u32 ((c.L : Nat) : Int), .int .i64 ((c.snd : Nat) : Int), bv, pv, .bool s.st], Hp.own FG 5 bv ((s.all.set at_ ⟨m.frm, m.to, m.what, m.n, true⟩) ++ newM m.to 3 m.n (pms1.set m.to (⟨pm1.mb, ⟨pm1.p.hl, pm1.p.ec, true, pm1.p.has, pm1.p.val⟩⟩ : Pm)).length), Hp.own FR 5 pv (pms1.set m.to (⟨pm1.mb, ⟨pm1.p.hl, pm1.p.ec, true, pm1.p.has, pm1.p.val⟩⟩ : Pm)), Hp.map Try.prog 60 pairL vI pm1.mb pm1.p.hl, Hp.rec_ b2 [.int .i64 (((smN m.frm).val : Nat) : Int), .int .i64 (((smN m.what).val : Nat) : Int)], Hp.rec_ b1 [.int .i64 ((m.frm : Nat) : Int), .int .i64 ((m.to : Nat) : Int), .int .i64 ((m.what : Nat) : Int), .int .i64 m.n, .bool true], R, R3]) hl26 ?_
              refine Gx.done ?_
              refine Gx.endN ?_
              refine Gx.front 7 rfl ?_
              refine Gx.front 4 rfl ?_
              have hfl : (pms1.set m.to (⟨pm1.mb, ⟨pm1.p.hl, pm1.p.ec, true, pm1.p.has, pm1.p.val⟩⟩ : Pm)).length = s.ps.length := by simp only [List.length_set, hpl1, hpl]
              have hfx : pms1.set m.to (⟨pm1.mb, ⟨pm1.p.hl, pm1.p.ec, true, pm1.p.has, pm1.p.val⟩⟩ : Pm) = (pms.set m.to (⟨pm1.mb, ⟨pm1.p.hl, pm1.p.ec, true, pm1.p.has, pm1.p.val⟩⟩ : Pm)) := by simp only [hp1, List.set_set]
              refine Gx.sepEq (l' := [Hp.big rowH (pms.set m.to (⟨pm1.mb, ⟨pm1.p.hl, pm1.p.ec, true, pm1.p.has, pm1.p.val⟩⟩ : Pm)), Hp.rec_ S [.int .i64 ((c.n : Nat) : Int), .int .i64 ((c.f : Nat) : Int), .int .u32 ((c.L : Nat) : Int), .int .i64 ((c.snd : Nat) : Int), bv, pv, .bool s.st], Hp.own FG 5 bv ((s.all.set at_ ⟨m.frm, m.to, m.what, m.n, true⟩) ++ newM m.to 3 m.n (pms1.set m.to (⟨pm1.mb, ⟨pm1.p.hl, pm1.p.ec, true, pm1.p.has, pm1.p.val⟩⟩ : Pm)).length), Hp.own FR 5 pv (pms1.set m.to (⟨pm1.mb, ⟨pm1.p.hl, pm1.p.ec, true, pm1.p.has, pm1.p.val⟩⟩ : Pm)), Hp.rec_ b2 [.int .i64 (((smN m.frm).val : Nat) : Int), .int .i64 (((smN m.what).val : Nat) : Int)], Hp.rec_ b1 [.int .i64 ((m.frm : Nat) : Int), .int .i64 ((m.to : Nat) : Int), .int .i64 ((m.what : Nat) : Int), .int .i64 m.n, .bool true], R]) (by show Hp.map Try.prog 60 pairL vI pm1.mb pm1.p.hl * (R3 * _) = Hp.big rowH (pms.set m.to (⟨pm1.mb, ⟨pm1.p.hl, pm1.p.ec, true, pm1.p.has, pm1.p.val⟩⟩ : Pm)) * _; rw [hg5 (⟨pm1.mb, ⟨pm1.p.hl, pm1.p.ec, true, pm1.p.has, pm1.p.val⟩⟩ : Pm)]; show _ = (Hp.map Try.prog 60 pairL vI pm1.mb pm1.p.hl * R3) * _; simp only [Hp.mul_assoc] <;> rfl) ?_
              refine Gx.norm (l' := [Hp.big rowH (pms.set m.to (⟨pm1.mb, ⟨pm1.p.hl, pm1.p.ec, true, pm1.p.has, pm1.p.val⟩⟩ : Pm)), Hp.rec_ S [.int .i64 ((c.n : Nat) : Int), .int .i64 ((c.f : Nat) : Int), .int .u32 ((c.L : Nat) : Int), .int .i64 ((c.snd : Nat) : Int), bv, pv, .bool s.st], Hp.own FG 5 bv ((s.all.set at_ ⟨m.frm, m.to, m.what, m.n, true⟩) ++ newM m.to 3 m.n s.ps.length), Hp.own FR 5 pv (pms.set m.to (⟨pm1.mb, ⟨pm1.p.hl, pm1.p.ec, true, pm1.p.has, pm1.p.val⟩⟩ : Pm)), Hp.rec_ b2 [.int .i64 (((smN m.frm).val : Nat) : Int), .int .i64 (((smN m.what).val : Nat) : Int)], Hp.rec_ b1 [.int .i64 ((m.frm : Nat) : Int), .int .i64 ((m.to : Nat) : Int), .int .i64 ((m.what : Nat) : Int), .int .i64 m.n, .bool true], R]) (by rw [hfl, hfx] <;> rfl) ?_
              refine Gx.front 0 rfl ?_
              refine Gx.front 3 rfl ?_
              refine Gx.front 3 rfl ?_
              refine Gx.front 3 rfl ?_
              refine Gx.sat (l' := [worldH S c (⟨(s.all.set at_ ⟨m.frm, m.to, m.what, m.n, true⟩) ++ newM m.to 3 m.n s.ps.length, s.ps.set m.to (⟨pm1.mb, ⟨pm1.p.hl, pm1.p.ec, true, pm1.p.has, pm1.p.val⟩⟩ : Pm).p, s.st⟩ : BS), Hp.rec_ b2 [.int .i64 (((smN m.frm).val : Nat) : Int), .int .i64 (((smN m.what).val : Nat) : Int)], Hp.rec_ b1 [.int .i64 ((m.frm : Nat) : Int), .int .i64 ((m.to : Nat) : Int), .int .i64 ((m.what : Nat) : Int), .int .i64 m.n, .bool true], R]) (fun w H => (worldH.shut (S := S) (c := c) (s := (⟨(s.all.set at_ ⟨m.frm, m.to, m.what, m.n, true⟩) ++ newM m.to 3 m.n s.ps.length, s.ps.set m.to (⟨pm1.mb, ⟨pm1.p.hl, pm1.p.ec, true, pm1.p.has, pm1.p.val⟩⟩ : Pm).p, s.st⟩ : BS)) (pms := (pms.set m.to (⟨pm1.mb, ⟨pm1.p.hl, pm1.p.ec, true, pm1.p.has, pm1.p.val⟩⟩ : Pm))) (R := sep [Hp.rec_ b2 [.int .i64 (((smN m.frm).val : Nat) : Int), .int .i64 (((smN m.what).val : Nat) : Int)], Hp.rec_ b1 [.int .i64 ((m.frm : Nat) : Int), .int .i64 ((m.to : Nat) : Int), .int .i64 ((m.what : Nat) : Int), .int .i64 m.n, .bool true], R]) (by rw [List.map_set, hmap]) (H.cast (by rw [sep4R] <;> rfl))).cast (by rw [sep1] <;> rfl)) ?_
              refine Gx.drop 2 rfl ?_
              refine Gx.drop 1 rfl ?_
              refine Gx.norm (l' := [worldH S c (⟨(s.all.set at_ ⟨m.frm, m.to, m.what, m.n, true⟩) ++ newM m.to 3 m.n s.ps.length, s.ps.set m.to (⟨pm1.mb, ⟨pm1.p.hl, pm1.p.ec, true, pm1.p.has, pm1.p.val⟩⟩ : Pm).p, s.st⟩ : BS), R]) rfl ?_
              have hQ : Qeq pm.p pm1.p m := by unfold Qeq; rw [hpm1e]
              have hgot : gotB c pm.p m = ((⟨pm1.mb, ⟨pm1.p.hl, pm1.p.ec, true, pm1.p.has, pm1.p.val⟩⟩ : Pm).p, 3) := got_2t hQ (by omega) (by omega) (by omega) (by simpa using h25)
              have hlf : liesB c.L m.to = false := by simpa using h6
              refine Gx.ret0 Try.results19 ?_
              exact ⟨rfl, by rw [come_got hm hrow hgm hlf hgot]; rw [if_neg (by decide)]; unfold sendB; simp only [List.length_set]; exact sep1 _ _⟩
            · refine Gx.skip ?_
              refine Gx.endN ?_
              refine Gx.front 7 rfl ?_
              refine Gx.front 2 rfl ?_
              have hfl : pms1.length = s.ps.length := by simp only [List.length_set, hpl1, hpl]
              have hfx : pms1 = (pms.set m.to pm1) := by simp only [hp1, List.set_set]
              refine Gx.sepEq (l' := [Hp.big rowH (pms.set m.to pm1), Hp.own FR 5 pv pms1, Hp.rec_ b2 [.int .i64 (((smN m.frm).val : Nat) : Int), .int .i64 (((smN m.what).val : Nat) : Int)], Hp.rec_ b1 [.int .i64 ((m.frm : Nat) : Int), .int .i64 ((m.to : Nat) : Int), .int .i64 ((m.what : Nat) : Int), .int .i64 m.n, .bool true], Hp.rec_ S [.int .i64 ((c.n : Nat) : Int), .int .i64 ((c.f : Nat) : Int), .int .u32 ((c.L : Nat) : Int), .int .i64 ((c.snd : Nat) : Int), av, pv, .bool s.st], Hp.own FG 5 av ((s.all).set at_ (⟨m.frm, m.to, m.what, m.n, true⟩ : Mg)), R]) (by show Hp.map Try.prog 60 pairL vI pm1.mb pm1.p.hl * (R3 * _) = Hp.big rowH (pms.set m.to pm1) * _; rw [hg5 pm1]; show _ = (Hp.map Try.prog 60 pairL vI pm1.mb pm1.p.hl * R3) * _; simp only [Hp.mul_assoc] <;> rfl) ?_
              refine Gx.norm (l' := [Hp.big rowH (pms.set m.to pm1), Hp.own FR 5 pv (pms.set m.to pm1), Hp.rec_ b2 [.int .i64 (((smN m.frm).val : Nat) : Int), .int .i64 (((smN m.what).val : Nat) : Int)], Hp.rec_ b1 [.int .i64 ((m.frm : Nat) : Int), .int .i64 ((m.to : Nat) : Int), .int .i64 ((m.what : Nat) : Int), .int .i64 m.n, .bool true], Hp.rec_ S [.int .i64 ((c.n : Nat) : Int), .int .i64 ((c.f : Nat) : Int), .int .u32 ((c.L : Nat) : Int), .int .i64 ((c.snd : Nat) : Int), av, pv, .bool s.st], Hp.own FG 5 av ((s.all).set at_ (⟨m.frm, m.to, m.what, m.n, true⟩ : Mg)), R]) (by rw [hfx] <;> rfl) ?_
              refine Gx.front 0 rfl ?_
              refine Gx.front 1 rfl ?_
              refine Gx.front 5 rfl ?_
              refine Gx.front 5 rfl ?_
              refine Gx.sat (l' := [worldH S c (⟨(s.all.set at_ ⟨m.frm, m.to, m.what, m.n, true⟩), s.ps.set m.to pm1.p, s.st⟩ : BS), Hp.rec_ b2 [.int .i64 (((smN m.frm).val : Nat) : Int), .int .i64 (((smN m.what).val : Nat) : Int)], Hp.rec_ b1 [.int .i64 ((m.frm : Nat) : Int), .int .i64 ((m.to : Nat) : Int), .int .i64 ((m.what : Nat) : Int), .int .i64 m.n, .bool true], R]) (fun w H => (worldH.shut (S := S) (c := c) (s := (⟨(s.all.set at_ ⟨m.frm, m.to, m.what, m.n, true⟩), s.ps.set m.to pm1.p, s.st⟩ : BS)) (pms := (pms.set m.to pm1)) (R := sep [Hp.rec_ b2 [.int .i64 (((smN m.frm).val : Nat) : Int), .int .i64 (((smN m.what).val : Nat) : Int)], Hp.rec_ b1 [.int .i64 ((m.frm : Nat) : Int), .int .i64 ((m.to : Nat) : Int), .int .i64 ((m.what : Nat) : Int), .int .i64 m.n, .bool true], R]) (by rw [List.map_set, hmap]) (H.cast (by rw [sep4R] <;> rfl))).cast (by rw [sep1] <;> rfl)) ?_
              refine Gx.drop 2 rfl ?_
              refine Gx.drop 1 rfl ?_
              refine Gx.norm (l' := [worldH S c (⟨(s.all.set at_ ⟨m.frm, m.to, m.what, m.n, true⟩), s.ps.set m.to pm1.p, s.st⟩ : BS), R]) rfl ?_
              have hQ : Qeq pm.p pm1.p m := by unfold Qeq; rw [hpm1e]
              have hgot : gotB c pm.p m = (pm1.p, 0) := got_2f hQ (by omega) (by omega) (fun q => by have h7 := q.2; have h8 := h25; rw [h7] at h8; simp at h8)
              have hlf : liesB c.L m.to = false := by simpa using h6
              refine Gx.ret0 Try.results19 ?_
              exact ⟨rfl, by rw [come_got hm hrow hgm hlf hgot]; rw [if_pos rfl]; exact sep1 _ _⟩
          · refine Gx.skipg rfl rfl rfl rfl rfl rfl ?_
            refine Gx.skipg rfl rfl rfl rfl rfl rfl ?_
            refine Gx.skipg rfl rfl rfl rfl rfl rfl ?_
            refine Gx.skipg rfl rfl rfl rfl rfl rfl ?_
            refine Gx.skipg rfl rfl rfl rfl rfl rfl ?_
            refine Gx.val rfl rfl rfl (val_pickF rfl rfl rfl) ?_
            refine Gx.done ?_
            refine Gx.thenN ?_
            refine Gx.f rfl ?_
            refine Gx.skip ?_
            refine Gx.endN ?_
            refine Gx.front 7 rfl ?_
            refine Gx.front 2 rfl ?_
            have hfl : pms1.length = s.ps.length := by simp only [List.length_set, hpl1, hpl]
            have hfx : pms1 = (pms.set m.to pm1) := by simp only [hp1, List.set_set]
            refine Gx.sepEq (l' := [Hp.big rowH (pms.set m.to pm1), Hp.own FR 5 pv pms1, Hp.rec_ b2 [.int .i64 (((smN m.frm).val : Nat) : Int), .int .i64 (((smN m.what).val : Nat) : Int)], Hp.rec_ b1 [.int .i64 ((m.frm : Nat) : Int), .int .i64 ((m.to : Nat) : Int), .int .i64 ((m.what : Nat) : Int), .int .i64 m.n, .bool true], Hp.rec_ S [.int .i64 ((c.n : Nat) : Int), .int .i64 ((c.f : Nat) : Int), .int .u32 ((c.L : Nat) : Int), .int .i64 ((c.snd : Nat) : Int), av, pv, .bool s.st], Hp.own FG 5 av ((s.all).set at_ (⟨m.frm, m.to, m.what, m.n, true⟩ : Mg)), R]) (by show Hp.map Try.prog 60 pairL vI pm1.mb pm1.p.hl * (R3 * _) = Hp.big rowH (pms.set m.to pm1) * _; rw [hg5 pm1]; show _ = (Hp.map Try.prog 60 pairL vI pm1.mb pm1.p.hl * R3) * _; simp only [Hp.mul_assoc] <;> rfl) ?_
            refine Gx.norm (l' := [Hp.big rowH (pms.set m.to pm1), Hp.own FR 5 pv (pms.set m.to pm1), Hp.rec_ b2 [.int .i64 (((smN m.frm).val : Nat) : Int), .int .i64 (((smN m.what).val : Nat) : Int)], Hp.rec_ b1 [.int .i64 ((m.frm : Nat) : Int), .int .i64 ((m.to : Nat) : Int), .int .i64 ((m.what : Nat) : Int), .int .i64 m.n, .bool true], Hp.rec_ S [.int .i64 ((c.n : Nat) : Int), .int .i64 ((c.f : Nat) : Int), .int .u32 ((c.L : Nat) : Int), .int .i64 ((c.snd : Nat) : Int), av, pv, .bool s.st], Hp.own FG 5 av ((s.all).set at_ (⟨m.frm, m.to, m.what, m.n, true⟩ : Mg)), R]) (by rw [hfx] <;> rfl) ?_
            refine Gx.front 0 rfl ?_
            refine Gx.front 1 rfl ?_
            refine Gx.front 5 rfl ?_
            refine Gx.front 5 rfl ?_
            refine Gx.sat (l' := [worldH S c (⟨(s.all.set at_ ⟨m.frm, m.to, m.what, m.n, true⟩), s.ps.set m.to pm1.p, s.st⟩ : BS), Hp.rec_ b2 [.int .i64 (((smN m.frm).val : Nat) : Int), .int .i64 (((smN m.what).val : Nat) : Int)], Hp.rec_ b1 [.int .i64 ((m.frm : Nat) : Int), .int .i64 ((m.to : Nat) : Int), .int .i64 ((m.what : Nat) : Int), .int .i64 m.n, .bool true], R]) (fun w H => (worldH.shut (S := S) (c := c) (s := (⟨(s.all.set at_ ⟨m.frm, m.to, m.what, m.n, true⟩), s.ps.set m.to pm1.p, s.st⟩ : BS)) (pms := (pms.set m.to pm1)) (R := sep [Hp.rec_ b2 [.int .i64 (((smN m.frm).val : Nat) : Int), .int .i64 (((smN m.what).val : Nat) : Int)], Hp.rec_ b1 [.int .i64 ((m.frm : Nat) : Int), .int .i64 ((m.to : Nat) : Int), .int .i64 ((m.what : Nat) : Int), .int .i64 m.n, .bool true], R]) (by rw [List.map_set, hmap]) (H.cast (by rw [sep4R] <;> rfl))).cast (by rw [sep1] <;> rfl)) ?_
            refine Gx.drop 2 rfl ?_
            refine Gx.drop 1 rfl ?_
            refine Gx.norm (l' := [worldH S c (⟨(s.all.set at_ ⟨m.frm, m.to, m.what, m.n, true⟩), s.ps.set m.to pm1.p, s.st⟩ : BS), R]) rfl ?_
            have hQ : Qeq pm.p pm1.p m := by unfold Qeq; rw [hpm1e]
            have hgot : gotB c pm.p m = (pm1.p, 0) := got_2f hQ (by omega) (by omega) (fun q => absurd q.1 (by omega))
            have hlf : liesB c.L m.to = false := by simpa using h6
            refine Gx.ret0 Try.results19 ?_
            exact ⟨rfl, by rw [come_got hm hrow hgm hlf hgot]; rw [if_pos rfl]; exact sep1 _ _⟩
  · refine Gx.regionQ Try.mixed (by kernel_rfl) ?_
    refine Gq.val rfl rfl rfl (val_move rfl rfl) ?_
    refine Gq.val rfl rfl rfl (val_nilCheck rfl rfl) ?_
    refine Gq.val rfl rfl rfl (Val.cast (val_fieldAddr rfl Try.underlying45 rfl Try.ty43 rfl rfl) (v' := ptr (sB pv) (sO pv + m.to * 5)) rfl) ?_
    refine Gq.val rfl rfl rfl (val_load rfl Try.ty43 rfl rfl (cell_own (i := 0) (k := 4) rfl hpm rfl)) ?_
    refine Gq.val rfl rfl rfl (Val.cast (val_loadA rfl Try.ty60 rfl rfl rfl (cells_rec (k := 0) rfl)) (v' := .agg #[.int .i64 (((smN m.frm).val : Nat) : Int), .int .i64 (((smN m.what).val : Nat) : Int)]) rfl) ?_
    refine Gq.val rfl rfl rfl (val_lookupS rfl Try.underlying43 Try.kP Try.ty2 rfl rfl (i := (smN m.frm, smN m.what)) (trivial) (k := 5) rfl (hgm)) ?_
    refine Gq.val rfl rfl rfl (val_move rfl rfl) ?_
    refine Gq.val rfl rfl rfl (val_extract rfl rfl rfl) ?_
    refine Gq.val rfl rfl rfl (val_extract rfl rfl rfl) ?_
    refine Gq.val rfl rfl rfl (val_assign rfl rfl) ?_
    refine Gq.val rfl rfl rfl (val_assign rfl rfl) ?_
    refine Gq.done ?_
    refine Gx.thenN ?_
    refine Gx.seq ?_
    refine Gx.region ?_
    refine Gx.val rfl rfl rfl (val_move rfl rfl) ?_
    refine Gx.val rfl rfl rfl (val_move rfl rfl) ?_
    refine Gx.skipg rfl rfl rfl rfl rfl rfl ?_
    refine Gx.skipg rfl rfl rfl rfl rfl rfl ?_
    refine Gx.skipg rfl rfl rfl rfl rfl rfl ?_
    refine Gx.skipg rfl rfl rfl rfl rfl rfl ?_
    refine Gx.val rfl rfl rfl (val_pickT rfl rfl rfl) ?_
    refine Gx.done ?_
    refine Gx.thenN ?_
    refine Gx.t rfl ?_
    refine Gx.ret ?_
    refine Gx.thenR ?_
    refine Gx.front 7 rfl ?_
    refine Gx.front 6 rfl ?_
    refine Gx.sepEq (l' := [Hp.big rowH pms, Hp.rec_ b2 [.int .i64 (((smN m.frm).val : Nat) : Int), .int .i64 (((smN m.what).val : Nat) : Int)], Hp.rec_ b1 [.int .i64 ((m.frm : Nat) : Int), .int .i64 ((m.to : Nat) : Int), .int .i64 ((m.what : Nat) : Int), .int .i64 m.n, .bool true], Hp.rec_ S [.int .i64 ((c.n : Nat) : Int), .int .i64 ((c.f : Nat) : Int), .int .u32 ((c.L : Nat) : Int), .int .i64 ((c.snd : Nat) : Int), av, pv, .bool s.st], Hp.own FG 5 av ((s.all).set at_ (⟨m.frm, m.to, m.what, m.n, true⟩ : Mg)), Hp.own FR 5 pv pms, R]) (by show Hp.map Try.prog 60 pairL vI pm.mb pm.p.hl * (R3 * _) = Hp.big rowH pms * _; rw [hf4]; show _ = (Hp.map Try.prog 60 pairL vI pm.mb pm.p.hl * R3) * _; simp only [Hp.mul_assoc] <;> rfl) ?_
    refine Gx.front 0 rfl ?_
    refine Gx.front 5 rfl ?_
    refine Gx.front 5 rfl ?_
    refine Gx.front 5 rfl ?_
    refine Gx.sat (l' := [worldH S c (⟨(s.all.set at_ ⟨m.frm, m.to, m.what, m.n, true⟩), s.ps, s.st⟩ : BS), Hp.rec_ b2 [.int .i64 (((smN m.frm).val : Nat) : Int), .int .i64 (((smN m.what).val : Nat) : Int)], Hp.rec_ b1 [.int .i64 ((m.frm : Nat) : Int), .int .i64 ((m.to : Nat) : Int), .int .i64 ((m.what : Nat) : Int), .int .i64 m.n, .bool true], R]) (fun w H => (worldH.shut (S := S) (c := c) (s := (⟨(s.all.set at_ ⟨m.frm, m.to, m.what, m.n, true⟩), s.ps, s.st⟩ : BS)) (pms := pms) (R := sep [Hp.rec_ b2 [.int .i64 (((smN m.frm).val : Nat) : Int), .int .i64 (((smN m.what).val : Nat) : Int)], Hp.rec_ b1 [.int .i64 ((m.frm : Nat) : Int), .int .i64 ((m.to : Nat) : Int), .int .i64 ((m.what : Nat) : Int), .int .i64 m.n, .bool true], R]) (hmap) (H.cast (by rw [sep4R] <;> rfl))).cast (by rw [sep1] <;> rfl)) ?_
    refine Gx.drop 2 rfl ?_
    refine Gx.drop 1 rfl ?_
    refine Gx.norm (l' := [worldH S c (⟨(s.all.set at_ ⟨m.frm, m.to, m.what, m.n, true⟩), s.ps, s.st⟩ : BS), R]) rfl ?_
    refine Gx.ret0 Try.results19 ?_
    exact ⟨rfl, by rw [come_skip hm hrow (.inl (by rw [hgm]; simp))]; exact sep1 _ _⟩

end Go.Proofs.Ytbfcfekpfgpfbaa
