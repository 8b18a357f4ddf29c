/- A step of the machine: the walk. No condition. -/
import Derived.Test.YtgnpngiecnkfiaaA3
namespace Go.Proofs.Ytgnpngiecnkfiaa
open Go.RowKit
set_option linter.unusedVariables false
set_option linter.unusedSimpArgs false
set_option maxRecDepth 100000

structure Cm where
  kind : Int
  who : Int
  other : Int
abbrev FC (c : Cm) : List Value := [.int .i64 c.kind, .int .i64 c.who, .int .i64 c.other]
theorem FC_len (c : Cm) : (FC c).length = 3 := rfl
def smI (x : Int) : Sm := ⟨x.toNat % 2048, Nat.mod_lt _ (by decide)⟩
theorem smI_of {x : Int} (h0 : 0 ≤ x) (h1 : x < 2048) : x = ((smI x).val : Int) := by unfold smI; dsimp only; omega
def stepQ (n : Nat) (s : QS) (c : Cm) : Int × QS :=
  if c.kind < 1 ∨ 4 < c.kind then (4, s)
  else if isB n c.who = false ∨ (c.kind ≠ 3 ∧ (isB n c.other = false ∨ c.other = c.who)) then (2, s)
  else ((doesQ s c.kind (smI c.who) (smI c.other)).1, if (doesQ s c.kind (smI c.who) (smI c.other)).1 = 0 then settleQ (doesQ s c.kind (smI c.who) (smI c.other)).2 (smI c.who) else (doesQ s c.kind (smI c.who) (smI c.other)).2)
theorem Sat.at4 {W w : World} {l : List Hp} (H : Sat W w (sep l)) {k k1 k2 k3 : Nat} {p q r s : Hp} (h : l[k]? = some p) (h1 : (l.eraseIdx k)[k1]? = some q) (h2 : ((l.eraseIdx k).eraseIdx k1)[k2]? = some r) (h3 : (((l.eraseIdx k).eraseIdx k1).eraseIdx k2)[k3]? = some s) : Sat W w (p * (q * (r * (s * sep ((((l.eraseIdx k).eraseIdx k1).eraseIdx k2).eraseIdx k3))))) := (H.at3 h h1 h2).cast (by rw [(sep_focus _ _ _ h3).1])
theorem own_form {W w : World} {α : Type} {f : α → List Value} {sz : Nat} {v : Value} {xs : List α} {R : Hp} (H : Sat W w (Hp.own f sz v xs * R)) : ∃ a c, v = .slice a xs.length c := by
  obtain ⟨a, c, e, _⟩ := H.ows.form; exact ⟨a, c, e⟩
theorem isB_yes {n i : Nat} (h : i < n) : isB n (i : Int) = true := by unfold isB; simp; omega
theorem step_kind {W w : World} {S : Nat} {s : QS} {R : Hp} {k x o : Int} (hk : k < 1 ∨ 4 < k) (H : Sat W w (qH S s * R)) :
    Calls Try.prog 9 #[ptr S 0, .agg #[.int .i64 k, .int .i64 x, .int .i64 o]] w (Ret W fun v l => v = .int .i64 4 ∧ sep l = qH S s * R) := by
  obtain ⟨pv, mc, ma, H⟩ := qH.open_ H
  obtain ⟨ap, cp, rfl⟩ := own_form (show Sat W w (Hp.own FP 4 pv s.ps * (_ * (mapN mc s.ca * (mapN ma s.an * R)))) from H.sw)
  refine Gx.enter (l := [Hp.rec_ S [.slice ap s.ps.length cp, .map (some mc), .map (some ma), .bool s.dn], Hp.own FP 4 (.slice ap s.ps.length cp) s.ps, Hp.map Try.prog 45 pairL vN mc s.ca, Hp.map Try.prog 45 pairL vN ma s.an, R]) Try.func9 rfl Try.ntmps9 rfl (H.frame4) ?_
  refine Gx.know (m' := [(0, ptr S 0), (1, .agg #[.int .i64 k, .int .i64 x, .int .i64 o])]) (.cons rfl (.cons rfl .nil)) ?_
  refine Gx.seq ?_
  refine Gx.region ?_
  refine Gx.eff rfl rfl rfl (eff_box rfl rfl (vs := [ptr S 0]) rfl) ?_
  rintro _ _ ⟨b1, rfl, rfl⟩
  refine Gx.eff rfl rfl rfl (eff_box rfl rfl (vs := [.int .i64 k, .int .i64 x, .int .i64 o]) rfl) ?_
  rintro _ _ ⟨b2, rfl, rfl⟩
  refine Gx.val rfl rfl rfl (val_assign rfl rfl) ?_
  refine Gx.done ?_
  refine Gx.thenN ?_
  refine Gx.seq ?_
  refine Gx.region ?_
  refine Gx.val rfl rfl rfl (Val.cast (val_makeFunc (us := []) (vs := [ptr b1 0]) rfl rfl rfl) (v' := .func (.func 10) #[] #[ptr b1 0]) rfl) ?_
  refine Gx.val rfl rfl rfl (val_assign rfl rfl) ?_
  refine Gx.done ?_
  refine Gx.thenN ?_
  refine Gx.seq ?_
  refine Gx.seq ?_
  refine Gx.region ?_
  refine Gx.val rfl rfl rfl (Val.cast (val_fieldAddr rfl Try.underlying32 rfl Try.ty3 rfl rfl) (v' := ptr b2 0) rfl) ?_
  refine Gx.val rfl rfl rfl (val_load rfl Try.ty3 rfl rfl (cell_rec (k := 0) rfl rfl)) ?_
  refine Gx.val rfl rfl rfl (val_lss rfl rfl rfl) ?_
  refine Gx.val rfl rfl rfl (val_move rfl rfl) ?_
  refine Gx.cases (t := 11) rfl (fun h3 => ?_) (fun h3 => ?_)
  · refine Gx.skipg rfl rfl rfl rfl rfl rfl ?_
    refine Gx.skipg rfl rfl rfl rfl rfl rfl ?_
    refine Gx.skipg rfl rfl rfl rfl rfl rfl ?_
    refine Gx.val rfl rfl rfl (val_pickT rfl rfl rfl) ?_
    refine Gx.done ?_
    refine Gx.thenN ?_
    refine Gx.t rfl ?_
    refine Gx.seq ?_
    refine Gx.region ?_
    refine Gx.val rfl rfl rfl (val_assign rfl rfl) ?_
    refine Gx.done ?_
    refine Gx.thenN ?_
    refine Gx.ret ?_
    refine Gx.thenR ?_
    refine Gx.drop 1 rfl ?_
    refine Gx.drop 0 rfl ?_
    refine Gx.sat (l' := [qH S s, R]) (fun w H => (qH.shut (s := s) H)) ?_
    refine Gx.ret1 Try.results9 rfl ?_
    exact ⟨rfl, sep1 _ _⟩
  · refine Gx.valg rfl rfl rfl rfl rfl (Val.cast (val_fieldAddr rfl Try.underlying32 rfl Try.ty3 rfl rfl) (v' := ptr b2 0) rfl) ?_
    refine Gx.valg rfl rfl rfl rfl rfl (val_load rfl Try.ty3 rfl rfl (cell_rec (k := 0) rfl rfl)) ?_
    refine Gx.valg rfl rfl rfl rfl rfl (val_gtr rfl rfl rfl) ?_
    refine Gx.val rfl rfl rfl (val_pickF rfl rfl rfl) ?_
    refine Gx.done ?_
    refine Gx.thenN ?_
    refine Gx.dec rfl (fun h4 => ?_) (fun h4 => ?_)
    · refine Gx.seq ?_
      refine Gx.region ?_
      refine Gx.val rfl rfl rfl (val_assign rfl rfl) ?_
      refine Gx.done ?_
      refine Gx.thenN ?_
      refine Gx.ret ?_
      refine Gx.thenR ?_
      refine Gx.drop 1 rfl ?_
      refine Gx.drop 0 rfl ?_
      refine Gx.sat (l' := [qH S s, R]) (fun w H => (qH.shut (s := s) H)) ?_
      refine Gx.ret1 Try.results9 rfl ?_
      exact ⟨rfl, sep1 _ _⟩
    · exfalso; omega

theorem step_arg {W w : World} {S : Nat} {s : QS} {R : Hp} {k x o : Int} (hk : ¬ (k < 1 ∨ 4 < k)) (hw : isB s.ps.length x = false ∨ (k ≠ 3 ∧ (isB s.ps.length o = false ∨ o = x))) (H : Sat W w (qH S s * R)) :
    Calls Try.prog 9 #[ptr S 0, .agg #[.int .i64 k, .int .i64 x, .int .i64 o]] w (Ret W fun v l => v = .int .i64 2 ∧ sep l = qH S s * R) := by
  obtain ⟨pv, mc, ma, H⟩ := qH.open_ H
  obtain ⟨ap, cp, rfl⟩ := own_form (show Sat W w (Hp.own FP 4 pv s.ps * (_ * (mapN mc s.ca * (mapN ma s.an * R)))) from H.sw)
  refine Gx.enter (l := [Hp.rec_ S [.slice ap s.ps.length cp, .map (some mc), .map (some ma), .bool s.dn], Hp.own FP 4 (.slice ap s.ps.length cp) s.ps, Hp.map Try.prog 45 pairL vN mc s.ca, Hp.map Try.prog 45 pairL vN ma s.an, R]) Try.func9 rfl Try.ntmps9 rfl (H.frame4) ?_
  refine Gx.know (m' := [(0, ptr S 0), (1, .agg #[.int .i64 k, .int .i64 x, .int .i64 o])]) (.cons rfl (.cons rfl .nil)) ?_
  refine Gx.seq ?_
  refine Gx.region ?_
  refine Gx.eff rfl rfl rfl (eff_box rfl rfl (vs := [ptr S 0]) rfl) ?_
  rintro _ _ ⟨b1, rfl, rfl⟩
  refine Gx.eff rfl rfl rfl (eff_box rfl rfl (vs := [.int .i64 k, .int .i64 x, .int .i64 o]) rfl) ?_
  rintro _ _ ⟨b2, rfl, rfl⟩
  refine Gx.val rfl rfl rfl (val_assign rfl rfl) ?_
  refine Gx.done ?_
  refine Gx.thenN ?_
  refine Gx.seq ?_
  refine Gx.region ?_
  refine Gx.val rfl rfl rfl (Val.cast (val_makeFunc (us := []) (vs := [ptr b1 0]) rfl rfl rfl) (v' := .func (.func 10) #[] #[ptr b1 0]) rfl) ?_
  refine Gx.val rfl rfl rfl (val_assign rfl rfl) ?_
  refine Gx.done ?_
  refine Gx.thenN ?_
  refine Gx.seq ?_
  refine Gx.seq ?_
  refine Gx.region ?_
  refine Gx.val rfl rfl rfl (Val.cast (val_fieldAddr rfl Try.underlying32 rfl Try.ty3 rfl rfl) (v' := ptr b2 0) rfl) ?_
  refine Gx.val rfl rfl rfl (val_load rfl Try.ty3 rfl rfl (cell_rec (k := 0) rfl rfl)) ?_
  refine Gx.val rfl rfl rfl (val_lss rfl rfl rfl) ?_
  refine Gx.val rfl rfl rfl (val_move rfl rfl) ?_
  refine Gx.slot (t := 11) (v := .bool false) (look_decF rfl (by omega)) ?_
  refine Gx.valg rfl rfl rfl rfl rfl (Val.cast (val_fieldAddr rfl Try.underlying32 rfl Try.ty3 rfl rfl) (v' := ptr b2 0) rfl) ?_
  refine Gx.valg rfl rfl rfl rfl rfl (val_load rfl Try.ty3 rfl rfl (cell_rec (k := 0) rfl rfl)) ?_
  refine Gx.valg rfl rfl rfl rfl rfl (val_gtr rfl rfl rfl) ?_
  refine Gx.val rfl rfl rfl (val_pickF rfl rfl rfl) ?_
  refine Gx.done ?_
  refine Gx.thenN ?_
  refine Gx.decF rfl (by omega) ?_
  refine Gx.skip ?_
  refine Gx.thenN ?_
  refine Gx.seq ?_
  refine Gx.seq ?_
  refine Gx.region ?_
  refine Gx.val rfl rfl rfl (val_move rfl rfl) ?_
  refine Gx.val rfl rfl rfl (Val.cast (val_fieldAddr rfl Try.underlying32 rfl Try.ty3 rfl rfl) (v' := ptr b2 1) rfl) ?_
  refine Gx.val rfl rfl rfl (val_load rfl Try.ty3 rfl rfl (cell_rec (k := 0) rfl rfl)) ?_
  refine Gx.val rfl rfl rfl (val_callV (vs := [.int .i64 x]) (fs := []) (cs := [ptr b1 0]) rfl Try.fn10 rfl rfl (fun w H => is_any x (H.at_ (k := 1) rfl).rec_.1 ((H.at_ (k := 1) rfl).cell 0 rfl) (H.at_ (k := 2) rfl).rec_.1 ((H.at_ (k := 2) rfl).cell 0 rfl))) ?_
  refine Gx.val rfl rfl rfl (val_not rfl rfl) ?_
  refine Gx.val rfl rfl rfl (val_move rfl rfl) ?_
  refine Gx.casesB (t := 21) rfl (fun h3 => ?_) (fun h3 => ?_)
  · refine Gx.skipg rfl rfl rfl rfl rfl rfl ?_
    refine Gx.skipg rfl rfl rfl rfl rfl rfl ?_
    refine Gx.skipg rfl rfl rfl rfl rfl rfl ?_
    refine Gx.skipg rfl rfl rfl rfl rfl rfl ?_
    refine Gx.skipu rfl rfl rfl rfl rfl ?_
    refine Gx.skipu rfl rfl rfl rfl rfl ?_
    refine Gx.skipu rfl rfl rfl rfl rfl ?_
    refine Gx.skipu rfl rfl rfl rfl rfl ?_
    refine Gx.skipu rfl rfl rfl rfl rfl ?_
    refine Gx.skipu rfl rfl rfl rfl rfl ?_
    refine Gx.skipu rfl rfl rfl rfl rfl ?_
    refine Gx.skipu rfl rfl rfl rfl rfl ?_
    refine Gx.skipu rfl rfl rfl rfl rfl ?_
    refine Gx.skipu rfl rfl rfl rfl rfl ?_
    refine Gx.skipu rfl rfl rfl rfl rfl ?_
    refine Gx.skipu rfl rfl rfl rfl rfl ?_
    refine Gx.skipg rfl rfl rfl rfl rfl rfl ?_
    refine Gx.val rfl rfl rfl (val_pickT rfl rfl rfl) ?_
    refine Gx.done ?_
    refine Gx.thenN ?_
    refine Gx.t rfl ?_
    refine Gx.seq ?_
    refine Gx.region ?_
    refine Gx.val rfl rfl rfl (val_assign rfl rfl) ?_
    refine Gx.done ?_
    refine Gx.thenN ?_
    refine Gx.ret ?_
    refine Gx.thenR ?_
    refine Gx.drop 1 rfl ?_
    refine Gx.drop 0 rfl ?_
    refine Gx.sat (l' := [qH S s, R]) (fun w H => (qH.shut (s := s) H)) ?_
    refine Gx.ret1 Try.results9 rfl ?_
    exact ⟨rfl, sep1 _ _⟩
  · refine Gx.valg rfl rfl rfl rfl rfl (Val.cast (val_fieldAddr rfl Try.underlying32 rfl Try.ty3 rfl rfl) (v' := ptr b2 0) rfl) ?_
    refine Gx.valg rfl rfl rfl rfl rfl (val_load rfl Try.ty3 rfl rfl (cell_rec (k := 0) rfl rfl)) ?_
    refine Gx.valg rfl rfl rfl rfl rfl (val_neq rfl rfl rfl) ?_
    refine Gx.valg rfl rfl rfl rfl rfl (val_move rfl rfl) ?_
    refine Gx.cases (t := 25) rfl (fun h4 => ?_) (fun h4 => ?_)
    · refine Gx.valg rfl rfl rfl rfl rfl (val_move rfl rfl) ?_
      refine Gx.valg rfl rfl rfl rfl rfl (Val.cast (val_fieldAddr rfl Try.underlying32 rfl Try.ty3 rfl rfl) (v' := ptr b2 2) rfl) ?_
      refine Gx.valg rfl rfl rfl rfl rfl (val_load rfl Try.ty3 rfl rfl (cell_rec (k := 0) rfl rfl)) ?_
      refine Gx.valg rfl rfl rfl rfl rfl (val_callV (vs := [.int .i64 o]) (fs := []) (cs := [ptr b1 0]) rfl Try.fn10 rfl rfl (fun w H => is_any o (H.at_ (k := 1) rfl).rec_.1 ((H.at_ (k := 1) rfl).cell 0 rfl) (H.at_ (k := 2) rfl).rec_.1 ((H.at_ (k := 2) rfl).cell 0 rfl))) ?_
      refine Gx.valg rfl rfl rfl rfl rfl (val_not rfl rfl) ?_
      refine Gx.valg rfl rfl rfl rfl rfl (val_move rfl rfl) ?_
      refine Gx.casesB (t := 31) rfl (fun h5 => ?_) (fun h5 => ?_)
      · refine Gx.skipg rfl rfl rfl rfl rfl rfl ?_
        refine Gx.skipg rfl rfl rfl rfl rfl rfl ?_
        refine Gx.skipg rfl rfl rfl rfl rfl rfl ?_
        refine Gx.skipg rfl rfl rfl rfl rfl rfl ?_
        refine Gx.skipg rfl rfl rfl rfl rfl rfl ?_
        refine Gx.valg rfl rfl rfl rfl rfl (val_pickT rfl rfl rfl) ?_
        refine Gx.valg rfl rfl rfl rfl rfl (val_pickT rfl rfl rfl) ?_
        refine Gx.val rfl rfl rfl (val_pickF rfl rfl rfl) ?_
        refine Gx.done ?_
        refine Gx.thenN ?_
        refine Gx.t rfl ?_
        refine Gx.seq ?_
        refine Gx.region ?_
        refine Gx.val rfl rfl rfl (val_assign rfl rfl) ?_
        refine Gx.done ?_
        refine Gx.thenN ?_
        refine Gx.ret ?_
        refine Gx.thenR ?_
        refine Gx.drop 1 rfl ?_
        refine Gx.drop 0 rfl ?_
        refine Gx.sat (l' := [qH S s, R]) (fun w H => (qH.shut (s := s) H)) ?_
        refine Gx.ret1 Try.results9 rfl ?_
        exact ⟨rfl, sep1 _ _⟩
      · refine Gx.valg rfl rfl rfl rfl rfl (Val.cast (val_fieldAddr rfl Try.underlying32 rfl Try.ty3 rfl rfl) (v' := ptr b2 2) rfl) ?_
        refine Gx.valg rfl rfl rfl rfl rfl (val_load rfl Try.ty3 rfl rfl (cell_rec (k := 0) rfl rfl)) ?_
        refine Gx.valg rfl rfl rfl rfl rfl (Val.cast (val_fieldAddr rfl Try.underlying32 rfl Try.ty3 rfl rfl) (v' := ptr b2 1) rfl) ?_
        refine Gx.valg rfl rfl rfl rfl rfl (val_load rfl Try.ty3 rfl rfl (cell_rec (k := 0) rfl rfl)) ?_
        refine Gx.valg rfl rfl rfl rfl rfl (val_eql rfl rfl rfl) ?_
        refine Gx.valg rfl rfl rfl rfl rfl (val_pickF rfl rfl rfl) ?_
        refine Gx.valg rfl rfl rfl rfl rfl (val_pickT rfl rfl rfl) ?_
        refine Gx.val rfl rfl rfl (val_pickF rfl rfl rfl) ?_
        refine Gx.done ?_
        refine Gx.thenN ?_
        refine Gx.dec rfl (fun h6 => ?_) (fun h6 => ?_)
        · refine Gx.seq ?_
          refine Gx.region ?_
          refine Gx.val rfl rfl rfl (val_assign rfl rfl) ?_
          refine Gx.done ?_
          refine Gx.thenN ?_
          refine Gx.ret ?_
          refine Gx.thenR ?_
          refine Gx.drop 1 rfl ?_
          refine Gx.drop 0 rfl ?_
          refine Gx.sat (l' := [qH S s, R]) (fun w H => (qH.shut (s := s) H)) ?_
          refine Gx.ret1 Try.results9 rfl ?_
          exact ⟨rfl, sep1 _ _⟩
        · exfalso
          rcases hw with h | ⟨h, h' | h'⟩ <;> simp_all
    · refine Gx.skipg rfl rfl rfl rfl rfl rfl ?_
      refine Gx.skipg rfl rfl rfl rfl rfl rfl ?_
      refine Gx.skipg rfl rfl rfl rfl rfl rfl ?_
      refine Gx.skipg rfl rfl rfl rfl rfl rfl ?_
      refine Gx.skipg rfl rfl rfl rfl rfl rfl ?_
      refine Gx.skipg rfl rfl rfl rfl rfl rfl ?_
      refine Gx.skipu rfl rfl rfl rfl rfl ?_
      refine Gx.skipu rfl rfl rfl rfl rfl ?_
      refine Gx.skipu rfl rfl rfl rfl rfl ?_
      refine Gx.skipu rfl rfl rfl rfl rfl ?_
      refine Gx.skipu rfl rfl rfl rfl rfl ?_
      refine Gx.skipg rfl rfl rfl rfl rfl rfl ?_
      refine Gx.valg rfl rfl rfl rfl rfl (val_pickF rfl rfl rfl) ?_
      refine Gx.val rfl rfl rfl (val_pickF rfl rfl rfl) ?_
      refine Gx.done ?_
      refine Gx.thenN ?_
      refine Gx.f rfl ?_
      refine Gx.skip ?_
      refine Gx.thenN ?_
      refine Gx.seq ?_
      exfalso
      rcases hw with h | ⟨h, h' | h'⟩ <;> simp_all

theorem step_ok {W w : World} {S : Nat} {s : QS} {R : Hp} {i j : Sm} {k o : Int} {m : Nat} (hb : BdQ m s) (hm : m ≤ 900) (hk : k = 1 ∨ k = 2 ∨ k = 3 ∨ k = 4) (hi : i.val < s.ps.length) (ho : k = 3 ∨ o = j.val) (hoo : k = 3 ∨ (isB s.ps.length o = true ∧ o ≠ i.val)) (H : Sat W w (qH S s * R)) :
    Calls Try.prog 9 #[ptr S 0, .agg #[.int .i64 k, .int .i64 ((i.val : Nat) : Int), .int .i64 o]] w (Ret W fun v l => v = .int .i64 (doesQ s k i j).1 ∧ sep l = qH S (if (doesQ s k i j).1 = 0 then settleQ (doesQ s k i j).2 i else (doesQ s k i j).2) * R) := by
  obtain ⟨pv, mc, ma, H⟩ := qH.open_ H
  obtain ⟨ap, cp, rfl⟩ := own_form (show Sat W w (Hp.own FP 4 pv s.ps * (_ * (mapN mc s.ca * (mapN ma s.an * R)))) from H.sw)
  obtain ⟨x, hx⟩ := get_of_lt hi
  obtain ⟨e1, s1, hd⟩ : ∃ e s1, doesQ s k i j = (e, s1) := ⟨_, _, rfl⟩
  have D : ∀ {W w : World} {R : Hp}, Sat W w (qAt S (.slice ap s.ps.length cp) mc ma s.ps s.ca s.an s.dn R) → Calls Try.prog 11 #[ptr S 0, .agg #[.int .i64 k, .int .i64 i.val, .int .i64 o]] w (Ret W fun v l => v = .int .i64 e1 ∧ sep l = qAt S (.slice ap s.ps.length cp) mc ma s1.ps s1.ca s1.an s1.dn R) := fun H => by
    have := does_any (j := j) hx hb (by omega) hk ho H
    rw [hd] at this; exact this
  have hb1 := hb.does k i j
  have hl1 := doesQ_len s k i j
  rw [hd] at hb1 hl1 ⊢
  simp only at hb1 hl1 ⊢
  obtain ⟨x1, hx1⟩ := get_of_lt (xs := s1.ps) (k := i.val) (by omega)
  refine Gx.enter (l := [Hp.rec_ S [.slice ap s.ps.length cp, .map (some mc), .map (some ma), .bool s.dn], Hp.own FP 4 (.slice ap s.ps.length cp) s.ps, Hp.map Try.prog 45 pairL vN mc s.ca, Hp.map Try.prog 45 pairL vN ma s.an, R]) Try.func9 rfl Try.ntmps9 rfl (H.frame4) ?_
  refine Gx.know (m' := [(0, ptr S 0), (1, .agg #[.int .i64 k, .int .i64 ((i.val : Nat) : Int), .int .i64 o])]) (.cons rfl (.cons rfl .nil)) ?_
  refine Gx.seq ?_
  refine Gx.region ?_
  refine Gx.eff rfl rfl rfl (eff_box rfl rfl (vs := [ptr S 0]) rfl) ?_
  rintro _ _ ⟨b1, rfl, rfl⟩
  refine Gx.eff rfl rfl rfl (eff_box rfl rfl (vs := [.int .i64 k, .int .i64 ((i.val : Nat) : Int), .int .i64 o]) rfl) ?_
  rintro _ _ ⟨b2, rfl, rfl⟩
  refine Gx.val rfl rfl rfl (val_assign rfl rfl) ?_
  refine Gx.done ?_
  refine Gx.thenN ?_
  refine Gx.seq ?_
  refine Gx.region ?_
  refine Gx.val rfl rfl rfl (Val.cast (val_makeFunc (us := []) (vs := [ptr b1 0]) rfl rfl rfl) (v' := .func (.func 10) #[] #[ptr b1 0]) rfl) ?_
  refine Gx.val rfl rfl rfl (val_assign rfl rfl) ?_
  refine Gx.done ?_
  refine Gx.thenN ?_
  refine Gx.seq ?_
  refine Gx.seq ?_
  refine Gx.region ?_
  refine Gx.val rfl rfl rfl (Val.cast (val_fieldAddr rfl Try.underlying32 rfl Try.ty3 rfl rfl) (v' := ptr b2 0) rfl) ?_
  refine Gx.val rfl rfl rfl (val_load rfl Try.ty3 rfl rfl (cell_rec (k := 0) rfl rfl)) ?_
  refine Gx.val rfl rfl rfl (val_lss rfl rfl rfl) ?_
  refine Gx.val rfl rfl rfl (val_move rfl rfl) ?_
  refine Gx.slot (t := 11) (v := .bool false) (look_decF rfl (by omega)) ?_
  refine Gx.valg rfl rfl rfl rfl rfl (Val.cast (val_fieldAddr rfl Try.underlying32 rfl Try.ty3 rfl rfl) (v' := ptr b2 0) rfl) ?_
  refine Gx.valg rfl rfl rfl rfl rfl (val_load rfl Try.ty3 rfl rfl (cell_rec (k := 0) rfl rfl)) ?_
  refine Gx.valg rfl rfl rfl rfl rfl (val_gtr rfl rfl rfl) ?_
  refine Gx.val rfl rfl rfl (val_pickF rfl rfl rfl) ?_
  refine Gx.done ?_
  refine Gx.thenN ?_
  refine Gx.decF rfl (by omega) ?_
  refine Gx.skip ?_
  refine Gx.thenN ?_
  refine Gx.seq ?_
  refine Gx.seq ?_
  refine Gx.region ?_
  refine Gx.val rfl rfl rfl (val_move rfl rfl) ?_
  refine Gx.val rfl rfl rfl (Val.cast (val_fieldAddr rfl Try.underlying32 rfl Try.ty3 rfl rfl) (v' := ptr b2 1) rfl) ?_
  refine Gx.val rfl rfl rfl (val_load rfl Try.ty3 rfl rfl (cell_rec (k := 0) rfl rfl)) ?_
  refine Gx.val rfl rfl rfl (val_callV (vs := [.int .i64 ((i.val : Nat) : Int)]) (fs := []) (cs := [ptr b1 0]) rfl Try.fn10 rfl rfl (fun w H => is_any ((i.val : Nat) : Int) (H.at_ (k := 1) rfl).rec_.1 ((H.at_ (k := 1) rfl).cell 0 rfl) (H.at_ (k := 2) rfl).rec_.1 ((H.at_ (k := 2) rfl).cell 0 rfl))) ?_
  refine Gx.val rfl rfl rfl (val_not rfl rfl) ?_
  refine Gx.val rfl rfl rfl (val_move rfl rfl) ?_
  refine Gx.slot (t := 21) (v := .bool false) (look_boolF rfl (by rw [isB_yes hi]; rfl)) ?_
  refine Gx.valg rfl rfl rfl rfl rfl (Val.cast (val_fieldAddr rfl Try.underlying32 rfl Try.ty3 rfl rfl) (v' := ptr b2 0) rfl) ?_
  refine Gx.valg rfl rfl rfl rfl rfl (val_load rfl Try.ty3 rfl rfl (cell_rec (k := 0) rfl rfl)) ?_
  refine Gx.valg rfl rfl rfl rfl rfl (val_neq rfl rfl rfl) ?_
  refine Gx.valg rfl rfl rfl rfl rfl (val_move rfl rfl) ?_
  refine Gx.cases (t := 25) rfl (fun h3 => ?_) (fun h3 => ?_)
  · refine Gx.valg rfl rfl rfl rfl rfl (val_move rfl rfl) ?_
    refine Gx.valg rfl rfl rfl rfl rfl (Val.cast (val_fieldAddr rfl Try.underlying32 rfl Try.ty3 rfl rfl) (v' := ptr b2 2) rfl) ?_
    refine Gx.valg rfl rfl rfl rfl rfl (val_load rfl Try.ty3 rfl rfl (cell_rec (k := 0) rfl rfl)) ?_
    refine Gx.valg rfl rfl rfl rfl rfl (val_callV (vs := [.int .i64 o]) (fs := []) (cs := [ptr b1 0]) rfl Try.fn10 rfl rfl (fun w H => is_any o (H.at_ (k := 1) rfl).rec_.1 ((H.at_ (k := 1) rfl).cell 0 rfl) (H.at_ (k := 2) rfl).rec_.1 ((H.at_ (k := 2) rfl).cell 0 rfl))) ?_
    refine Gx.valg rfl rfl rfl rfl rfl (val_not rfl rfl) ?_
    refine Gx.valg rfl rfl rfl rfl rfl (val_move rfl rfl) ?_
    refine Gx.slot (t := 31) (v := .bool false) (look_boolF rfl (by rw [(hoo.resolve_left h3).1]; rfl)) ?_
    refine Gx.valg rfl rfl rfl rfl rfl (Val.cast (val_fieldAddr rfl Try.underlying32 rfl Try.ty3 rfl rfl) (v' := ptr b2 2) rfl) ?_
    refine Gx.valg rfl rfl rfl rfl rfl (val_load rfl Try.ty3 rfl rfl (cell_rec (k := 0) rfl rfl)) ?_
    refine Gx.valg rfl rfl rfl rfl rfl (Val.cast (val_fieldAddr rfl Try.underlying32 rfl Try.ty3 rfl rfl) (v' := ptr b2 1) rfl) ?_
    refine Gx.valg rfl rfl rfl rfl rfl (val_load rfl Try.ty3 rfl rfl (cell_rec (k := 0) rfl rfl)) ?_
    refine Gx.valg rfl rfl rfl rfl rfl (val_eql rfl rfl rfl) ?_
    refine Gx.valg rfl rfl rfl rfl rfl (val_pickF rfl rfl rfl) ?_
    refine Gx.valg rfl rfl rfl rfl rfl (val_pickT rfl rfl rfl) ?_
    refine Gx.val rfl rfl rfl (val_pickF rfl rfl rfl) ?_
    refine Gx.done ?_
    refine Gx.thenN ?_
    refine Gx.decF rfl ((hoo.resolve_left h3).2) ?_
    refine Gx.skip ?_
    refine Gx.thenN ?_
    refine Gx.seq ?_
    refine Gx.region ?_
    refine Gx.val rfl rfl rfl (val_load rfl Try.ty35 rfl rfl (cell_rec (k := 1) rfl rfl)) ?_
    refine Gx.val rfl rfl rfl (Val.cast (val_loadA rfl Try.ty32 rfl rfl rfl (cells_rec (k := 0) rfl)) (v' := .agg #[.int .i64 k, .int .i64 ((i.val : Nat) : Int), .int .i64 o]) rfl) ?_
    refine Gx.eff rfl rfl rfl (eff_call (vs := [ptr S 0, .agg #[.int .i64 k, .int .i64 ((i.val : Nat) : Int), .int .i64 o]]) rfl Try.fn11 rfl (fun w H => D (H.at4 (k := 2) (k1 := 2) (k2 := 2) (k3 := 2) rfl rfl rfl rfl))) ?_
    rintro _ l4 ⟨rfl, hl4⟩
    refine Gx.sepEq (l' := [Hp.rec_ S [.slice ap s.ps.length cp, .map (some mc), .map (some ma), .bool s1.dn], Hp.own FP 4 (.slice ap s.ps.length cp) s1.ps, Hp.map Try.prog 45 pairL vN mc s1.ca, Hp.map Try.prog 45 pairL vN ma s1.an, Hp.rec_ b2 [.int .i64 k, .int .i64 ((i.val : Nat) : Int), .int .i64 o], Hp.rec_ b1 [ptr S 0], R]) hl4 ?_
    refine Gx.val rfl rfl rfl (val_assign rfl rfl) ?_
    refine Gx.done ?_
    refine Gx.thenN ?_
    refine Gx.seq ?_
    refine Gx.seq ?_
    refine Gx.region ?_
    refine Gx.val rfl rfl rfl (val_move rfl rfl) ?_
    refine Gx.val rfl rfl rfl (val_eql rfl rfl rfl) ?_
    refine Gx.done ?_
    refine Gx.thenN ?_
    refine Gx.dec rfl (fun h5 => ?_) (fun h5 => ?_)
    · refine Gx.region ?_
      refine Gx.val rfl rfl rfl (val_load rfl Try.ty35 rfl rfl (cell_rec (k := 5) rfl rfl)) ?_
      refine Gx.val rfl rfl rfl (Val.cast (val_fieldAddr rfl Try.underlying32 rfl Try.ty3 rfl rfl) (v' := ptr b2 1) rfl) ?_
      refine Gx.val rfl rfl rfl (val_load rfl Try.ty3 rfl rfl (cell_rec (k := 4) rfl rfl)) ?_
      refine Gx.eff rfl rfl rfl (eff_call (vs := [ptr S 0, .int .i64 ((i.val : Nat) : Int)]) rfl Try.fn12 rfl (fun w H => settle_any hx1 hb1 (by omega) (H.at4 (k := 0) (k1 := 0) (k2 := 0) (k3 := 0) rfl rfl rfl rfl))) ?_
      rintro _ l6 ⟨rfl, hl6⟩
      refine Gx.sepEq (l' := [Hp.rec_ S [.slice ap s.ps.length cp, .map (some mc), .map (some ma), .bool ((settleQ s1 i).dn)], Hp.own FP 4 (.slice ap s.ps.length cp) ((settleQ s1 i).ps), Hp.map Try.prog 45 pairL vN mc ((settleQ s1 i).ca), Hp.map Try.prog 45 pairL vN ma ((settleQ s1 i).an), Hp.rec_ b2 [.int .i64 k, .int .i64 ((i.val : Nat) : Int), .int .i64 o], Hp.rec_ b1 [ptr S 0], R]) hl6 ?_
      refine Gx.done ?_
      refine Gx.thenN ?_
      refine Gx.seq ?_
      refine Gx.region ?_
      refine Gx.val rfl rfl rfl (val_move rfl rfl) ?_
      refine Gx.val rfl rfl rfl (val_assign rfl rfl) ?_
      refine Gx.done ?_
      refine Gx.thenN ?_
      refine Gx.ret ?_
      refine Gx.drop 5 rfl ?_
      refine Gx.drop 4 rfl ?_
      refine Gx.sat (l' := [qH S (settleQ s1 i), R]) (fun w H => (qH.shut (s := (settleQ s1 i)) H)) ?_
      refine Gx.ret1 Try.results9 rfl ?_
      exact ⟨rfl, by rw [if_pos h5]; exact sep1 _ _⟩
    · refine Gx.skip ?_
      refine Gx.thenN ?_
      refine Gx.seq ?_
      refine Gx.region ?_
      refine Gx.val rfl rfl rfl (val_move rfl rfl) ?_
      refine Gx.val rfl rfl rfl (val_assign rfl rfl) ?_
      refine Gx.done ?_
      refine Gx.thenN ?_
      refine Gx.ret ?_
      refine Gx.drop 5 rfl ?_
      refine Gx.drop 4 rfl ?_
      refine Gx.sat (l' := [qH S s1, R]) (fun w H => (qH.shut (s := s1) H)) ?_
      refine Gx.ret1 Try.results9 rfl ?_
      exact ⟨rfl, by rw [if_neg h5]; exact sep1 _ _⟩
  · refine Gx.skipg rfl rfl rfl rfl rfl rfl ?_
    refine Gx.skipg rfl rfl rfl rfl rfl rfl ?_
    refine Gx.skipg rfl rfl rfl rfl rfl rfl ?_
    refine Gx.skipg rfl rfl rfl rfl rfl rfl ?_
    refine Gx.skipg rfl rfl rfl rfl rfl rfl ?_
    refine Gx.skipg rfl rfl rfl rfl rfl rfl ?_
    refine Gx.skipu rfl rfl rfl rfl rfl ?_
    refine Gx.skipu rfl rfl rfl rfl rfl ?_
    refine Gx.skipu rfl rfl rfl rfl rfl ?_
    refine Gx.skipu rfl rfl rfl rfl rfl ?_
    refine Gx.skipu rfl rfl rfl rfl rfl ?_
    refine Gx.skipg rfl rfl rfl rfl rfl rfl ?_
    refine Gx.valg rfl rfl rfl rfl rfl (val_pickF rfl rfl rfl) ?_
    refine Gx.val rfl rfl rfl (val_pickF rfl rfl rfl) ?_
    refine Gx.done ?_
    refine Gx.thenN ?_
    refine Gx.f rfl ?_
    refine Gx.skip ?_
    refine Gx.thenN ?_
    refine Gx.seq ?_
    refine Gx.region ?_
    refine Gx.val rfl rfl rfl (val_load rfl Try.ty35 rfl rfl (cell_rec (k := 1) rfl rfl)) ?_
    refine Gx.val rfl rfl rfl (Val.cast (val_loadA rfl Try.ty32 rfl rfl rfl (cells_rec (k := 0) rfl)) (v' := .agg #[.int .i64 k, .int .i64 ((i.val : Nat) : Int), .int .i64 o]) rfl) ?_
    refine Gx.eff rfl rfl rfl (eff_call (vs := [ptr S 0, .agg #[.int .i64 k, .int .i64 ((i.val : Nat) : Int), .int .i64 o]]) rfl Try.fn11 rfl (fun w H => D (H.at4 (k := 2) (k1 := 2) (k2 := 2) (k3 := 2) rfl rfl rfl rfl))) ?_
    rintro _ l7 ⟨rfl, hl7⟩
    refine Gx.sepEq (l' := [Hp.rec_ S [.slice ap s.ps.length cp, .map (some mc), .map (some ma), .bool s1.dn], Hp.own FP 4 (.slice ap s.ps.length cp) s1.ps, Hp.map Try.prog 45 pairL vN mc s1.ca, Hp.map Try.prog 45 pairL vN ma s1.an, Hp.rec_ b2 [.int .i64 k, .int .i64 ((i.val : Nat) : Int), .int .i64 o], Hp.rec_ b1 [ptr S 0], R]) hl7 ?_
    refine Gx.val rfl rfl rfl (val_assign rfl rfl) ?_
    refine Gx.done ?_
    refine Gx.thenN ?_
    refine Gx.seq ?_
    refine Gx.seq ?_
    refine Gx.region ?_
    refine Gx.val rfl rfl rfl (val_move rfl rfl) ?_
    refine Gx.val rfl rfl rfl (val_eql rfl rfl rfl) ?_
    refine Gx.done ?_
    refine Gx.thenN ?_
    refine Gx.dec rfl (fun h8 => ?_) (fun h8 => ?_)
    · refine Gx.region ?_
      refine Gx.val rfl rfl rfl (val_load rfl Try.ty35 rfl rfl (cell_rec (k := 5) rfl rfl)) ?_
      refine Gx.val rfl rfl rfl (Val.cast (val_fieldAddr rfl Try.underlying32 rfl Try.ty3 rfl rfl) (v' := ptr b2 1) rfl) ?_
      refine Gx.val rfl rfl rfl (val_load rfl Try.ty3 rfl rfl (cell_rec (k := 4) rfl rfl)) ?_
      refine Gx.eff rfl rfl rfl (eff_call (vs := [ptr S 0, .int .i64 ((i.val : Nat) : Int)]) rfl Try.fn12 rfl (fun w H => settle_any hx1 hb1 (by omega) (H.at4 (k := 0) (k1 := 0) (k2 := 0) (k3 := 0) rfl rfl rfl rfl))) ?_
      rintro _ l9 ⟨rfl, hl9⟩
      refine Gx.sepEq (l' := [Hp.rec_ S [.slice ap s.ps.length cp, .map (some mc), .map (some ma), .bool ((settleQ s1 i).dn)], Hp.own FP 4 (.slice ap s.ps.length cp) ((settleQ s1 i).ps), Hp.map Try.prog 45 pairL vN mc ((settleQ s1 i).ca), Hp.map Try.prog 45 pairL vN ma ((settleQ s1 i).an), Hp.rec_ b2 [.int .i64 k, .int .i64 ((i.val : Nat) : Int), .int .i64 o], Hp.rec_ b1 [ptr S 0], R]) hl9 ?_
      refine Gx.done ?_
      refine Gx.thenN ?_
      refine Gx.seq ?_
      refine Gx.region ?_
      refine Gx.val rfl rfl rfl (val_move rfl rfl) ?_
      refine Gx.val rfl rfl rfl (val_assign rfl rfl) ?_
      refine Gx.done ?_
      refine Gx.thenN ?_
      refine Gx.ret ?_
      refine Gx.drop 5 rfl ?_
      refine Gx.drop 4 rfl ?_
      refine Gx.sat (l' := [qH S (settleQ s1 i), R]) (fun w H => (qH.shut (s := (settleQ s1 i)) H)) ?_
      refine Gx.ret1 Try.results9 rfl ?_
      exact ⟨rfl, by rw [if_pos h8]; exact sep1 _ _⟩
    · refine Gx.skip ?_
      refine Gx.thenN ?_
      refine Gx.seq ?_
      refine Gx.region ?_
      refine Gx.val rfl rfl rfl (val_move rfl rfl) ?_
      refine Gx.val rfl rfl rfl (val_assign rfl rfl) ?_
      refine Gx.done ?_
      refine Gx.thenN ?_
      refine Gx.ret ?_
      refine Gx.drop 5 rfl ?_
      refine Gx.drop 4 rfl ?_
      refine Gx.sat (l' := [qH S s1, R]) (fun w H => (qH.shut (s := s1) H)) ?_
      refine Gx.ret1 Try.results9 rfl ?_
      exact ⟨rfl, by rw [if_neg h8]; exact sep1 _ _⟩

theorem step_any {W w : World} {S : Nat} {s : QS} {R : Hp} {c : Cm} {m n : Nat} (hb : BdQ m s) (hm : m ≤ 900) (hn : s.ps.length = n) (h6 : n ≤ 6) (H : Sat W w (qH S s * R)) :
    Calls Try.prog 9 #[ptr S 0, .agg #[.int .i64 c.kind, .int .i64 c.who, .int .i64 c.other]] w (Ret W fun v l => v = .int .i64 (stepQ n s c).1 ∧ sep l = qH S (stepQ n s c).2 * R) := by
  subst hn
  obtain ⟨k, x, o⟩ := c
  unfold stepQ
  dsimp only
  by_cases h1 : k < 1 ∨ 4 < k
  · rw [if_pos h1]; exact step_kind h1 H
  · rw [if_neg h1]
    by_cases h2 : isB s.ps.length x = false ∨ (k ≠ 3 ∧ (isB s.ps.length o = false ∨ o = x))
    · rw [if_pos h2]; exact step_arg h1 h2 H
    · rw [if_neg h2]
      simp only [not_or, not_and, Bool.not_eq_false] at h2
      obtain ⟨h3, h4⟩ := h2
      have hx : 0 ≤ x ∧ x < (s.ps.length : Int) := by have := h3; unfold isB at this; simpa using this
      have ex := smI_of hx.1 (by omega)
      obtain ⟨i, hi⟩ : ∃ i, i = smI x := ⟨_, rfl⟩
      rw [← hi] at ex ⊢
      have ho : k = 3 ∨ o = ((smI o).val : Int) := by
        by_cases e : k = 3
        · exact .inl e
        · obtain ⟨q1, q2⟩ := h4 e
          have ho' : 0 ≤ o ∧ o < (s.ps.length : Int) := by have := q1; unfold isB at this; simpa using this
          exact .inr (smI_of ho'.1 (by omega))
      rw [ex]
      refine step_ok (j := smI o) hb hm (by omega) (by omega) ho ?_ H
      by_cases e : k = 3
      · exact .inl e
      · exact .inr ⟨(h4 e).1, by rw [← ex]; exact (h4 e).2⟩
theorem BdQ.step {m n : Nat} {s : QS} (h : BdQ m s) (c : Cm) : BdQ (m + 2) (stepQ n s c).2 := by
  unfold stepQ
  split
  · exact h.mono (by omega)
  · split
    · exact h.mono (by omega)
    · dsimp only
      split
      · exact (h.does _ _ _).settle _
      · exact (h.does _ _ _).mono (by omega)
theorem stepQ_len (n : Nat) (s : QS) (c : Cm) : (stepQ n s c).2.ps.length = s.ps.length := by
  unfold stepQ
  split
  · rfl
  · split
    · rfl
    · dsimp only
      split
      · rw [settleQ_len, doesQ_len]
      · rw [doesQ_len]
end Go.Proofs.Ytgnpngiecnkfiaa
