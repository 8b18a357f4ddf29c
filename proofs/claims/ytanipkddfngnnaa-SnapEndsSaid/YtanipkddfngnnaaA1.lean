/- One notes. The walk. No condition. -/
import Derived.Test.YtanipkddfngnnaaD1
import Derived.Test.YtanipkddfngnnaaX12
namespace Go.Proofs.Ytanipkddfngnnaa
open Go.RowKit
set_option linter.unusedVariables false
set_option linter.unusedSimpArgs false
set_option maxRecDepth 100000

/-- some rows have the mark, those left not yet -/
structure Half (i : Nat) (ks : Ks) (left : Ks) (rs : List Rm) (w : Wy) : Prop where
  sub : ∀ p ∈ left, p ∈ ks
  nd : left.Nodup
  bl : rs.map Rm.b = ks.map (·.2)
  val : ∀ (k : Nat) (p : (Sm × Sm) × Nat) (r : Rm), ks[k]? = some p → rs[k]? = some r → (p ∈ left → r.w = w p.1) ∧ (p ∉ left → r.w = markW w i p.1)
theorem pw_nodup {ks : Ks} (h : ks.Pairwise (fun p q => p.1 ≠ q.1)) : ks.Nodup := h.imp fun h e => h (congrArg (·.1) e)
theorem nodup_idx {ks : Ks} (hn : ks.Nodup) {j k : Nat} {p : (Sm × Sm) × Nat} (h1 : ks[j]? = some p) (h2 : ks[k]? = some p) : j = k := by
  obtain ⟨l1, e1⟩ := List.getElem?_eq_some_iff.1 h1
  obtain ⟨l2, e2⟩ := List.getElem?_eq_some_iff.1 h2
  have := List.pairwise_iff_getElem.1 hn
  rcases Nat.lt_trichotomy j k with g | g | g
  · exact absurd (e1.trans e2.symm) (this j k l1 l2 g)
  · exact g
  · exact absurd (e2.trans e1.symm) (this k j l2 l1 g)
theorem Half.start {n i : Nat} {ks : Ks} {rs : List Rm} {w : Wy} (h : ROk n ks rs w) : Half i ks ks rs w :=
  ⟨fun p hp => hp, pw_nodup h.nodup, h.bl, fun k p r hp hr => ⟨fun _ => h.val k p r hp hr, fun q => absurd (List.mem_of_getElem? hp) q⟩⟩
theorem Half.done {n i : Nat} {ks : Ks} {rs0 rs : List Rm} {w : Wy} (h0 : ROk n ks rs0 w) (h : Half i ks [] rs w) : ROk n ks rs (markW w i) :=
  ⟨h0.len, h0.keys, h0.nodup, h.bl, fun k p r hp hr => (h.val k p r hp hr).2 (by simp)⟩
theorem Half.at_ {i : Nat} {ks left rest : Ks} {rs : List Rm} {w : Wy} {a : Sm × Sm} {x : Nat} (h : Half i ks left rs w) (hp : left.Perm ((a, x) :: rest)) : ∃ (k : Nat) (r : Rm), ks[k]? = some (a, x) ∧ rs[k]? = some r ∧ x = r.b ∧ r.w = w a := by
  have hm : (a, x) ∈ left := hp.symm.subset (List.mem_cons_self ..)
  obtain ⟨k, hk⟩ := List.getElem?_of_mem (h.sub _ hm)
  obtain ⟨r, hr, e⟩ := row_at h.bl hk
  exact ⟨k, r, hk, hr, e, (h.val k _ r hk hr).1 hm⟩
theorem Half.next {i k x : Nat} {ks left rest : Ks} {rs : List Rm} {w : Wy} {a : Sm × Sm} {r y : Rm} (hn : ks.Nodup) (h : Half i ks left rs w) (hp : left.Perm ((a, x) :: rest)) (hk : ks[k]? = some (a, x)) (hr : rs[k]? = some r) (hy : y.b = r.b) (hw : y.w = markW w i a) : Half i ks rest (rs.set k y) w := by
  have hnd := (hp.nodup_iff.1 h.nd)
  obtain ⟨n1, n2⟩ := List.nodup_cons.1 hnd
  refine ⟨fun p hp' => h.sub p (hp.symm.subset (List.mem_cons_of_mem _ hp')), n2, by rw [set_bR hr hy]; exact h.bl, fun j p z hj hz => ?_⟩
  rcases set_casesR hz with ⟨rfl, rfl⟩ | ⟨hne, hz⟩
  · cases hk.symm.trans hj
    exact ⟨fun q => absurd q n1, fun _ => hw⟩
  · obtain ⟨g1, g2⟩ := h.val j p z hj hz
    have hpx : p ≠ (a, x) := fun e => by
      subst e
      exact hne (nodup_idx hn hj hk)
    refine ⟨fun q => g1 (hp.symm.subset (List.mem_cons_of_mem _ q)), fun q => g2 fun q2 => ?_⟩
    rcases List.mem_cons.1 (hp.subset q2) with e | e
    · exact hpx e
    · exact q e
theorem Half.skip {i k x : Nat} {ks left rest : Ks} {rs : List Rm} {w : Wy} {a : Sm × Sm} {r : Rm} (hn : ks.Nodup) (h : Half i ks left rs w) (hp : left.Perm ((a, x) :: rest)) (hk : ks[k]? = some (a, x)) (hr : rs[k]? = some r) (hw : r.w = w a) (ha : a.1.val ≠ i) (hi : i < 2048) : Half i ks rest rs w := by
  have := h.next hn hp hk hr (y := r) rfl (by rw [hw]; unfold markW; rw [if_neg]; intro e; exact ha (by rw [e, smN_val hi]))
  rwa [show rs.set k r = rs from by obtain ⟨h1, rfl⟩ := List.getElem?_eq_some_iff.1 hr; exact List.set_getElem_self h1] at this
theorem note_open {W w : World} {S n i mb : Nat} {s : SS} {p : Pr} {pv : Value} {ks : Ks} {rs : List Rm} {R : Hp} (hok : ROk n ks rs s.w) (hp : s.ps[i]? = some p) (hn : s.ps.length ≤ 6) (hq : ∀ a, (s.w a).q.length ≤ 10000) (H : Sat W w (sep [Hp.rec_ S [pv, .map (some mb)], Hp.own FP 2 pv s.ps, mapB mb ks, Hp.big rowH rs, R])) :
    Calls Try.prog 16 #[ptr S 0, .int .i64 ((i : Nat) : Int)] w (Ret W fun v l => ∃ rr : List Rm, ROk n ks rr (noteS s i).w ∧ v = .tuple #[] ∧ sep l = sep [Hp.rec_ S [pv, .map (some mb)], Hp.own FP 2 pv (noteS s i).ps, mapB mb ks, Hp.big rowH rr, R]) := by
  have hil := (List.getElem?_eq_some_iff.1 hp).1
  refine Gx.enter (l := [Hp.rec_ S [pv, .map (some mb)], Hp.own FP 2 pv s.ps, Hp.map Try.prog 47 pairL vB mb ks, Hp.big rowH rs, R]) Try.func16 rfl Try.ntmps16 rfl (H) ?_
  refine Gx.know (m' := [(0, ptr S 0), (1, .int .i64 ((i : Nat) : Int))]) (.cons rfl (.cons rfl .nil)) ?_
  refine Gx.seq ?_
  refine Gx.region ?_
  refine Gx.val rfl rfl rfl (val_move rfl rfl) ?_
  refine Gx.val rfl rfl rfl (val_nilCheck rfl rfl) ?_
  refine Gx.val rfl rfl rfl (Val.cast (val_fieldAddr rfl Try.underlying44 rfl Try.ty41 rfl rfl) (v' := ptr S 0) rfl) ?_
  refine Gx.val rfl rfl rfl (val_load rfl Try.ty41 rfl rfl (cell_rec (k := 0) rfl rfl)) ?_
  refine Gx.val rfl rfl rfl (val_move rfl rfl) ?_
  refine Gx.val rfl rfl rfl (val_ixa rfl Try.underlying41 Try.ty46 rfl rfl (j := i) (rfl) (reach_own (k := 1) rfl hp)) ?_
  refine Gx.val rfl rfl rfl (val_assign rfl rfl) ?_
  refine Gx.done ?_
  refine Gx.thenN ?_
  refine Gx.seq ?_
  refine Gx.seq ?_
  refine Gx.region ?_
  refine Gx.val rfl rfl rfl (val_move rfl rfl) ?_
  refine Gx.val rfl rfl rfl (val_nilCheck rfl rfl) ?_
  refine Gx.val rfl rfl rfl (Val.cast (val_fieldAddr rfl Try.underlying46 rfl Try.ty3 rfl rfl) (v' := ptr (sB pv) (sO pv + i * 2 + 1)) rfl) ?_
  refine Gx.val rfl rfl rfl (val_load rfl Try.ty3 rfl rfl (cell_own (i := 1) (k := 1) rfl hp rfl)) ?_
  refine Gx.val rfl rfl rfl (val_neq rfl rfl rfl) ?_
  refine Gx.done ?_
  refine Gx.thenN ?_
  refine Gx.dec rfl (fun h1 => ?_) (fun h1 => ?_)
  · refine Gx.ret ?_
    refine Gx.thenR ?_
    refine Gx.ret0 Try.results16 ?_
    refine ⟨rs, ?_, rfl, ?_⟩
    · unfold noteS; rw [hp]; dsimp only; rw [if_neg (by omega)]; exact hok
    · unfold noteS; rw [hp]; dsimp only; rw [if_neg (by omega)]
  · refine Gx.skip ?_
    refine Gx.thenN ?_
    refine Gx.seq ?_
    refine Gx.region ?_
    refine Gx.val rfl rfl rfl (val_move rfl rfl) ?_
    refine Gx.val rfl rfl rfl (val_move rfl rfl) ?_
    refine Gx.val rfl rfl rfl (val_nilCheck rfl rfl) ?_
    refine Gx.val rfl rfl rfl (Val.cast (val_fieldAddr rfl Try.underlying46 rfl Try.ty3 rfl rfl) (v' := ptr (sB pv) (sO pv + i * 2)) rfl) ?_
    refine Gx.val rfl rfl rfl (val_load rfl Try.ty3 rfl rfl (cell_own (i := 0) (k := 1) rfl hp rfl)) ?_
    refine Gx.val rfl rfl rfl (val_nilCheck rfl rfl) ?_
    refine Gx.val rfl rfl rfl (Val.cast (val_fieldAddr rfl Try.underlying46 rfl Try.ty3 rfl rfl) (v' := ptr (sB pv) (sO pv + i * 2 + 1)) rfl) ?_
    refine Gx.eff0 rfl rfl (eff_storeEl (i := 1) (e' := (⟨p.mo, p.mo⟩ : Pr)) rfl Try.ty3 rfl rfl rfl rfl (k := 1) rfl FP_len hp (by decide) (rfl) (l' := [Hp.rec_ S [pv, .map (some mb)], Hp.own FP 2 pv ((s.ps).set i (⟨p.mo, p.mo⟩ : Pr)), Hp.map Try.prog 47 pairL vB mb ks, Hp.big rowH rs, R]) rfl) ?_
    rintro _ _ rfl
    refine Gx.done ?_
    refine Gx.thenN ?_
    refine Gx.seq ?_
    refine Gx.region ?_
    refine Gx.val rfl rfl rfl (val_move rfl rfl) ?_
    refine Gx.val rfl rfl rfl (val_nilCheck rfl rfl) ?_
    refine Gx.val rfl rfl rfl (Val.cast (val_fieldAddr rfl Try.underlying44 rfl Try.ty42 rfl rfl) (v' := ptr S 1) rfl) ?_
    refine Gx.val rfl rfl rfl (val_load rfl Try.ty42 rfl rfl (cell_rec (k := 0) rfl rfl)) ?_
    refine Gx.eff rfl rfl rfl (eff_range rfl Try.underlying42 rfl (k := 2) rfl) ?_
    rintro _ _ ⟨r2, rfl, rfl⟩
    refine Gx.norm (l' := [Hp.rec_ S [pv, .map (some mb)], Hp.own FP 2 pv ((s.ps).set i (⟨p.mo, p.mo⟩ : Pr)), Hp.iter Try.prog 47 pairL vB mb r2 ks ks, Hp.big rowH rs, R]) rfl ?_
    refine Gx.done ?_
    refine Gx.thenN ?_
    refine Gx.block ?_
    refine Gx.loop (ι := Ks × (List Rm)) (fun ξ => (Half i ks ξ.1 ξ.2 s.w)) (fun ξ => [(0, ptr S 0), (1, .int .i64 ((i : Nat) : Int)), (29, ptr r2 0)]) (fun ξ => [Hp.rec_ S [pv, .map (some mb)], Hp.own FP 2 pv ((s.ps).set i (⟨p.mo, p.mo⟩ : Pr)), Hp.iter Try.prog 47 pairL vB mb r2 ks ξ.1, Hp.big rowH ξ.2, R]) (fun ξ => ξ.1.length) (ks, rs) (Half.start hok) ((.cons rfl (.cons rfl (.cons rfl .nil)))) rfl ?_
    rintro ⟨left, rr⟩ hh
    dsimp only at hh
    refine Gx.know (m' := [(0, ptr S 0), (1, .int .i64 ((i : Nat) : Int)), (29, ptr r2 0)]) (.cons rfl (.cons rfl (.cons rfl .nil))) (Gx.norm (l' := [Hp.rec_ S [pv, .map (some mb)], Hp.own FP 2 pv ((s.ps).set i (⟨p.mo, p.mo⟩ : Pr)), Hp.iter Try.prog 47 pairL vB mb r2 ks left, Hp.big rowH rr, R]) rfl ?_)
    refine Gx.seq ?_
    refine Gx.region ?_
    refine Gx.eff rfl rfl rfl (eff_next (kf := pairV) rfl Try.kL (fun _ _ => trivial) rfl (k := 2) rfl) ?_
    rintro _ _ (⟨hl3, rfl, rfl⟩ | ⟨ka4, xv5, rs6, hp7, rfl, rfl⟩)
    · refine Gx.norm (l' := [Hp.rec_ S [pv, .map (some mb)], Hp.own FP 2 pv ((s.ps).set i (⟨p.mo, p.mo⟩ : Pr)), Hp.map Try.prog 47 pairL vB mb ks, Hp.big rowH rr, R]) rfl ?_
      refine Gx.val rfl rfl rfl (val_extract rfl rfl rfl) ?_
      refine Gx.done ?_
      refine Gx.thenN ?_
      refine Gx.seq ?_
      refine Gx.f rfl ?_
      refine Gx.exit ?_
      refine Gx.thenE ?_
      refine Gx.thenE ?_
      refine Gx.blkE ?_
      refine Gx.endN ?_
      have hd := hh
      rw [hl3] at hd
      refine Gx.ret0 Try.results16 ?_
      refine ⟨rr, ?_, rfl, ?_⟩
      · unfold noteS; rw [hp]; dsimp only; rw [if_pos (by omega)]; exact Half.done hok hd
      · unfold noteS; rw [hp]; dsimp only; rw [if_pos (by omega)]
    · refine Gx.norm (l' := [Hp.rec_ S [pv, .map (some mb)], Hp.own FP 2 pv ((s.ps).set i (⟨p.mo, p.mo⟩ : Pr)), Hp.iterE Try.prog 47 pairL vB pairV mb r2 ks rs6 ka4 xv5, Hp.big rowH rr, R]) rfl ?_
      refine Gx.val rfl rfl rfl (val_extract rfl rfl rfl) ?_
      refine Gx.done ?_
      refine Gx.thenN ?_
      refine Gx.seq ?_
      refine Gx.t rfl ?_
      refine Gx.skip ?_
      refine Gx.thenN ?_
      refine Gx.block ?_
      refine Gx.seq ?_
      refine Gx.region ?_
      refine Gx.eff rfl rfl rfl (eff_entry rfl rfl (k := 2) rfl) ?_
      rintro _ _ ⟨rfl, rfl⟩
      refine Gx.norm (l' := [Hp.rec_ S [pv, .map (some mb)], Hp.own FP 2 pv ((s.ps).set i (⟨p.mo, p.mo⟩ : Pr)), Hp.iter Try.prog 47 pairL vB mb r2 ks rs6, Hp.big rowH rr, R]) rfl ?_
      refine Gx.val rfl rfl rfl (val_extract rfl rfl rfl) ?_
      refine Gx.val rfl rfl rfl (val_extract rfl rfl rfl) ?_
      refine Gx.eff rfl rfl rfl (eff_alloc rfl Try.ty47 (vs := [.int .i64 0, .int .i64 0]) rfl) ?_
      rintro _ _ ⟨b8, rfl, rfl⟩
      refine Gx.eff0 rfl rfl (eff_store rfl Try.ty47 rfl rfl (us := [.int .i64 ((ka4.1.val : Nat) : Int), .int .i64 ((ka4.2.val : Nat) : Int)]) rfl rfl rfl (k := 0) rfl (rfl) (vs' := [.int .i64 ((ka4.1.val : Nat) : Int), .int .i64 ((ka4.2.val : Nat) : Int)]) (rfl) (l' := [Hp.rec_ b8 [.int .i64 ((ka4.1.val : Nat) : Int), .int .i64 ((ka4.2.val : Nat) : Int)], Hp.rec_ S [pv, .map (some mb)], Hp.own FP 2 pv ((s.ps).set i (⟨p.mo, p.mo⟩ : Pr)), Hp.iter Try.prog 47 pairL vB mb r2 ks rs6, Hp.big rowH rr, R]) rfl) ?_
      rintro _ _ rfl
      refine Gx.val rfl rfl rfl (val_assign rfl rfl) ?_
      refine Gx.done ?_
      refine Gx.thenN ?_
      refine Gx.seq ?_
      obtain ⟨kk, r, hkk, hrr, rfl, hrw⟩ := hh.at_ hp7
      refine Gx.know (m' := [(0, ptr S 0), (1, .int .i64 ((i : Nat) : Int)), (29, ptr r2 0), (30, .tuple #[.bool true, .agg #[.int .i64 ((ka4.1.val : Nat) : Int), .int .i64 ((ka4.2.val : Nat) : Int)], ptr r.b 0]), (31, .bool true), (32, .tuple #[.agg #[.int .i64 ((ka4.1.val : Nat) : Int), .int .i64 ((ka4.2.val : Nat) : Int)], ptr r.b 0]), (33, .agg #[.int .i64 ((ka4.1.val : Nat) : Int), .int .i64 ((ka4.2.val : Nat) : Int)]), (34, ptr r.b 0), (5, ptr b8 0), (6, ptr r.b 0)]) (.cons rfl (.cons rfl (.cons rfl (.cons rfl (.cons rfl (.cons rfl (.cons rfl (.cons rfl (.cons rfl (.cons rfl .nil)))))))))) (Gx.norm (l' := [Hp.rec_ b8 [.int .i64 ((ka4.1.val : Nat) : Int), .int .i64 ((ka4.2.val : Nat) : Int)], Hp.rec_ S [pv, .map (some mb)], Hp.own FP 2 pv ((s.ps).set i (⟨p.mo, p.mo⟩ : Pr)), Hp.iter Try.prog 47 pairL vB mb r2 ks rs6, Hp.big rowH rr, R]) rfl ?_)
      refine Gx.region ?_
      refine Gx.val rfl rfl rfl (Val.cast (val_ixaA rfl Try.underlying47 Try.ty3 rfl rfl (j := 0) (rfl) (by omega)) (v' := ptr b8 0) rfl) ?_
      refine Gx.val rfl rfl rfl (val_load rfl Try.ty3 rfl rfl (cell_rec (k := 0) rfl rfl)) ?_
      refine Gx.val rfl rfl rfl (val_move rfl rfl) ?_
      refine Gx.val rfl rfl rfl (val_eql rfl rfl rfl) ?_
      refine Gx.done ?_
      refine Gx.thenN ?_
      refine Gx.dec rfl (fun h9 => ?_) (fun h9 => ?_)
      · have hql : r.w.q.length ≤ 10000 := by rw [hrw]; exact hq _
        refine Gx.focus (n := 4) (k := kk) rfl hrr (fun R10 hf11 hg12 => ?_)
        refine Gx.norm (l' := [Hp.rec_ b8 [.int .i64 ((ka4.1.val : Nat) : Int), .int .i64 ((ka4.2.val : Nat) : Int)], Hp.rec_ S [pv, .map (some mb)], Hp.own FP 2 pv ((s.ps).set i (⟨p.mo, p.mo⟩ : Pr)), Hp.iter Try.prog 47 pairL vB mb r2 ks rs6, rowH r, R, R10]) rfl ?_
        refine Gx.cleave 4 (p := Hp.rec_ r.b [r.qv, r.nv, .bool r.w.cl]) (q := Hp.own FI 1 r.qv r.w.q * Hp.own FI 1 r.nv r.w.nt) rfl rfl rfl ?_
        refine Gx.cleave 1 (p := Hp.own FI 1 r.qv r.w.q) (q := Hp.own FI 1 r.nv r.w.nt) rfl rfl rfl ?_
        refine Gx.norm (l' := [Hp.own FI 1 r.qv r.w.q, Hp.own FI 1 r.nv r.w.nt, Hp.rec_ r.b [r.qv, r.nv, .bool r.w.cl], Hp.rec_ b8 [.int .i64 ((ka4.1.val : Nat) : Int), .int .i64 ((ka4.2.val : Nat) : Int)], Hp.rec_ S [pv, .map (some mb)], Hp.own FP 2 pv ((s.ps).set i (⟨p.mo, p.mo⟩ : Pr)), Hp.iter Try.prog 47 pairL vB mb r2 ks rs6, R, R10]) rfl ?_
        refine Gx.region ?_
        refine Gx.val rfl rfl rfl (val_move rfl rfl) ?_
        refine Gx.val rfl rfl rfl (val_move rfl rfl) ?_
        refine Gx.val rfl rfl rfl (val_nilCheck rfl rfl) ?_
        refine Gx.val rfl rfl rfl (Val.cast (val_fieldAddr rfl Try.underlying50 rfl Try.ty22 rfl rfl) (v' := ptr r.b 0) rfl) ?_
        refine Gx.val rfl rfl rfl (val_load rfl Try.ty22 rfl rfl (cell_rec (k := 2) rfl rfl)) ?_
        refine Gx.eff rfl rfl rfl (eff_buildSlice rfl (qs := [(0, .int .i64 (-1))]) rfl rfl (cs := #[.int .i64 (-1)]) (vs := [.int .i64 (-1)]) (E := 3) rfl (fun w => by first | (go_simp; done) | (go_simp; rfl))) ?_
        rintro _ _ ⟨b13, rfl, rfl⟩
        refine Gx.eff rfl rfl rfl (eff_push (r := (-1)) rfl Try.eI FI_len FI_one rfl rfl (k := 0) rfl rfl (k' := 0) rfl (by omega) (by omega)) ?_
        rintro v14 _ ⟨hiv14, rfl⟩
        refine Gx.norm (l' := [Hp.own FI 1 v14 (r.w.q ++ [(-1)]), Hp.own FI 1 r.nv r.w.nt, Hp.rec_ r.b [r.qv, r.nv, .bool r.w.cl], Hp.rec_ b8 [.int .i64 ((ka4.1.val : Nat) : Int), .int .i64 ((ka4.2.val : Nat) : Int)], Hp.rec_ S [pv, .map (some mb)], Hp.own FP 2 pv ((s.ps).set i (⟨p.mo, p.mo⟩ : Pr)), Hp.iter Try.prog 47 pairL vB mb r2 ks rs6, R, R10]) rfl ?_
        refine Gx.val rfl rfl rfl (val_nilCheck rfl rfl) ?_
        refine Gx.val rfl rfl rfl (Val.cast (val_fieldAddr rfl Try.underlying50 rfl Try.ty22 rfl rfl) (v' := ptr r.b 0) rfl) ?_
        refine Gx.eff0 rfl rfl (eff_store rfl Try.ty22 rfl rfl (us := [v14]) hiv14.cellsL rfl hiv14.all (k := 2) rfl (rfl) (vs' := [v14, r.nv, .bool r.w.cl]) (rfl) (l' := [Hp.own FI 1 v14 (r.w.q ++ [(-1)]), Hp.own FI 1 r.nv r.w.nt, Hp.rec_ r.b [v14, r.nv, .bool r.w.cl], Hp.rec_ b8 [.int .i64 ((ka4.1.val : Nat) : Int), .int .i64 ((ka4.2.val : Nat) : Int)], Hp.rec_ S [pv, .map (some mb)], Hp.own FP 2 pv ((s.ps).set i (⟨p.mo, p.mo⟩ : Pr)), Hp.iter Try.prog 47 pairL vB mb r2 ks rs6, R, R10]) rfl) ?_
        rintro _ _ rfl
        refine Gx.done ?_
        refine Gx.blkN ?_
        refine Gx.thenN ?_
        refine Gx.front 8 rfl ?_
        refine Gx.front 2 rfl ?_
        refine Gx.front 2 rfl ?_
        refine Gx.front 3 rfl ?_
        refine Gx.sepEq (l' := [Hp.big rowH (rr.set kk (⟨r.b, v14, r.nv, ⟨(r.w.q ++ [(-1)]), r.w.nt, r.w.cl⟩⟩ : Rm)), Hp.rec_ b8 [.int .i64 ((ka4.1.val : Nat) : Int), .int .i64 ((ka4.2.val : Nat) : Int)], Hp.rec_ S [pv, .map (some mb)], Hp.own FP 2 pv ((s.ps).set i (⟨p.mo, p.mo⟩ : Pr)), Hp.iter Try.prog 47 pairL vB mb r2 ks rs6, R]) (by show Hp.rec_ r.b [v14, r.nv, .bool r.w.cl] * (Hp.own FI 1 v14 (r.w.q ++ [(-1)]) * (Hp.own FI 1 r.nv r.w.nt * (R10 * _))) = Hp.big rowH (rr.set kk (⟨r.b, v14, r.nv, ⟨(r.w.q ++ [(-1)]), r.w.nt, r.w.cl⟩⟩ : Rm)) * _; rw [(hg12 (⟨r.b, v14, r.nv, ⟨(r.w.q ++ [(-1)]), r.w.nt, r.w.cl⟩⟩ : Rm))]; show _ = (Hp.rec_ r.b [v14, r.nv, .bool r.w.cl] * (Hp.own FI 1 v14 (r.w.q ++ [(-1)]) * Hp.own FI 1 r.nv r.w.nt) * R10) * _; simp only [Hp.mul_assoc] <;> rfl) ?_
        refine Gx.drop 1 rfl ?_
        refine Gx.front 4 rfl ?_
        refine Gx.front 1 rfl ?_
        refine Gx.front 4 rfl ?_
        refine Gx.front 4 rfl ?_
        refine Gx.front 4 rfl ?_
        exact Gx.round (rs6, (rr.set kk (⟨r.b, v14, r.nv, ⟨(r.w.q ++ [(-1)]), r.w.nt, r.w.cl⟩⟩ : Rm))) (hh.next (pw_nodup hok.nodup) hp7 hkk hrr (y := (⟨r.b, v14, r.nv, ⟨(r.w.q ++ [(-1)]), r.w.nt, r.w.cl⟩⟩ : Rm)) rfl (by unfold markW; rw [if_pos (by apply Fin.ext; rw [smN_val (by omega)]; omega), ← hrw] <;> rfl)) (by have e9 := hp7.length_eq; simp only [List.length_cons] at e9; dsimp only at e9 ⊢; omega) ((.cons rfl (.cons rfl (.cons rfl .nil)))) rfl
      · refine Gx.skip ?_
        refine Gx.blkN ?_
        refine Gx.thenN ?_
        refine Gx.drop 0 rfl ?_
        exact Gx.round (rs6, rr) (hh.skip (pw_nodup hok.nodup) hp7 hkk hrr hrw (by omega) (by omega)) (by have e9 := hp7.length_eq; simp only [List.length_cons] at e9; dsimp only at e9 ⊢; omega) ((.cons rfl (.cons rfl (.cons rfl .nil)))) rfl

end Go.Proofs.Ytanipkddfngnnaa
