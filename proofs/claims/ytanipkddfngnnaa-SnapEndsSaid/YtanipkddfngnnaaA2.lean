/- Something comes. The walk. No condition. -/
import Derived.Test.YtanipkddfngnnaaA1
namespace Go.Proofs.Ytanipkddfngnnaa
open Go.RowKit
set_option linter.unusedVariables false
set_option linter.unusedSimpArgs false
set_option maxRecDepth 100000

theorem note_w {s : SS} {i : Nat} {a : Sm × Sm} (h : a.1 ≠ smN i) : (noteS s i).w a = s.w a := by
  unfold noteS
  split
  · split
    · show markW s.w i a = _
      unfold markW; rw [if_neg h]
    · rfl
  · rfl
theorem row_isS {W w : World} {A B C R : Hp} {rs : List Rm} {k : Nat} {r : Rm} (hr : rs[k]? = some r) (H : Sat W w (sep [A, B, C, Hp.big rowH rs, R])) : IsS r.qv := by
  obtain ⟨R0, h1, _⟩ := Hp.big_focus rowH rs k r hr
  have H1 := H.at_ (k := 3) rfl
  rw [h1] at H1
  refine isS_own (f := FI) (sz := 1) (xs := r.w.q) (R := recW r * Hp.own FI 1 r.nv r.w.nt * R0 * (A * (B * (C * (R * 1))))) (H1.cast ?_)
  show (recW r * (Hp.own FI 1 r.qv r.w.q * Hp.own FI 1 r.nv r.w.nt)) * R0 * (A * (B * (C * (R * 1)))) = _
  ac_rfl
theorem upW_self (w : Wy) (k : Sm × Sm) (x : Wm) : upW w k x k = x := if_pos rfl
theorem upW_len {w : Wy} {k : Sm × Sm} {x : Wm} {m : Nat} (h : ∀ a, (w a).q.length ≤ m) (hx : x.q.length ≤ m) (a : Sm × Sm) : (upW w k x a).q.length ≤ m := by
  unfold upW; split
  · exact hx
  · exact h a
theorem take_none {W w : World} {S n : Nat} {i frm : Sm} {s : SS} {p : Pr} {R : Hp} (hp : s.ps[i.val]? = some p) (hn : s.ps.length ≤ 6) (hin : i.val < n) (hfn : frm.val < n) (hne : frm ≠ i) (hq : ∀ a, (s.w a).q.length ≤ 10000) (hnt : ∀ a, (s.w a).nt.length ≤ 10000) (h0 : (s.w (frm, i)).q = []) (H : Sat W w (worldH S n s * R)) :
    Calls Try.prog 17 #[ptr S 0, .int .i64 ((frm.val : Nat) : Int), .int .i64 ((i.val : Nat) : Int)] w (Ret W fun v l => v = .int .i64 5 ∧ sep l = worldH S n (takeS s i.val frm.val).2 * R) := by
  obtain ⟨pv, mb, ks, rs, hok, H⟩ := worldH.open_ H
  obtain ⟨kk, r, hkk, hrr, hrw, hgk⟩ := hok.at_ (a := (frm, i)) hfn hin hne
  have hqs := row_isS hrr H
  have hi6 := (List.getElem?_eq_some_iff.1 hp).1
  have hrq := hq (frm, i)
  have hrn := hnt (frm, i)
  rw [← hrw] at hrq hrn
  refine Gx.enter (l := [Hp.rec_ S [pv, .map (some mb)], Hp.own FP 2 pv s.ps, Hp.map Try.prog 47 pairL vB mb ks, Hp.big rowH rs, R]) Try.func17 rfl Try.ntmps17 rfl (H) ?_
  refine Gx.know (m' := [(0, ptr S 0), (1, .int .i64 ((frm.val : Nat) : Int)), (2, .int .i64 ((i.val : Nat) : Int))]) (.cons rfl (.cons rfl (.cons rfl .nil))) ?_
  refine Gx.seq ?_
  refine Gx.region ?_
  refine Gx.val rfl rfl rfl (val_assign rfl rfl) ?_
  refine Gx.done ?_
  refine Gx.thenN ?_
  refine Gx.seq ?_
  refine Gx.region ?_
  refine Gx.val rfl rfl rfl (val_move rfl rfl) ?_
  refine Gx.val rfl rfl rfl (val_nilCheck rfl rfl) ?_
  refine Gx.val rfl rfl rfl (Val.cast (val_fieldAddr rfl Try.underlying44 rfl Try.ty42 rfl rfl) (v' := ptr S 1) rfl) ?_
  refine Gx.val rfl rfl rfl (val_load rfl Try.ty42 rfl rfl (cell_rec (k := 0) rfl rfl)) ?_
  refine Gx.val rfl rfl rfl (val_move rfl rfl) ?_
  refine Gx.val rfl rfl rfl (val_move rfl rfl) ?_
  refine Gx.val rfl rfl rfl (val_build rfl (qs := [(0, .int .i64 ((frm.val : Nat) : Int)), (1, .int .i64 ((i.val : Nat) : Int))]) rfl rfl (fun w => by go_simp) (v := .agg #[.int .i64 ((frm.val : Nat) : Int), .int .i64 ((i.val : Nat) : Int)])) ?_
  refine Gx.val rfl rfl rfl (val_lookup1 rfl Try.underlying42 Try.kL Try.ty48 rfl rfl (i := (frm, i)) (trivial) (k := 2) rfl (r := ptr r.b 0) (by rw [hgk]; rfl)) ?_
  refine Gx.val rfl rfl rfl (val_assign rfl rfl) ?_
  refine Gx.done ?_
  refine Gx.thenN ?_
  refine Gx.seq ?_
  refine Gx.seq ?_
  refine Gx.focus (n := 3) (k := kk) rfl hrr (fun R1 hf2 hg3 => ?_)
  refine Gx.norm (l' := [Hp.rec_ S [pv, .map (some mb)], Hp.own FP 2 pv s.ps, Hp.map Try.prog 47 pairL vB mb ks, rowH r, R, R1]) rfl ?_
  refine Gx.cleave 3 (p := Hp.rec_ r.b [r.qv, r.nv, .bool r.w.cl]) (q := Hp.own FI 1 r.qv r.w.q * Hp.own FI 1 r.nv r.w.nt) rfl rfl rfl ?_
  refine Gx.cleave 1 (p := Hp.own FI 1 r.qv r.w.q) (q := Hp.own FI 1 r.nv r.w.nt) rfl rfl rfl ?_
  refine Gx.norm (l' := [Hp.own FI 1 r.qv r.w.q, Hp.own FI 1 r.nv r.w.nt, Hp.rec_ r.b [r.qv, r.nv, .bool r.w.cl], Hp.rec_ S [pv, .map (some mb)], Hp.own FP 2 pv s.ps, Hp.map Try.prog 47 pairL vB mb ks, R, R1]) rfl ?_
  refine Gx.region ?_
  refine Gx.val rfl rfl rfl (val_move rfl rfl) ?_
  refine Gx.val rfl rfl rfl (val_nilCheck rfl rfl) ?_
  refine Gx.val rfl rfl rfl (Val.cast (val_fieldAddr rfl Try.underlying50 rfl Try.ty22 rfl rfl) (v' := ptr r.b 0) rfl) ?_
  refine Gx.val rfl rfl rfl (val_load rfl Try.ty22 rfl rfl (cell_rec (k := 2) rfl rfl)) ?_
  refine Gx.val rfl rfl rfl (val_len rfl Try.underlying22 rfl (len_own (k := 0) rfl)) ?_
  refine Gx.val rfl rfl rfl (val_eql rfl rfl rfl) ?_
  refine Gx.done ?_
  refine Gx.thenN ?_
  refine Gx.decT rfl (by rw [hrw, h0]; rfl) ?_
  refine Gx.seq ?_
  refine Gx.region ?_
  refine Gx.val rfl rfl rfl (val_assign rfl rfl) ?_
  refine Gx.done ?_
  refine Gx.thenN ?_
  refine Gx.ret ?_
  refine Gx.thenR ?_
  refine Gx.front 7 rfl ?_
  refine Gx.front 2 rfl ?_
  refine Gx.front 2 rfl ?_
  refine Gx.front 3 rfl ?_
  refine Gx.sepEq (l' := [Hp.big rowH rs, Hp.rec_ S [pv, .map (some mb)], Hp.own FP 2 pv s.ps, Hp.map Try.prog 47 pairL vB mb ks, R]) (by show Hp.rec_ r.b [r.qv, r.nv, .bool r.w.cl] * (Hp.own FI 1 r.qv r.w.q * (Hp.own FI 1 r.nv r.w.nt * (R1 * _))) = Hp.big rowH rs * _; rw [hf2]; show _ = (Hp.rec_ r.b [r.qv, r.nv, .bool r.w.cl] * (Hp.own FI 1 r.qv r.w.q * Hp.own FI 1 r.nv r.w.nt) * R1) * _; simp only [Hp.mul_assoc] <;> rfl) ?_
  refine Gx.front 4 rfl ?_
  refine Gx.front 1 rfl ?_
  refine Gx.front 4 rfl ?_
  refine Gx.front 4 rfl ?_
  refine Gx.front 4 rfl ?_
  refine Gx.sat (l' := [worldH S n s, R]) (fun w H => worldH.shut (s := s) (hok) H) ?_
  refine Gx.ret1 Try.results17 rfl ?_
  refine ⟨rfl, ?_⟩
  rw [sep1]
  unfold takeS
  rw [smN_self, smN_self, h0]

theorem take_mark {W w : World} {S n : Nat} {i frm : Sm} {s : SS} {p : Pr} {x : Int} {lr : List Int} {R : Hp} (hp : s.ps[i.val]? = some p) (hn : s.ps.length ≤ 6) (hin : i.val < n) (hfn : frm.val < n) (hne : frm ≠ i) (hq : ∀ a, (s.w a).q.length ≤ 10000) (hnt : ∀ a, (s.w a).nt.length ≤ 10000) (h0 : (s.w (frm, i)).q = x :: lr) (hx9 : x = -1) (H : Sat W w (worldH S n s * R)) :
    Calls Try.prog 17 #[ptr S 0, .int .i64 ((frm.val : Nat) : Int), .int .i64 ((i.val : Nat) : Int)] w (Ret W fun v l => v = .int .i64 0 ∧ sep l = worldH S n (takeS s i.val frm.val).2 * R) := by
  obtain ⟨pv, mb, ks, rs, hok, H⟩ := worldH.open_ H
  obtain ⟨kk, r, hkk, hrr, hrw, hgk⟩ := hok.at_ (a := (frm, i)) hfn hin hne
  have hqs := row_isS hrr H
  have hi6 := (List.getElem?_eq_some_iff.1 hp).1
  have hrq := hq (frm, i)
  have hrn := hnt (frm, i)
  rw [← hrw] at hrq hrn
  have hx0 : r.w.q[0]? = some x := by rw [hrw, h0]; rfl
  have hlr : r.w.q = x :: lr := by rw [hrw, h0]
  have hll : lr.length ≤ 10000 := by rw [hlr] at hrq; simp at hrq; omega
  refine Gx.enter (l := [Hp.rec_ S [pv, .map (some mb)], Hp.own FP 2 pv s.ps, Hp.map Try.prog 47 pairL vB mb ks, Hp.big rowH rs, R]) Try.func17 rfl Try.ntmps17 rfl (H) ?_
  refine Gx.know (m' := [(0, ptr S 0), (1, .int .i64 ((frm.val : Nat) : Int)), (2, .int .i64 ((i.val : Nat) : Int))]) (.cons rfl (.cons rfl (.cons rfl .nil))) ?_
  refine Gx.seq ?_
  refine Gx.region ?_
  refine Gx.val rfl rfl rfl (val_assign rfl rfl) ?_
  refine Gx.done ?_
  refine Gx.thenN ?_
  refine Gx.seq ?_
  refine Gx.region ?_
  refine Gx.val rfl rfl rfl (val_move rfl rfl) ?_
  refine Gx.val rfl rfl rfl (val_nilCheck rfl rfl) ?_
  refine Gx.val rfl rfl rfl (Val.cast (val_fieldAddr rfl Try.underlying44 rfl Try.ty42 rfl rfl) (v' := ptr S 1) rfl) ?_
  refine Gx.val rfl rfl rfl (val_load rfl Try.ty42 rfl rfl (cell_rec (k := 0) rfl rfl)) ?_
  refine Gx.val rfl rfl rfl (val_move rfl rfl) ?_
  refine Gx.val rfl rfl rfl (val_move rfl rfl) ?_
  refine Gx.val rfl rfl rfl (val_build rfl (qs := [(0, .int .i64 ((frm.val : Nat) : Int)), (1, .int .i64 ((i.val : Nat) : Int))]) rfl rfl (fun w => by go_simp) (v := .agg #[.int .i64 ((frm.val : Nat) : Int), .int .i64 ((i.val : Nat) : Int)])) ?_
  refine Gx.val rfl rfl rfl (val_lookup1 rfl Try.underlying42 Try.kL Try.ty48 rfl rfl (i := (frm, i)) (trivial) (k := 2) rfl (r := ptr r.b 0) (by rw [hgk]; rfl)) ?_
  refine Gx.val rfl rfl rfl (val_assign rfl rfl) ?_
  refine Gx.done ?_
  refine Gx.thenN ?_
  refine Gx.seq ?_
  refine Gx.seq ?_
  refine Gx.focus (n := 3) (k := kk) rfl hrr (fun R1 hf2 hg3 => ?_)
  refine Gx.norm (l' := [Hp.rec_ S [pv, .map (some mb)], Hp.own FP 2 pv s.ps, Hp.map Try.prog 47 pairL vB mb ks, rowH r, R, R1]) rfl ?_
  refine Gx.cleave 3 (p := Hp.rec_ r.b [r.qv, r.nv, .bool r.w.cl]) (q := Hp.own FI 1 r.qv r.w.q * Hp.own FI 1 r.nv r.w.nt) rfl rfl rfl ?_
  refine Gx.cleave 1 (p := Hp.own FI 1 r.qv r.w.q) (q := Hp.own FI 1 r.nv r.w.nt) rfl rfl rfl ?_
  refine Gx.norm (l' := [Hp.own FI 1 r.qv r.w.q, Hp.own FI 1 r.nv r.w.nt, Hp.rec_ r.b [r.qv, r.nv, .bool r.w.cl], Hp.rec_ S [pv, .map (some mb)], Hp.own FP 2 pv s.ps, Hp.map Try.prog 47 pairL vB mb ks, R, R1]) rfl ?_
  refine Gx.region ?_
  refine Gx.val rfl rfl rfl (val_move rfl rfl) ?_
  refine Gx.val rfl rfl rfl (val_nilCheck rfl rfl) ?_
  refine Gx.val rfl rfl rfl (Val.cast (val_fieldAddr rfl Try.underlying50 rfl Try.ty22 rfl rfl) (v' := ptr r.b 0) rfl) ?_
  refine Gx.val rfl rfl rfl (val_load rfl Try.ty22 rfl rfl (cell_rec (k := 2) rfl rfl)) ?_
  refine Gx.val rfl rfl rfl (val_len rfl Try.underlying22 rfl (len_own (k := 0) rfl)) ?_
  refine Gx.val rfl rfl rfl (val_eql rfl rfl rfl) ?_
  refine Gx.done ?_
  refine Gx.thenN ?_
  refine Gx.decF rfl (by rw [hlr]; simp; omega) ?_
  refine Gx.skip ?_
  refine Gx.thenN ?_
  refine Gx.seq ?_
  refine Gx.region ?_
  refine Gx.val rfl rfl rfl (val_move rfl rfl) ?_
  refine Gx.val rfl rfl rfl (val_nilCheck rfl rfl) ?_
  refine Gx.val rfl rfl rfl (Val.cast (val_fieldAddr rfl Try.underlying50 rfl Try.ty22 rfl rfl) (v' := ptr r.b 0) rfl) ?_
  refine Gx.val rfl rfl rfl (val_load rfl Try.ty22 rfl rfl (cell_rec (k := 2) rfl rfl)) ?_
  refine Gx.val rfl rfl rfl (val_ixa rfl Try.underlying22 Try.ty3 rfl rfl (j := 0) (rfl) (reach_own (k := 0) rfl hx0)) ?_
  refine Gx.val rfl rfl rfl (val_load rfl Try.ty3 rfl rfl (cell_own (i := 0) (sz := 1) (j := 0) (k := 0) rfl hx0 rfl)) ?_
  refine Gx.val rfl rfl rfl (val_assign rfl rfl) ?_
  refine Gx.done ?_
  refine Gx.thenN ?_
  refine Gx.seq ?_
  refine Gx.region ?_
  refine Gx.val rfl rfl rfl (val_move rfl rfl) ?_
  refine Gx.val rfl rfl rfl (val_move rfl rfl) ?_
  refine Gx.val rfl rfl rfl (val_nilCheck rfl rfl) ?_
  refine Gx.val rfl rfl rfl (Val.cast (val_fieldAddr rfl Try.underlying50 rfl Try.ty22 rfl rfl) (v' := ptr r.b 0) rfl) ?_
  refine Gx.val rfl rfl rfl (val_load rfl Try.ty22 rfl rfl (cell_rec (k := 2) rfl rfl)) ?_
  refine Gx.val rfl rfl rfl (val_cutFromO (lo := 1) rfl Try.underlying22 Try.ty3 rfl (n := 0) rfl rfl (rfl) (by rw [hlr]; simp)) ?_
  refine Gx.val rfl rfl rfl (val_nilCheck rfl rfl) ?_
  refine Gx.val rfl rfl rfl (Val.cast (val_fieldAddr rfl Try.underlying50 rfl Try.ty22 rfl rfl) (v' := ptr r.b 0) rfl) ?_
  refine Gx.eff0 rfl rfl (eff_store rfl Try.ty22 rfl rfl (us := [sCut 1 1 r.w.q.length r.qv]) ((sCut_isS hqs).cellsL) rfl ((sCut_isS hqs).all) (k := 2) rfl (rfl) (vs' := [sCut 1 1 r.w.q.length r.qv, r.nv, .bool r.w.cl]) (rfl) (l' := [Hp.own FI 1 r.qv r.w.q, Hp.own FI 1 r.nv r.w.nt, Hp.rec_ r.b [sCut 1 1 r.w.q.length r.qv, r.nv, .bool r.w.cl], Hp.rec_ S [pv, .map (some mb)], Hp.own FP 2 pv s.ps, Hp.map Try.prog 47 pairL vB mb ks, R, R1]) rfl) ?_
  rintro _ _ rfl
  refine Gx.done ?_
  refine Gx.thenN ?_
  refine Gx.seq ?_
  refine Gx.seq ?_
  refine Gx.ownCut (k := 0) 1 r.w.q.length rfl (by rw [hlr]; simp) (Nat.le_refl _) (l' := [Hp.own FI 1 (sCut 1 1 r.w.q.length r.qv) lr, Hp.own FI 1 r.nv r.w.nt, Hp.rec_ r.b [sCut 1 1 r.w.q.length r.qv, r.nv, .bool r.w.cl], Hp.rec_ S [pv, .map (some mb)], Hp.own FP 2 pv s.ps, Hp.map Try.prog 47 pairL vB mb ks, R, R1]) (by rw [show (List.take r.w.q.length r.w.q).drop 1 = lr from by rw [List.take_length, hlr]; rfl] <;> rfl) ?_
  refine Gx.region ?_
  refine Gx.val rfl rfl rfl (val_move rfl rfl) ?_
  refine Gx.val rfl rfl rfl (val_eql rfl rfl rfl) ?_
  refine Gx.done ?_
  refine Gx.thenN ?_
  refine Gx.decT rfl (by omega) ?_
  refine Gx.seq ?_
  refine Gx.front 7 rfl ?_
  refine Gx.front 2 rfl ?_
  refine Gx.front 2 rfl ?_
  refine Gx.front 3 rfl ?_
  refine Gx.sepEq (l' := [Hp.big rowH (rs.set kk (⟨r.b, (sCut 1 1 r.w.q.length r.qv), r.nv, ⟨lr, r.w.nt, r.w.cl⟩⟩ : Rm)), Hp.rec_ S [pv, .map (some mb)], Hp.own FP 2 pv s.ps, Hp.map Try.prog 47 pairL vB mb ks, R]) (by show Hp.rec_ r.b [(sCut 1 1 r.w.q.length r.qv), r.nv, .bool r.w.cl] * (Hp.own FI 1 (sCut 1 1 r.w.q.length r.qv) lr * (Hp.own FI 1 r.nv r.w.nt * (R1 * _))) = Hp.big rowH (rs.set kk (⟨r.b, (sCut 1 1 r.w.q.length r.qv), r.nv, ⟨lr, r.w.nt, r.w.cl⟩⟩ : Rm)) * _; rw [(hg3 (⟨r.b, (sCut 1 1 r.w.q.length r.qv), r.nv, ⟨lr, r.w.nt, r.w.cl⟩⟩ : Rm))]; show _ = (Hp.rec_ r.b [(sCut 1 1 r.w.q.length r.qv), r.nv, .bool r.w.cl] * (Hp.own FI 1 (sCut 1 1 r.w.q.length r.qv) lr * Hp.own FI 1 r.nv r.w.nt) * R1) * _; simp only [Hp.mul_assoc] <;> rfl) ?_
  have hok1 : ROk n ks (rs.set kk (⟨r.b, (sCut 1 1 r.w.q.length r.qv), r.nv, ⟨lr, r.w.nt, r.w.cl⟩⟩ : Rm)) (⟨s.ps, upW s.w (frm, i) ⟨lr, r.w.nt, r.w.cl⟩⟩ : SS).w := hok.set hkk hrr rfl
  refine Gx.front 4 rfl ?_
  refine Gx.front 1 rfl ?_
  refine Gx.front 4 rfl ?_
  refine Gx.front 4 rfl ?_
  refine Gx.front 4 rfl ?_
  refine Gx.region ?_
  refine Gx.val rfl rfl rfl (val_move rfl rfl) ?_
  refine Gx.val rfl rfl rfl (val_move rfl rfl) ?_
  refine Gx.eff rfl rfl rfl (eff_call (vs := [ptr S 0, .int .i64 ((i.val : Nat) : Int)]) rfl Try.fn16 rfl (fun w H => note_open (s := (⟨s.ps, upW s.w (frm, i) ⟨lr, r.w.nt, r.w.cl⟩⟩ : SS)) (i := i.val) hok1 hp hn (upW_len hq hll) H)) ?_
  rintro _ l4 ⟨rr, hok2, rfl, hl4⟩
  refine Gx.sepEq (l' := [Hp.rec_ S [pv, .map (some mb)], Hp.own FP 2 pv ((noteS (⟨s.ps, upW s.w (frm, i) ⟨lr, r.w.nt, r.w.cl⟩⟩ : SS) i.val).ps), Hp.map Try.prog 47 pairL vB mb ks, Hp.big rowH rr, R]) hl4 ?_
  refine Gx.done ?_
  refine Gx.thenN ?_
  refine Gx.seq ?_
  obtain ⟨r2, hr2, hb2⟩ := row_at hok2.bl hkk
  dsimp only at hb2
  have hrw2 := hok2.val kk _ r2 hkk hr2
  rw [note_w (by rw [smN_self]; exact hne)] at hrw2
  have hrw3 : r2.w = ⟨lr, r.w.nt, r.w.cl⟩ := hrw2.trans (upW_self _ _ _)
  refine Gx.focus (n := 3) (k := kk) rfl hr2 (fun R5 hf6 hg7 => ?_)
  refine Gx.norm (l' := [Hp.rec_ S [pv, .map (some mb)], Hp.own FP 2 pv ((noteS (⟨s.ps, upW s.w (frm, i) ⟨lr, r.w.nt, r.w.cl⟩⟩ : SS) i.val).ps), Hp.map Try.prog 47 pairL vB mb ks, rowH r2, R, R5]) rfl ?_
  refine Gx.cleave 3 (p := Hp.rec_ r2.b [r2.qv, r2.nv, .bool r2.w.cl]) (q := Hp.own FI 1 r2.qv r2.w.q * Hp.own FI 1 r2.nv r2.w.nt) rfl rfl rfl ?_
  refine Gx.cleave 1 (p := Hp.own FI 1 r2.qv r2.w.q) (q := Hp.own FI 1 r2.nv r2.w.nt) rfl rfl rfl ?_
  refine Gx.norm (l' := [Hp.own FI 1 r2.qv r2.w.q, Hp.own FI 1 r2.nv r2.w.nt, Hp.rec_ r2.b [r2.qv, r2.nv, .bool r2.w.cl], Hp.rec_ S [pv, .map (some mb)], Hp.own FP 2 pv ((noteS (⟨s.ps, upW s.w (frm, i) ⟨lr, r.w.nt, r.w.cl⟩⟩ : SS) i.val).ps), Hp.map Try.prog 47 pairL vB mb ks, R, R5]) rfl ?_
  refine Gx.norm (l' := [Hp.own FI 1 r2.qv r2.w.q, Hp.own FI 1 r2.nv r2.w.nt, Hp.rec_ r.b [r2.qv, r2.nv, .bool r2.w.cl], Hp.rec_ S [pv, .map (some mb)], Hp.own FP 2 pv ((noteS (⟨s.ps, upW s.w (frm, i) ⟨lr, r.w.nt, r.w.cl⟩⟩ : SS) i.val).ps), Hp.map Try.prog 47 pairL vB mb ks, R, R5]) (by rw [hb2] <;> rfl) ?_
  refine Gx.region ?_
  refine Gx.val rfl rfl rfl (val_move rfl rfl) ?_
  refine Gx.val rfl rfl rfl (val_nilCheck rfl rfl) ?_
  refine Gx.val rfl rfl rfl (Val.cast (val_fieldAddr rfl Try.underlying50 rfl Try.ty4 rfl rfl) (v' := ptr r.b 2) rfl) ?_
  refine Gx.eff0 rfl rfl (eff_store rfl Try.ty4 rfl rfl (us := [.bool true]) rfl rfl rfl (k := 2) rfl (rfl) (vs' := [r2.qv, r2.nv, .bool true]) (rfl) (l' := [Hp.own FI 1 r2.qv r2.w.q, Hp.own FI 1 r2.nv r2.w.nt, Hp.rec_ r.b [r2.qv, r2.nv, .bool true], Hp.rec_ S [pv, .map (some mb)], Hp.own FP 2 pv ((noteS (⟨s.ps, upW s.w (frm, i) ⟨lr, r.w.nt, r.w.cl⟩⟩ : SS) i.val).ps), Hp.map Try.prog 47 pairL vB mb ks, R, R5]) rfl) ?_
  rintro _ _ rfl
  refine Gx.done ?_
  refine Gx.thenN ?_
  refine Gx.seq ?_
  refine Gx.region ?_
  refine Gx.val rfl rfl rfl (val_assign rfl rfl) ?_
  refine Gx.done ?_
  refine Gx.thenN ?_
  refine Gx.ret ?_
  refine Gx.thenR ?_
  refine Gx.norm (l' := [Hp.own FI 1 r2.qv r2.w.q, Hp.own FI 1 r2.nv r2.w.nt, Hp.rec_ r2.b [r2.qv, r2.nv, .bool true], Hp.rec_ S [pv, .map (some mb)], Hp.own FP 2 pv ((noteS (⟨s.ps, upW s.w (frm, i) ⟨lr, r.w.nt, r.w.cl⟩⟩ : SS) i.val).ps), Hp.map Try.prog 47 pairL vB mb ks, R, R5]) (by rw [hb2] <;> rfl) ?_
  refine Gx.front 7 rfl ?_
  refine Gx.front 2 rfl ?_
  refine Gx.front 2 rfl ?_
  refine Gx.front 3 rfl ?_
  refine Gx.sepEq (l' := [Hp.big rowH (rr.set kk (⟨r2.b, r2.qv, r2.nv, ⟨r2.w.q, r2.w.nt, true⟩⟩ : Rm)), Hp.rec_ S [pv, .map (some mb)], Hp.own FP 2 pv ((noteS (⟨s.ps, upW s.w (frm, i) ⟨lr, r.w.nt, r.w.cl⟩⟩ : SS) i.val).ps), Hp.map Try.prog 47 pairL vB mb ks, R]) (by show Hp.rec_ r2.b [r2.qv, r2.nv, .bool true] * (Hp.own FI 1 r2.qv r2.w.q * (Hp.own FI 1 r2.nv r2.w.nt * (R5 * _))) = Hp.big rowH (rr.set kk (⟨r2.b, r2.qv, r2.nv, ⟨r2.w.q, r2.w.nt, true⟩⟩ : Rm)) * _; rw [(hg7 (⟨r2.b, r2.qv, r2.nv, ⟨r2.w.q, r2.w.nt, true⟩⟩ : Rm))]; show _ = (Hp.rec_ r2.b [r2.qv, r2.nv, .bool true] * (Hp.own FI 1 r2.qv r2.w.q * Hp.own FI 1 r2.nv r2.w.nt) * R5) * _; simp only [Hp.mul_assoc] <;> rfl) ?_
  have hok3 : ROk n ks (rr.set kk (⟨r2.b, r2.qv, r2.nv, ⟨r2.w.q, r2.w.nt, true⟩⟩ : Rm)) (⟨(noteS (⟨s.ps, upW s.w (frm, i) ⟨lr, r.w.nt, r.w.cl⟩⟩ : SS) i.val).ps, upW (noteS (⟨s.ps, upW s.w (frm, i) ⟨lr, r.w.nt, r.w.cl⟩⟩ : SS) i.val).w (frm, i) ⟨lr, r.w.nt, true⟩⟩ : SS).w := by
    have h9 : ((⟨r2.b, r2.qv, r2.nv, ⟨r2.w.q, r2.w.nt, true⟩⟩ : Rm) : Rm).w = ⟨lr, r.w.nt, true⟩ := by dsimp only; rw [hrw3]
    have := hok2.set (y := (⟨r2.b, r2.qv, r2.nv, ⟨r2.w.q, r2.w.nt, true⟩⟩ : Rm)) (a := (frm, i)) (by rw [← hb2]; exact hkk) hr2 rfl
    rw [h9] at this; exact this
  refine Gx.front 4 rfl ?_
  refine Gx.front 1 rfl ?_
  refine Gx.front 4 rfl ?_
  refine Gx.front 4 rfl ?_
  refine Gx.front 4 rfl ?_
  refine Gx.sat (l' := [worldH S n (⟨(noteS (⟨s.ps, upW s.w (frm, i) ⟨lr, r.w.nt, r.w.cl⟩⟩ : SS) i.val).ps, upW (noteS (⟨s.ps, upW s.w (frm, i) ⟨lr, r.w.nt, r.w.cl⟩⟩ : SS) i.val).w (frm, i) ⟨lr, r.w.nt, true⟩⟩ : SS), R]) (fun w H => worldH.shut (s := (⟨(noteS (⟨s.ps, upW s.w (frm, i) ⟨lr, r.w.nt, r.w.cl⟩⟩ : SS) i.val).ps, upW (noteS (⟨s.ps, upW s.w (frm, i) ⟨lr, r.w.nt, r.w.cl⟩⟩ : SS) i.val).w (frm, i) ⟨lr, r.w.nt, true⟩⟩ : SS)) (hok3) H) ?_
  refine Gx.ret1 Try.results17 rfl ?_
  refine ⟨rfl, ?_⟩
  rw [sep1]
  unfold takeS
  rw [smN_self, smN_self, h0]
  dsimp only
  rw [hp]
  dsimp only
  rw [if_pos hx9, ← hrw]

theorem take_money {W w : World} {S n : Nat} {i frm : Sm} {s : SS} {p : Pr} {x : Int} {lr : List Int} {R : Hp} (hp : s.ps[i.val]? = some p) (hn : s.ps.length ≤ 6) (hin : i.val < n) (hfn : frm.val < n) (hne : frm ≠ i) (hq : ∀ a, (s.w a).q.length ≤ 10000) (hnt : ∀ a, (s.w a).nt.length ≤ 10000) (h0 : (s.w (frm, i)).q = x :: lr) (hx9 : ¬ x = -1) (hm0 : 0 ≤ p.mo) (hm1 : p.mo ≤ 100000) (hx1 : -1 ≤ x) (hx2 : x ≤ 100000) (H : Sat W w (worldH S n s * R)) :
    Calls Try.prog 17 #[ptr S 0, .int .i64 ((frm.val : Nat) : Int), .int .i64 ((i.val : Nat) : Int)] w (Ret W fun v l => v = .int .i64 0 ∧ sep l = worldH S n (takeS s i.val frm.val).2 * R) := by
  obtain ⟨pv, mb, ks, rs, hok, H⟩ := worldH.open_ H
  obtain ⟨kk, r, hkk, hrr, hrw, hgk⟩ := hok.at_ (a := (frm, i)) hfn hin hne
  have hqs := row_isS hrr H
  have hi6 := (List.getElem?_eq_some_iff.1 hp).1
  have hrq := hq (frm, i)
  have hrn := hnt (frm, i)
  rw [← hrw] at hrq hrn
  have hx0 : r.w.q[0]? = some x := by rw [hrw, h0]; rfl
  have hlr : r.w.q = x :: lr := by rw [hrw, h0]
  have hll : lr.length ≤ 10000 := by rw [hlr] at hrq; simp at hrq; omega
  refine Gx.enter (l := [Hp.rec_ S [pv, .map (some mb)], Hp.own FP 2 pv s.ps, Hp.map Try.prog 47 pairL vB mb ks, Hp.big rowH rs, R]) Try.func17 rfl Try.ntmps17 rfl (H) ?_
  refine Gx.know (m' := [(0, ptr S 0), (1, .int .i64 ((frm.val : Nat) : Int)), (2, .int .i64 ((i.val : Nat) : Int))]) (.cons rfl (.cons rfl (.cons rfl .nil))) ?_
  refine Gx.seq ?_
  refine Gx.region ?_
  refine Gx.val rfl rfl rfl (val_assign rfl rfl) ?_
  refine Gx.done ?_
  refine Gx.thenN ?_
  refine Gx.seq ?_
  refine Gx.region ?_
  refine Gx.val rfl rfl rfl (val_move rfl rfl) ?_
  refine Gx.val rfl rfl rfl (val_nilCheck rfl rfl) ?_
  refine Gx.val rfl rfl rfl (Val.cast (val_fieldAddr rfl Try.underlying44 rfl Try.ty42 rfl rfl) (v' := ptr S 1) rfl) ?_
  refine Gx.val rfl rfl rfl (val_load rfl Try.ty42 rfl rfl (cell_rec (k := 0) rfl rfl)) ?_
  refine Gx.val rfl rfl rfl (val_move rfl rfl) ?_
  refine Gx.val rfl rfl rfl (val_move rfl rfl) ?_
  refine Gx.val rfl rfl rfl (val_build rfl (qs := [(0, .int .i64 ((frm.val : Nat) : Int)), (1, .int .i64 ((i.val : Nat) : Int))]) rfl rfl (fun w => by go_simp) (v := .agg #[.int .i64 ((frm.val : Nat) : Int), .int .i64 ((i.val : Nat) : Int)])) ?_
  refine Gx.val rfl rfl rfl (val_lookup1 rfl Try.underlying42 Try.kL Try.ty48 rfl rfl (i := (frm, i)) (trivial) (k := 2) rfl (r := ptr r.b 0) (by rw [hgk]; rfl)) ?_
  refine Gx.val rfl rfl rfl (val_assign rfl rfl) ?_
  refine Gx.done ?_
  refine Gx.thenN ?_
  refine Gx.seq ?_
  refine Gx.seq ?_
  refine Gx.focus (n := 3) (k := kk) rfl hrr (fun R1 hf2 hg3 => ?_)
  refine Gx.norm (l' := [Hp.rec_ S [pv, .map (some mb)], Hp.own FP 2 pv s.ps, Hp.map Try.prog 47 pairL vB mb ks, rowH r, R, R1]) rfl ?_
  refine Gx.cleave 3 (p := Hp.rec_ r.b [r.qv, r.nv, .bool r.w.cl]) (q := Hp.own FI 1 r.qv r.w.q * Hp.own FI 1 r.nv r.w.nt) rfl rfl rfl ?_
  refine Gx.cleave 1 (p := Hp.own FI 1 r.qv r.w.q) (q := Hp.own FI 1 r.nv r.w.nt) rfl rfl rfl ?_
  refine Gx.norm (l' := [Hp.own FI 1 r.qv r.w.q, Hp.own FI 1 r.nv r.w.nt, Hp.rec_ r.b [r.qv, r.nv, .bool r.w.cl], Hp.rec_ S [pv, .map (some mb)], Hp.own FP 2 pv s.ps, Hp.map Try.prog 47 pairL vB mb ks, R, R1]) rfl ?_
  refine Gx.region ?_
  refine Gx.val rfl rfl rfl (val_move rfl rfl) ?_
  refine Gx.val rfl rfl rfl (val_nilCheck rfl rfl) ?_
  refine Gx.val rfl rfl rfl (Val.cast (val_fieldAddr rfl Try.underlying50 rfl Try.ty22 rfl rfl) (v' := ptr r.b 0) rfl) ?_
  refine Gx.val rfl rfl rfl (val_load rfl Try.ty22 rfl rfl (cell_rec (k := 2) rfl rfl)) ?_
  refine Gx.val rfl rfl rfl (val_len rfl Try.underlying22 rfl (len_own (k := 0) rfl)) ?_
  refine Gx.val rfl rfl rfl (val_eql rfl rfl rfl) ?_
  refine Gx.done ?_
  refine Gx.thenN ?_
  refine Gx.decF rfl (by rw [hlr]; simp; omega) ?_
  refine Gx.skip ?_
  refine Gx.thenN ?_
  refine Gx.seq ?_
  refine Gx.region ?_
  refine Gx.val rfl rfl rfl (val_move rfl rfl) ?_
  refine Gx.val rfl rfl rfl (val_nilCheck rfl rfl) ?_
  refine Gx.val rfl rfl rfl (Val.cast (val_fieldAddr rfl Try.underlying50 rfl Try.ty22 rfl rfl) (v' := ptr r.b 0) rfl) ?_
  refine Gx.val rfl rfl rfl (val_load rfl Try.ty22 rfl rfl (cell_rec (k := 2) rfl rfl)) ?_
  refine Gx.val rfl rfl rfl (val_ixa rfl Try.underlying22 Try.ty3 rfl rfl (j := 0) (rfl) (reach_own (k := 0) rfl hx0)) ?_
  refine Gx.val rfl rfl rfl (val_load rfl Try.ty3 rfl rfl (cell_own (i := 0) (sz := 1) (j := 0) (k := 0) rfl hx0 rfl)) ?_
  refine Gx.val rfl rfl rfl (val_assign rfl rfl) ?_
  refine Gx.done ?_
  refine Gx.thenN ?_
  refine Gx.seq ?_
  refine Gx.region ?_
  refine Gx.val rfl rfl rfl (val_move rfl rfl) ?_
  refine Gx.val rfl rfl rfl (val_move rfl rfl) ?_
  refine Gx.val rfl rfl rfl (val_nilCheck rfl rfl) ?_
  refine Gx.val rfl rfl rfl (Val.cast (val_fieldAddr rfl Try.underlying50 rfl Try.ty22 rfl rfl) (v' := ptr r.b 0) rfl) ?_
  refine Gx.val rfl rfl rfl (val_load rfl Try.ty22 rfl rfl (cell_rec (k := 2) rfl rfl)) ?_
  refine Gx.val rfl rfl rfl (val_cutFromO (lo := 1) rfl Try.underlying22 Try.ty3 rfl (n := 0) rfl rfl (rfl) (by rw [hlr]; simp)) ?_
  refine Gx.val rfl rfl rfl (val_nilCheck rfl rfl) ?_
  refine Gx.val rfl rfl rfl (Val.cast (val_fieldAddr rfl Try.underlying50 rfl Try.ty22 rfl rfl) (v' := ptr r.b 0) rfl) ?_
  refine Gx.eff0 rfl rfl (eff_store rfl Try.ty22 rfl rfl (us := [sCut 1 1 r.w.q.length r.qv]) ((sCut_isS hqs).cellsL) rfl ((sCut_isS hqs).all) (k := 2) rfl (rfl) (vs' := [sCut 1 1 r.w.q.length r.qv, r.nv, .bool r.w.cl]) (rfl) (l' := [Hp.own FI 1 r.qv r.w.q, Hp.own FI 1 r.nv r.w.nt, Hp.rec_ r.b [sCut 1 1 r.w.q.length r.qv, r.nv, .bool r.w.cl], Hp.rec_ S [pv, .map (some mb)], Hp.own FP 2 pv s.ps, Hp.map Try.prog 47 pairL vB mb ks, R, R1]) rfl) ?_
  rintro _ _ rfl
  refine Gx.done ?_
  refine Gx.thenN ?_
  refine Gx.seq ?_
  refine Gx.seq ?_
  refine Gx.ownCut (k := 0) 1 r.w.q.length rfl (by rw [hlr]; simp) (Nat.le_refl _) (l' := [Hp.own FI 1 (sCut 1 1 r.w.q.length r.qv) lr, Hp.own FI 1 r.nv r.w.nt, Hp.rec_ r.b [sCut 1 1 r.w.q.length r.qv, r.nv, .bool r.w.cl], Hp.rec_ S [pv, .map (some mb)], Hp.own FP 2 pv s.ps, Hp.map Try.prog 47 pairL vB mb ks, R, R1]) (by rw [show (List.take r.w.q.length r.w.q).drop 1 = lr from by rw [List.take_length, hlr]; rfl] <;> rfl) ?_
  refine Gx.region ?_
  refine Gx.val rfl rfl rfl (val_move rfl rfl) ?_
  refine Gx.val rfl rfl rfl (val_eql rfl rfl rfl) ?_
  refine Gx.done ?_
  refine Gx.thenN ?_
  refine Gx.decF rfl (by omega) ?_
  refine Gx.skip ?_
  refine Gx.thenN ?_
  refine Gx.seq ?_
  refine Gx.region ?_
  refine Gx.val rfl rfl rfl (val_move rfl rfl) ?_
  refine Gx.val rfl rfl rfl (val_nilCheck rfl rfl) ?_
  refine Gx.val rfl rfl rfl (Val.cast (val_fieldAddr rfl Try.underlying44 rfl Try.ty41 rfl rfl) (v' := ptr S 0) rfl) ?_
  refine Gx.val rfl rfl rfl (val_load rfl Try.ty41 rfl rfl (cell_rec (k := 3) rfl rfl)) ?_
  refine Gx.val rfl rfl rfl (val_move rfl rfl) ?_
  refine Gx.val rfl rfl rfl (val_ixa rfl Try.underlying41 Try.ty46 rfl rfl (j := i.val) (rfl) (reach_own (k := 4) rfl hp)) ?_
  refine Gx.val rfl rfl rfl (Val.cast (val_fieldAddr rfl Try.underlying46 rfl Try.ty3 rfl rfl) (v' := ptr (sB pv) (sO pv + i.val * 2)) rfl) ?_
  refine Gx.val rfl rfl rfl (val_load rfl Try.ty3 rfl rfl (cell_own (i := 0) (k := 4) rfl hp rfl)) ?_
  refine Gx.val rfl rfl rfl (val_move rfl rfl) ?_
  refine Gx.val rfl rfl rfl (val_add rfl rfl rfl (r := (p.mo + x)) (w64 rfl (by omega))) ?_
  refine Gx.val rfl rfl rfl (val_ixa rfl Try.underlying41 Try.ty46 rfl rfl (j := i.val) (rfl) (reach_own (k := 4) rfl hp)) ?_
  refine Gx.val rfl rfl rfl (Val.cast (val_fieldAddr rfl Try.underlying46 rfl Try.ty3 rfl rfl) (v' := ptr (sB pv) (sO pv + i.val * 2)) rfl) ?_
  refine Gx.eff0 rfl rfl (eff_storeEl (i := 0) (e' := (⟨(p.mo + x), p.ow⟩ : Pr)) rfl Try.ty3 rfl rfl rfl rfl (k := 4) rfl FP_len hp (by decide) (rfl) (l' := [Hp.own FI 1 (sCut 1 1 r.w.q.length r.qv) lr, Hp.own FI 1 r.nv r.w.nt, Hp.rec_ r.b [(sCut 1 1 r.w.q.length r.qv), r.nv, .bool r.w.cl], Hp.rec_ S [pv, .map (some mb)], Hp.own FP 2 pv ((s.ps).set i.val (⟨(p.mo + x), p.ow⟩ : Pr)), Hp.map Try.prog 47 pairL vB mb ks, R, R1]) rfl) ?_
  rintro _ _ rfl
  refine Gx.done ?_
  refine Gx.thenN ?_
  refine Gx.seq ?_
  refine Gx.seq ?_
  refine Gx.region ?_
  refine Gx.val rfl rfl rfl (val_move rfl rfl) ?_
  refine Gx.val rfl rfl rfl (val_nilCheck rfl rfl) ?_
  refine Gx.val rfl rfl rfl (Val.cast (val_fieldAddr rfl Try.underlying44 rfl Try.ty41 rfl rfl) (v' := ptr S 0) rfl) ?_
  refine Gx.val rfl rfl rfl (val_load rfl Try.ty41 rfl rfl (cell_rec (k := 3) rfl rfl)) ?_
  refine Gx.val rfl rfl rfl (val_move rfl rfl) ?_
  refine Gx.val rfl rfl rfl (val_ixa rfl Try.underlying41 Try.ty46 rfl rfl (j := i.val) (rfl) (reach_own (k := 4) rfl (List.getElem?_set_self (List.getElem?_eq_some_iff.1 hp).1))) ?_
  refine Gx.val rfl rfl rfl (Val.cast (val_fieldAddr rfl Try.underlying46 rfl Try.ty3 rfl rfl) (v' := ptr (sB pv) (sO pv + i.val * 2 + 1)) rfl) ?_
  refine Gx.val rfl rfl rfl (val_load rfl Try.ty3 rfl rfl (cell_own (i := 1) (k := 4) rfl (List.getElem?_set_self (List.getElem?_eq_some_iff.1 hp).1) rfl)) ?_
  refine Gx.val rfl rfl rfl (val_neq rfl rfl rfl) ?_
  refine Gx.val rfl rfl rfl (val_move rfl rfl) ?_
  refine Gx.cases (t := 66) rfl (fun h4 => ?_) (fun h4 => ?_)
  · refine Gx.valg rfl rfl rfl rfl rfl (val_move rfl rfl) ?_
    refine Gx.valg rfl rfl rfl rfl rfl (val_nilCheck rfl rfl) ?_
    refine Gx.valg rfl rfl rfl rfl rfl (Val.cast (val_fieldAddr rfl Try.underlying50 rfl Try.ty4 rfl rfl) (v' := ptr r.b 2) rfl) ?_
    refine Gx.valg rfl rfl rfl rfl rfl (val_load rfl Try.ty4 rfl rfl (cell_rec (k := 2) rfl rfl)) ?_
    refine Gx.valg rfl rfl rfl rfl rfl (val_not rfl rfl) ?_
    refine Gx.val rfl rfl rfl (val_pickT rfl rfl rfl) ?_
    refine Gx.done ?_
    refine Gx.thenN ?_
    refine Gx.bool rfl (fun h5 => ?_) (fun h5 => ?_)
    · refine Gx.region ?_
      refine Gx.val rfl rfl rfl (val_move rfl rfl) ?_
      refine Gx.val rfl rfl rfl (val_move rfl rfl) ?_
      refine Gx.val rfl rfl rfl (val_nilCheck rfl rfl) ?_
      refine Gx.val rfl rfl rfl (Val.cast (val_fieldAddr rfl Try.underlying50 rfl Try.ty22 rfl rfl) (v' := ptr r.b 1) rfl) ?_
      refine Gx.val rfl rfl rfl (val_load rfl Try.ty22 rfl rfl (cell_rec (k := 2) rfl rfl)) ?_
      refine Gx.val rfl rfl rfl (val_move rfl rfl) ?_
      refine Gx.eff rfl rfl rfl (eff_buildSlice rfl (qs := [(0, .int .i64 x)]) rfl rfl (cs := #[.int .i64 x]) (vs := [.int .i64 x]) (E := 3) rfl (fun w => by first | (go_simp; done) | (go_simp; rfl))) ?_
      rintro _ _ ⟨b6, rfl, rfl⟩
      refine Gx.eff rfl rfl rfl (eff_push (r := x) rfl Try.eI FI_len FI_one rfl rfl (k := 0) rfl rfl (k' := 1) rfl (by omega) (by omega)) ?_
      rintro v7 _ ⟨hiv7, rfl⟩
      refine Gx.norm (l' := [Hp.own FI 1 (sCut 1 1 r.w.q.length r.qv) lr, Hp.own FI 1 v7 (r.w.nt ++ [x]), Hp.rec_ r.b [(sCut 1 1 r.w.q.length r.qv), r.nv, .bool r.w.cl], Hp.rec_ S [pv, .map (some mb)], Hp.own FP 2 pv ((s.ps).set i.val (⟨(p.mo + x), p.ow⟩ : Pr)), Hp.map Try.prog 47 pairL vB mb ks, R, R1]) rfl ?_
      refine Gx.val rfl rfl rfl (val_nilCheck rfl rfl) ?_
      refine Gx.val rfl rfl rfl (Val.cast (val_fieldAddr rfl Try.underlying50 rfl Try.ty22 rfl rfl) (v' := ptr r.b 1) rfl) ?_
      refine Gx.eff0 rfl rfl (eff_store rfl Try.ty22 rfl rfl (us := [v7]) hiv7.cellsL rfl hiv7.all (k := 2) rfl (rfl) (vs' := [(sCut 1 1 r.w.q.length r.qv), v7, .bool r.w.cl]) (rfl) (l' := [Hp.own FI 1 (sCut 1 1 r.w.q.length r.qv) lr, Hp.own FI 1 v7 (r.w.nt ++ [x]), Hp.rec_ r.b [(sCut 1 1 r.w.q.length r.qv), v7, .bool r.w.cl], Hp.rec_ S [pv, .map (some mb)], Hp.own FP 2 pv ((s.ps).set i.val (⟨(p.mo + x), p.ow⟩ : Pr)), Hp.map Try.prog 47 pairL vB mb ks, R, R1]) rfl) ?_
      rintro _ _ rfl
      refine Gx.done ?_
      refine Gx.thenN ?_
      refine Gx.seq ?_
      refine Gx.region ?_
      refine Gx.val rfl rfl rfl (val_assign rfl rfl) ?_
      refine Gx.done ?_
      refine Gx.thenN ?_
      refine Gx.ret ?_
      refine Gx.front 7 rfl ?_
      refine Gx.front 2 rfl ?_
      refine Gx.front 2 rfl ?_
      refine Gx.front 3 rfl ?_
      refine Gx.sepEq (l' := [Hp.big rowH (rs.set kk (⟨r.b, (sCut 1 1 r.w.q.length r.qv), v7, ⟨lr, (r.w.nt ++ [x]), r.w.cl⟩⟩ : Rm)), Hp.rec_ S [pv, .map (some mb)], Hp.own FP 2 pv ((s.ps).set i.val (⟨(p.mo + x), p.ow⟩ : Pr)), Hp.map Try.prog 47 pairL vB mb ks, R]) (by show Hp.rec_ r.b [(sCut 1 1 r.w.q.length r.qv), v7, .bool r.w.cl] * (Hp.own FI 1 (sCut 1 1 r.w.q.length r.qv) lr * (Hp.own FI 1 v7 (r.w.nt ++ [x]) * (R1 * _))) = Hp.big rowH (rs.set kk (⟨r.b, (sCut 1 1 r.w.q.length r.qv), v7, ⟨lr, (r.w.nt ++ [x]), r.w.cl⟩⟩ : Rm)) * _; rw [(hg3 (⟨r.b, (sCut 1 1 r.w.q.length r.qv), v7, ⟨lr, (r.w.nt ++ [x]), r.w.cl⟩⟩ : Rm))]; show _ = (Hp.rec_ r.b [(sCut 1 1 r.w.q.length r.qv), v7, .bool r.w.cl] * (Hp.own FI 1 (sCut 1 1 r.w.q.length r.qv) lr * Hp.own FI 1 v7 (r.w.nt ++ [x])) * R1) * _; simp only [Hp.mul_assoc] <;> rfl) ?_
      have hok3 : ROk n ks (rs.set kk (⟨r.b, (sCut 1 1 r.w.q.length r.qv), v7, ⟨lr, (r.w.nt ++ [x]), r.w.cl⟩⟩ : Rm)) (⟨(s.ps).set i.val (⟨(p.mo + x), p.ow⟩ : Pr), upW s.w (frm, i) ⟨lr, (r.w.nt ++ [x]), r.w.cl⟩⟩ : SS).w := hok.set hkk hrr rfl
      refine Gx.front 4 rfl ?_
      refine Gx.front 1 rfl ?_
      refine Gx.front 4 rfl ?_
      refine Gx.front 4 rfl ?_
      refine Gx.front 4 rfl ?_
      refine Gx.sat (l' := [worldH S n (⟨(s.ps).set i.val (⟨(p.mo + x), p.ow⟩ : Pr), upW s.w (frm, i) ⟨lr, (r.w.nt ++ [x]), r.w.cl⟩⟩ : SS), R]) (fun w H => worldH.shut (s := (⟨(s.ps).set i.val (⟨(p.mo + x), p.ow⟩ : Pr), upW s.w (frm, i) ⟨lr, (r.w.nt ++ [x]), r.w.cl⟩⟩ : SS)) (hok3) H) ?_
      refine Gx.ret1 Try.results17 rfl ?_
      refine ⟨rfl, ?_⟩
      rw [sep1]
      unfold takeS
      rw [smN_self, smN_self, h0]
      dsimp only
      rw [hp]
      dsimp only
      rw [if_neg hx9, ← hrw]
      rw [if_pos (by simp_all)]
    · refine Gx.skip ?_
      refine Gx.thenN ?_
      refine Gx.seq ?_
      refine Gx.region ?_
      refine Gx.val rfl rfl rfl (val_assign rfl rfl) ?_
      refine Gx.done ?_
      refine Gx.thenN ?_
      refine Gx.ret ?_
      refine Gx.front 7 rfl ?_
      refine Gx.front 2 rfl ?_
      refine Gx.front 2 rfl ?_
      refine Gx.front 3 rfl ?_
      refine Gx.sepEq (l' := [Hp.big rowH (rs.set kk (⟨r.b, (sCut 1 1 r.w.q.length r.qv), r.nv, ⟨lr, r.w.nt, r.w.cl⟩⟩ : Rm)), Hp.rec_ S [pv, .map (some mb)], Hp.own FP 2 pv ((s.ps).set i.val (⟨(p.mo + x), p.ow⟩ : Pr)), Hp.map Try.prog 47 pairL vB mb ks, R]) (by show Hp.rec_ r.b [(sCut 1 1 r.w.q.length r.qv), r.nv, .bool r.w.cl] * (Hp.own FI 1 (sCut 1 1 r.w.q.length r.qv) lr * (Hp.own FI 1 r.nv r.w.nt * (R1 * _))) = Hp.big rowH (rs.set kk (⟨r.b, (sCut 1 1 r.w.q.length r.qv), r.nv, ⟨lr, r.w.nt, r.w.cl⟩⟩ : Rm)) * _; rw [(hg3 (⟨r.b, (sCut 1 1 r.w.q.length r.qv), r.nv, ⟨lr, r.w.nt, r.w.cl⟩⟩ : Rm))]; show _ = (Hp.rec_ r.b [(sCut 1 1 r.w.q.length r.qv), r.nv, .bool r.w.cl] * (Hp.own FI 1 (sCut 1 1 r.w.q.length r.qv) lr * Hp.own FI 1 r.nv r.w.nt) * R1) * _; simp only [Hp.mul_assoc] <;> rfl) ?_
      have hok3 : ROk n ks (rs.set kk (⟨r.b, (sCut 1 1 r.w.q.length r.qv), r.nv, ⟨lr, r.w.nt, r.w.cl⟩⟩ : Rm)) (⟨(s.ps).set i.val (⟨(p.mo + x), p.ow⟩ : Pr), upW s.w (frm, i) ⟨lr, r.w.nt, r.w.cl⟩⟩ : SS).w := hok.set hkk hrr rfl
      refine Gx.front 4 rfl ?_
      refine Gx.front 1 rfl ?_
      refine Gx.front 4 rfl ?_
      refine Gx.front 4 rfl ?_
      refine Gx.front 4 rfl ?_
      refine Gx.sat (l' := [worldH S n (⟨(s.ps).set i.val (⟨(p.mo + x), p.ow⟩ : Pr), upW s.w (frm, i) ⟨lr, r.w.nt, r.w.cl⟩⟩ : SS), R]) (fun w H => worldH.shut (s := (⟨(s.ps).set i.val (⟨(p.mo + x), p.ow⟩ : Pr), upW s.w (frm, i) ⟨lr, r.w.nt, r.w.cl⟩⟩ : SS)) (hok3) H) ?_
      refine Gx.ret1 Try.results17 rfl ?_
      refine ⟨rfl, ?_⟩
      rw [sep1]
      unfold takeS
      rw [smN_self, smN_self, h0]
      dsimp only
      rw [hp]
      dsimp only
      rw [if_neg hx9, ← hrw]
      rw [if_neg (by simp_all)]
  · refine Gx.skipg rfl rfl rfl rfl rfl rfl ?_
    refine Gx.skipg rfl rfl rfl rfl rfl rfl ?_
    refine Gx.skipg rfl rfl rfl rfl rfl rfl ?_
    refine Gx.skipg rfl rfl rfl rfl rfl rfl ?_
    refine Gx.skipg rfl rfl rfl rfl rfl rfl ?_
    refine Gx.val rfl rfl rfl (val_pickF rfl rfl rfl) ?_
    refine Gx.done ?_
    refine Gx.thenN ?_
    refine Gx.f rfl ?_
    refine Gx.skip ?_
    refine Gx.thenN ?_
    refine Gx.seq ?_
    refine Gx.region ?_
    refine Gx.val rfl rfl rfl (val_assign rfl rfl) ?_
    refine Gx.done ?_
    refine Gx.thenN ?_
    refine Gx.ret ?_
    refine Gx.front 7 rfl ?_
    refine Gx.front 2 rfl ?_
    refine Gx.front 2 rfl ?_
    refine Gx.front 3 rfl ?_
    refine Gx.sepEq (l' := [Hp.big rowH (rs.set kk (⟨r.b, (sCut 1 1 r.w.q.length r.qv), r.nv, ⟨lr, r.w.nt, r.w.cl⟩⟩ : Rm)), Hp.rec_ S [pv, .map (some mb)], Hp.own FP 2 pv ((s.ps).set i.val (⟨(p.mo + x), p.ow⟩ : Pr)), Hp.map Try.prog 47 pairL vB mb ks, R]) (by show Hp.rec_ r.b [(sCut 1 1 r.w.q.length r.qv), r.nv, .bool r.w.cl] * (Hp.own FI 1 (sCut 1 1 r.w.q.length r.qv) lr * (Hp.own FI 1 r.nv r.w.nt * (R1 * _))) = Hp.big rowH (rs.set kk (⟨r.b, (sCut 1 1 r.w.q.length r.qv), r.nv, ⟨lr, r.w.nt, r.w.cl⟩⟩ : Rm)) * _; rw [(hg3 (⟨r.b, (sCut 1 1 r.w.q.length r.qv), r.nv, ⟨lr, r.w.nt, r.w.cl⟩⟩ : Rm))]; show _ = (Hp.rec_ r.b [(sCut 1 1 r.w.q.length r.qv), r.nv, .bool r.w.cl] * (Hp.own FI 1 (sCut 1 1 r.w.q.length r.qv) lr * Hp.own FI 1 r.nv r.w.nt) * R1) * _; simp only [Hp.mul_assoc] <;> rfl) ?_
    have hok3 : ROk n ks (rs.set kk (⟨r.b, (sCut 1 1 r.w.q.length r.qv), r.nv, ⟨lr, r.w.nt, r.w.cl⟩⟩ : Rm)) (⟨(s.ps).set i.val (⟨(p.mo + x), p.ow⟩ : Pr), upW s.w (frm, i) ⟨lr, r.w.nt, r.w.cl⟩⟩ : SS).w := hok.set hkk hrr rfl
    refine Gx.front 4 rfl ?_
    refine Gx.front 1 rfl ?_
    refine Gx.front 4 rfl ?_
    refine Gx.front 4 rfl ?_
    refine Gx.front 4 rfl ?_
    refine Gx.sat (l' := [worldH S n (⟨(s.ps).set i.val (⟨(p.mo + x), p.ow⟩ : Pr), upW s.w (frm, i) ⟨lr, r.w.nt, r.w.cl⟩⟩ : SS), R]) (fun w H => worldH.shut (s := (⟨(s.ps).set i.val (⟨(p.mo + x), p.ow⟩ : Pr), upW s.w (frm, i) ⟨lr, r.w.nt, r.w.cl⟩⟩ : SS)) (hok3) H) ?_
    refine Gx.ret1 Try.results17 rfl ?_
    refine ⟨rfl, ?_⟩
    rw [sep1]
    unfold takeS
    rw [smN_self, smN_self, h0]
    dsimp only
    rw [hp]
    dsimp only
    rw [if_neg hx9, ← hrw]
    rw [if_neg (by simp_all)]

end Go.Proofs.Ytanipkddfngnnaa
