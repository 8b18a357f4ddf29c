/- What comes. The walk. No condition. -/
import Derived.Test.YteejbaindbiimaaA2
namespace Go.Proofs.Yteejbaindbiimaa
open Go.RowKit
set_option linter.unusedVariables false
set_option linter.unusedSimpArgs false
set_option maxRecDepth 100000

theorem q_upS {s : RS} {i : Nat} {x : Se} {a : Int} {lq : List Int} (hq : ∀ x ∈ s.ss, x.q.length ≤ 10000) (hx : s.ss[i]? = some x) (he : x.q = a :: lq) : ∀ y ∈ upS (⟨upS s.ss i (fun x => { x with q := lq }), s.ch, s.sent⟩ : RS).ss i (fun x => { x with pt := true }), y.q.length ≤ 100000 := by
  intro y hy
  have hb : ∀ {l : List Se} {i : Nat} {f : Se → Se} {y : Se}, y ∈ upS l i f → y ∈ l ∨ ∃ x, l[i]? = some x ∧ y = f x := fun {l i f y} h => by
    unfold upS at h
    split at h
    · rename_i x hx
      rcases List.mem_or_eq_of_mem_set h with h | h
      · exact .inl h
      · exact .inr ⟨x, hx, h⟩
    · exact .inl h
  have hl : lq.length ≤ 10000 := by
    have := hq x (List.mem_of_getElem? hx)
    rw [he] at this; simp at this; omega
  have h2 : ∀ y ∈ upS s.ss i (fun x => { x with q := lq }), y.q.length ≤ 10000 := fun y hy => by
    rcases hb hy with h | ⟨z, hz, rfl⟩
    · exact hq y h
    · exact hl
  rcases hb hy with h | ⟨z, hz, rfl⟩
  · exact Nat.le_trans (h2 y h) (by decide)
  · exact Nat.le_trans (h2 z (List.mem_of_getElem? hz)) (by decide)
theorem take_any {W w : World} {S i : Nat} {cv : Value} {s : RS} {R : Hp} (hi : i < s.ss.length) (hn : s.ss.length ≤ 6) (hsent : s.sent ≤ 100000) (hch : s.ch.length ≤ 100000) (hq : ∀ x ∈ s.ss, x.q.length ≤ 10000) (H : Sat W w (worldH S cv s * R)) :
    Calls Try.prog 19 #[ptr S 0, .int .i64 ((i : Nat) : Int)] w (Ret W fun v l => v = .int .i64 (takeR s i).1 ∧ sep l = worldH S cv (takeR s i).2 * R) := by
  obtain ⟨pv, chv, pms, hmap, H⟩ := worldH.open_ H
  have hpl : pms.length = s.ss.length := by rw [← hmap, List.length_map]
  have hbl : (pms.map Pm.b).length = s.ss.length := by rw [List.length_map, hpl]
  refine Gx.enter (l := [Hp.rec_ S [pv, cv, chv, .int .i64 ((s.sent : Nat) : Int), .int .i64 0], Hp.own FP 1 pv (pms.map Pm.b), Hp.big seatH pms, Hp.own FN 1 chv s.ch, R]) Try.func19 rfl Try.ntmps19 rfl (H) ?_
  refine Gx.know (m' := [(0, ptr S 0), (1, .int .i64 ((i : Nat) : Int))]) (.cons rfl (.cons rfl .nil)) ?_
  refine Gx.seq ?_
  refine Gx.region ?_
  refine Gx.val rfl rfl rfl (val_assign rfl rfl) ?_
  refine Gx.done ?_
  refine Gx.thenN ?_
  refine Gx.seq ?_
  obtain ⟨m, hm⟩ := get_of_lt (xs := pms) (k := i) (by omega)
  have hbm : (pms.map Pm.b)[i]? = some m.b := by rw [List.getElem?_map, hm]; rfl
  have hrow := row_of hmap hm
  refine Gx.region ?_
  refine Gx.val rfl rfl rfl (val_move rfl rfl) ?_
  refine Gx.val rfl rfl rfl (val_nilCheck rfl rfl) ?_
  refine Gx.val rfl rfl rfl (Val.cast (val_fieldAddr rfl Try.underlying43 rfl Try.ty41 rfl rfl) (v' := ptr S 0) rfl) ?_
  refine Gx.val rfl rfl rfl (val_load rfl Try.ty41 rfl rfl (cell_rec (k := 0) rfl rfl)) ?_
  refine Gx.val rfl rfl rfl (val_move rfl rfl) ?_
  refine Gx.val rfl rfl rfl (val_ixa rfl Try.underlying41 Try.ty44 rfl rfl (j := i) (rfl) (reach_own (k := 1) rfl hbm)) ?_
  refine Gx.val rfl rfl rfl (val_load rfl Try.ty44 rfl rfl (cell_own (i := 0) (k := 1) rfl hbm rfl)) ?_
  refine Gx.val rfl rfl rfl (val_assign rfl rfl) ?_
  refine Gx.done ?_
  refine Gx.thenN ?_
  refine Gx.seq ?_
  refine Gx.seq ?_
  refine Gx.focus (n := 2) (k := i) rfl hm (fun R1 hf2 hg3 => ?_)
  refine Gx.norm (l' := [Hp.rec_ S [pv, cv, chv, .int .i64 ((s.sent : Nat) : Int), .int .i64 0], Hp.own FP 1 pv (pms.map Pm.b), seatH m, Hp.own FN 1 chv s.ch, R, R1]) rfl ?_
  refine Gx.cleave 2 (p := Hp.rec_ m.b [.int .i64 m.s.nm, .bool m.s.pt, m.v]) (q := Hp.own SZ 1 m.v m.s.q) rfl rfl rfl ?_
  refine Gx.norm (l' := [Hp.rec_ m.b [.int .i64 m.s.nm, .bool m.s.pt, m.v], Hp.own SZ 1 m.v m.s.q, Hp.rec_ S [pv, cv, chv, .int .i64 ((s.sent : Nat) : Int), .int .i64 0], Hp.own FP 1 pv (pms.map Pm.b), Hp.own FN 1 chv s.ch, R, R1]) rfl ?_
  refine Gx.fact (p := IsS m.v) (fun w H => isS_own (H.at_ (k := 1) rfl)) (fun hmv => ?_)
  obtain ⟨ql, hqe⟩ : ∃ q, m.s.q = q := ⟨_, rfl⟩
  rcases ql with _ | ⟨a, lq⟩
  · have hql : m.s.q.length = 0 := by rw [hqe]; rfl
    refine Gx.region ?_
    refine Gx.val rfl rfl rfl (val_move rfl rfl) ?_
    refine Gx.val rfl rfl rfl (val_nilCheck rfl rfl) ?_
    refine Gx.val rfl rfl rfl (Val.cast (val_fieldAddr rfl Try.underlying46 rfl Try.ty22 rfl rfl) (v' := ptr m.b 2) rfl) ?_
    refine Gx.val rfl rfl rfl (val_load rfl Try.ty22 rfl rfl (cell_rec (k := 0) rfl rfl)) ?_
    refine Gx.val rfl rfl rfl (val_len rfl Try.underlying22 rfl (len_own (k := 1) rfl)) ?_
    refine Gx.val rfl rfl rfl (val_eql rfl rfl rfl) ?_
    refine Gx.done ?_
    refine Gx.thenN ?_
    refine Gx.decT rfl (by omega) ?_
    refine Gx.seq ?_
    refine Gx.region ?_
    refine Gx.val rfl rfl rfl (val_assign rfl rfl) ?_
    refine Gx.done ?_
    refine Gx.thenN ?_
    refine Gx.ret ?_
    refine Gx.thenR ?_
    refine Gx.front 6 rfl ?_
    refine Gx.front 2 rfl ?_
    refine Gx.front 2 rfl ?_
    refine Gx.sepEq (l' := [Hp.big seatH pms, Hp.rec_ S [pv, cv, chv, .int .i64 ((s.sent : Nat) : Int), .int .i64 0], Hp.own FP 1 pv (pms.map Pm.b), Hp.own FN 1 chv s.ch, R]) (by show Hp.rec_ m.b [.int .i64 m.s.nm, .bool m.s.pt, m.v] * (Hp.own SZ 1 m.v m.s.q * (R1 * _)) = Hp.big seatH pms * _; rw [hf2]; show _ = (Hp.rec_ m.b [.int .i64 m.s.nm, .bool m.s.pt, m.v] * Hp.own SZ 1 m.v m.s.q * R1) * _; simp only [Hp.mul_assoc] <;> rfl) ?_
    refine Gx.front 3 rfl ?_
    refine Gx.front 1 rfl ?_
    refine Gx.front 3 rfl ?_
    refine Gx.front 3 rfl ?_
    refine Gx.sat (l' := [worldH S cv s, R]) (fun w H => (worldH.shut (S := S) (cv := cv) (s := s) (pms := pms) (R := sep [R]) (hmap) (H.cast (by rw [sep4R] <;> rfl))).cast (by rw [sep1] <;> rfl)) ?_
    refine Gx.ret1 Try.results19 rfl ?_
    refine ⟨?_, ?_⟩
    · unfold takeR; rw [hrow]; dsimp only; rw [hqe]
    · rw [sep1]; unfold takeR; rw [hrow]; dsimp only; rw [hqe]
  · have hq0 : m.s.q[0]? = some a := by rw [hqe]; rfl
    have hql : m.s.q.length = lq.length + 1 := by rw [hqe]; rfl
    refine Gx.region ?_
    refine Gx.val rfl rfl rfl (val_move rfl rfl) ?_
    refine Gx.val rfl rfl rfl (val_nilCheck rfl rfl) ?_
    refine Gx.val rfl rfl rfl (Val.cast (val_fieldAddr rfl Try.underlying46 rfl Try.ty22 rfl rfl) (v' := ptr m.b 2) rfl) ?_
    refine Gx.val rfl rfl rfl (val_load rfl Try.ty22 rfl rfl (cell_rec (k := 0) rfl rfl)) ?_
    refine Gx.val rfl rfl rfl (val_len rfl Try.underlying22 rfl (len_own (k := 1) rfl)) ?_
    refine Gx.val rfl rfl rfl (val_eql rfl rfl rfl) ?_
    refine Gx.done ?_
    refine Gx.thenN ?_
    refine Gx.decF rfl (by omega) ?_
    refine Gx.skip ?_
    refine Gx.thenN ?_
    refine Gx.seq ?_
    refine Gx.region ?_
    refine Gx.val rfl rfl rfl (val_move rfl rfl) ?_
    refine Gx.val rfl rfl rfl (val_nilCheck rfl rfl) ?_
    refine Gx.val rfl rfl rfl (Val.cast (val_fieldAddr rfl Try.underlying46 rfl Try.ty22 rfl rfl) (v' := ptr m.b 2) rfl) ?_
    refine Gx.val rfl rfl rfl (val_load rfl Try.ty22 rfl rfl (cell_rec (k := 0) rfl rfl)) ?_
    refine Gx.val rfl rfl rfl (val_ixa rfl Try.underlying22 Try.ty3 rfl rfl (j := 0) (rfl) (reach_own (k := 1) rfl hq0)) ?_
    refine Gx.val rfl rfl rfl (val_load rfl Try.ty3 rfl rfl (cell_own (i := 0) (sz := 1) (j := 0) (k := 1) rfl hq0 rfl)) ?_
    refine Gx.val rfl rfl rfl (val_assign rfl rfl) ?_
    refine Gx.done ?_
    refine Gx.thenN ?_
    refine Gx.seq ?_
    refine Gx.region ?_
    refine Gx.val rfl rfl rfl (val_move rfl rfl) ?_
    refine Gx.val rfl rfl rfl (val_move rfl rfl) ?_
    refine Gx.val rfl rfl rfl (val_nilCheck rfl rfl) ?_
    refine Gx.val rfl rfl rfl (Val.cast (val_fieldAddr rfl Try.underlying46 rfl Try.ty22 rfl rfl) (v' := ptr m.b 2) rfl) ?_
    refine Gx.val rfl rfl rfl (val_load rfl Try.ty22 rfl rfl (cell_rec (k := 0) rfl rfl)) ?_
    refine Gx.val rfl rfl rfl (val_cutFromO (lo := 1) rfl Try.underlying22 Try.ty3 rfl (n := 1) rfl rfl (rfl) (by omega)) ?_
    refine Gx.val rfl rfl rfl (val_nilCheck rfl rfl) ?_
    refine Gx.val rfl rfl rfl (Val.cast (val_fieldAddr rfl Try.underlying46 rfl Try.ty22 rfl rfl) (v' := ptr m.b 2) rfl) ?_
    refine Gx.eff0 rfl rfl (eff_store rfl Try.ty22 rfl rfl (us := [sCut 1 1 m.s.q.length m.v]) ((sCut_isS hmv).cellsL) rfl ((sCut_isS hmv).all) (k := 0) rfl (rfl) (vs' := [.int .i64 m.s.nm, .bool m.s.pt, sCut 1 1 m.s.q.length m.v]) (rfl) (l' := [Hp.rec_ m.b [.int .i64 m.s.nm, .bool m.s.pt, sCut 1 1 m.s.q.length m.v], Hp.own SZ 1 m.v m.s.q, Hp.rec_ S [pv, cv, chv, .int .i64 ((s.sent : Nat) : Int), .int .i64 0], Hp.own FP 1 pv (pms.map Pm.b), Hp.own FN 1 chv s.ch, R, R1]) rfl) ?_
    rintro _ _ rfl
    refine Gx.done ?_
    refine Gx.thenN ?_
    refine Gx.seq ?_
    refine Gx.block ?_
    refine Gx.seq ?_
    refine Gx.ownCut (k := 1) 1 m.s.q.length rfl (by omega) (Nat.le_refl _) (l' := [Hp.rec_ m.b [.int .i64 m.s.nm, .bool m.s.pt, sCut 1 1 m.s.q.length m.v], Hp.own SZ 1 (sCut 1 1 m.s.q.length m.v) lq, Hp.rec_ S [pv, cv, chv, .int .i64 ((s.sent : Nat) : Int), .int .i64 0], Hp.own FP 1 pv (pms.map Pm.b), Hp.own FN 1 chv s.ch, R, R1]) (by rw [show (List.take m.s.q.length m.s.q).drop 1 = lq from by rw [List.take_length, hqe]; rfl] <;> rfl) ?_
    refine Gx.region ?_
    refine Gx.val rfl rfl rfl (val_move rfl rfl) ?_
    refine Gx.val rfl rfl rfl (val_move rfl rfl) ?_
    refine Gx.val rfl rfl rfl (val_nilCheck rfl rfl) ?_
    refine Gx.val rfl rfl rfl (Val.cast (val_fieldAddr rfl Try.underlying46 rfl Try.ty3 rfl rfl) (v' := ptr m.b 0) rfl) ?_
    refine Gx.val rfl rfl rfl (val_load rfl Try.ty3 rfl rfl (cell_rec (k := 0) rfl rfl)) ?_
    refine Gx.val rfl rfl rfl (val_gtr rfl rfl rfl) ?_
    refine Gx.val rfl rfl rfl (val_assign rfl rfl) ?_
    refine Gx.done ?_
    refine Gx.thenN ?_
    refine Gx.dec rfl (fun h4 => ?_) (fun h4 => ?_)
    · refine Gx.front 6 rfl ?_
      refine Gx.front 2 rfl ?_
      refine Gx.front 2 rfl ?_
      refine Gx.sepEq (l' := [Hp.big seatH (pms.set i (⟨m.b, (sCut 1 1 m.s.q.length m.v), ⟨m.s.nm, m.s.pt, lq⟩⟩ : Pm)), Hp.rec_ S [pv, cv, chv, .int .i64 ((s.sent : Nat) : Int), .int .i64 0], Hp.own FP 1 pv (pms.map Pm.b), Hp.own FN 1 chv s.ch, R]) (by show Hp.rec_ m.b [.int .i64 m.s.nm, .bool m.s.pt, (sCut 1 1 m.s.q.length m.v)] * (Hp.own SZ 1 (sCut 1 1 m.s.q.length m.v) lq * (R1 * _)) = Hp.big seatH (pms.set i (⟨m.b, (sCut 1 1 m.s.q.length m.v), ⟨m.s.nm, m.s.pt, lq⟩⟩ : Pm)) * _; rw [(hg3 (⟨m.b, (sCut 1 1 m.s.q.length m.v), ⟨m.s.nm, m.s.pt, lq⟩⟩ : Pm))]; show _ = (Hp.rec_ m.b [.int .i64 m.s.nm, .bool m.s.pt, (sCut 1 1 m.s.q.length m.v)] * Hp.own SZ 1 (sCut 1 1 m.s.q.length m.v) lq * R1) * _; simp only [Hp.mul_assoc] <;> rfl) ?_
      refine Gx.norm (l' := [Hp.big seatH (pms.set i (⟨m.b, (sCut 1 1 m.s.q.length m.v), ⟨m.s.nm, m.s.pt, lq⟩⟩ : Pm)), Hp.rec_ S [pv, cv, chv, .int .i64 ((s.sent : Nat) : Int), .int .i64 0], Hp.own FP 1 pv ((pms.set i (⟨m.b, (sCut 1 1 m.s.q.length m.v), ⟨m.s.nm, m.s.pt, lq⟩⟩ : Pm)).map Pm.b), Hp.own FN 1 chv s.ch, R]) (by rw [show ((pms.set i (⟨m.b, (sCut 1 1 m.s.q.length m.v), ⟨m.s.nm, m.s.pt, lq⟩⟩ : Pm)).map Pm.b) = (pms.map Pm.b) from set_bM hm rfl] <;> rfl) ?_
      refine Gx.front 3 rfl ?_
      refine Gx.front 1 rfl ?_
      refine Gx.front 3 rfl ?_
      refine Gx.front 3 rfl ?_
      refine Gx.sat (l' := [worldH S cv (⟨upS s.ss i (fun x => { x with q := lq }), s.ch, s.sent⟩ : RS), R]) (fun w H => (worldH.shut (S := S) (cv := cv) (s := (⟨upS s.ss i (fun x => { x with q := lq }), s.ch, s.sent⟩ : RS)) (pms := (pms.set i (⟨m.b, (sCut 1 1 m.s.q.length m.v), ⟨m.s.nm, m.s.pt, lq⟩⟩ : Pm))) (R := sep [R]) (map_upS (y := (⟨m.b, (sCut 1 1 m.s.q.length m.v), ⟨m.s.nm, m.s.pt, lq⟩⟩ : Pm)) hmap hm rfl) (H.cast (by rw [sep4R] <;> rfl))).cast (by rw [sep1] <;> rfl)) ?_
      refine Gx.region ?_
      refine Gx.val rfl rfl rfl (val_move rfl rfl) ?_
      refine Gx.val rfl rfl rfl (val_move rfl rfl) ?_
      refine Gx.val rfl rfl rfl (val_move rfl rfl) ?_
      refine Gx.eff rfl rfl rfl (eff_call (vs := [ptr S 0, .int .i64 ((i : Nat) : Int), .int .i64 a]) rfl Try.fn20 rfl (fun w H => send_any (s := (⟨upS s.ss i (fun x => { x with q := lq }), s.ch, s.sent⟩ : RS)) (a := a) (by dsimp only; rw [upS_len]; exact hi) (by dsimp only; rw [upS_len]; exact hn) hsent (q_upS hq hrow hqe) (H.at_ (k := 0) rfl))) ?_
      rintro _ l5 ⟨rfl, hl5⟩
      refine Gx.sepEq (l' := [worldH S cv (sendR (⟨upS s.ss i (fun x => { x with q := lq }), s.ch, s.sent⟩ : RS) i a), R]) hl5 ?_
      refine Gx.done ?_
      refine Gx.blkN ?_
      refine Gx.thenN ?_
      refine Gx.seq ?_
      refine Gx.region ?_
      refine Gx.val rfl rfl rfl (val_assign rfl rfl) ?_
      refine Gx.done ?_
      refine Gx.thenN ?_
      refine Gx.ret ?_
      refine Gx.ret1 Try.results19 rfl ?_
      refine ⟨?_, ?_⟩
      · unfold takeR; rw [hrow]; dsimp only; rw [hqe]; dsimp only; rw [if_pos (by omega)]
      · rw [sep1]; unfold takeR; rw [hrow]; dsimp only; rw [hqe]; dsimp only; rw [if_pos (by omega)]
    · refine Gx.seq ?_
      refine Gx.region ?_
      refine Gx.val rfl rfl rfl (val_move rfl rfl) ?_
      refine Gx.val rfl rfl rfl (val_move rfl rfl) ?_
      refine Gx.val rfl rfl rfl (val_nilCheck rfl rfl) ?_
      refine Gx.val rfl rfl rfl (Val.cast (val_fieldAddr rfl Try.underlying46 rfl Try.ty3 rfl rfl) (v' := ptr m.b 0) rfl) ?_
      refine Gx.val rfl rfl rfl (val_load rfl Try.ty3 rfl rfl (cell_rec (k := 0) rfl rfl)) ?_
      refine Gx.val rfl rfl rfl (val_eql rfl rfl rfl) ?_
      refine Gx.val rfl rfl rfl (val_assign rfl rfl) ?_
      refine Gx.done ?_
      refine Gx.thenN ?_
      refine Gx.dec rfl (fun h6 => ?_) (fun h6 => ?_)
      · refine Gx.region ?_
        refine Gx.val rfl rfl rfl (val_move rfl rfl) ?_
        refine Gx.val rfl rfl rfl (val_move rfl rfl) ?_
        refine Gx.val rfl rfl rfl (val_nilCheck rfl rfl) ?_
        refine Gx.val rfl rfl rfl (Val.cast (val_fieldAddr rfl Try.underlying43 rfl Try.ty26 rfl rfl) (v' := ptr S 1) rfl) ?_
        refine Gx.val rfl rfl rfl (Val.cast (val_fieldAddr rfl Try.underlying26 rfl Try.ty22 rfl rfl) (v' := ptr S 2) rfl) ?_
        refine Gx.val rfl rfl rfl (val_load rfl Try.ty22 rfl rfl (cell_rec (k := 2) rfl rfl)) ?_
        refine Gx.val rfl rfl rfl (val_move rfl rfl) ?_
        refine Gx.eff rfl rfl rfl (eff_buildSlice rfl (qs := [(0, .int .i64 ((i : Nat) : Int))]) rfl rfl (cs := #[.int .i64 ((i : Nat) : Int)]) (vs := [.int .i64 ((i : Nat) : Int)]) (E := 3) rfl (fun w => by first | (go_simp; done) | (go_simp; rfl))) ?_
        rintro _ _ ⟨b7, rfl, rfl⟩
        refine Gx.eff rfl rfl rfl (eff_push (r := i) rfl Try.eN FN_len FN_one rfl rfl (k := 0) rfl rfl (k' := 4) rfl (by omega) (by omega)) ?_
        rintro v8 _ ⟨hiv8, rfl⟩
        refine Gx.norm (l' := [Hp.rec_ m.b [.int .i64 m.s.nm, .bool m.s.pt, (sCut 1 1 m.s.q.length m.v)], Hp.own SZ 1 (sCut 1 1 m.s.q.length m.v) lq, Hp.rec_ S [pv, cv, chv, .int .i64 ((s.sent : Nat) : Int), .int .i64 0], Hp.own FP 1 pv (pms.map Pm.b), Hp.own FN 1 v8 (s.ch ++ [i]), R, R1]) rfl ?_
        refine Gx.val rfl rfl rfl (val_nilCheck rfl rfl) ?_
        refine Gx.val rfl rfl rfl (Val.cast (val_fieldAddr rfl Try.underlying43 rfl Try.ty26 rfl rfl) (v' := ptr S 1) rfl) ?_
        refine Gx.val rfl rfl rfl (Val.cast (val_fieldAddr rfl Try.underlying26 rfl Try.ty22 rfl rfl) (v' := ptr S 2) rfl) ?_
        refine Gx.eff0 rfl rfl (eff_store rfl Try.ty22 rfl rfl (us := [v8]) hiv8.cellsL rfl hiv8.all (k := 2) rfl (rfl) (vs' := [pv, cv, v8, .int .i64 ((s.sent : Nat) : Int), .int .i64 0]) (rfl) (l' := [Hp.rec_ m.b [.int .i64 m.s.nm, .bool m.s.pt, (sCut 1 1 m.s.q.length m.v)], Hp.own SZ 1 (sCut 1 1 m.s.q.length m.v) lq, Hp.rec_ S [pv, cv, v8, .int .i64 ((s.sent : Nat) : Int), .int .i64 0], Hp.own FP 1 pv (pms.map Pm.b), Hp.own FN 1 v8 (s.ch ++ [i]), R, R1]) rfl) ?_
        rintro _ _ rfl
        refine Gx.done ?_
        refine Gx.blkN ?_
        refine Gx.thenN ?_
        refine Gx.seq ?_
        refine Gx.region ?_
        refine Gx.val rfl rfl rfl (val_assign rfl rfl) ?_
        refine Gx.done ?_
        refine Gx.thenN ?_
        refine Gx.ret ?_
        refine Gx.front 6 rfl ?_
        refine Gx.front 2 rfl ?_
        refine Gx.front 2 rfl ?_
        refine Gx.sepEq (l' := [Hp.big seatH (pms.set i (⟨m.b, (sCut 1 1 m.s.q.length m.v), ⟨m.s.nm, m.s.pt, lq⟩⟩ : Pm)), Hp.rec_ S [pv, cv, v8, .int .i64 ((s.sent : Nat) : Int), .int .i64 0], Hp.own FP 1 pv (pms.map Pm.b), Hp.own FN 1 v8 (s.ch ++ [i]), R]) (by show Hp.rec_ m.b [.int .i64 m.s.nm, .bool m.s.pt, (sCut 1 1 m.s.q.length m.v)] * (Hp.own SZ 1 (sCut 1 1 m.s.q.length m.v) lq * (R1 * _)) = Hp.big seatH (pms.set i (⟨m.b, (sCut 1 1 m.s.q.length m.v), ⟨m.s.nm, m.s.pt, lq⟩⟩ : Pm)) * _; rw [(hg3 (⟨m.b, (sCut 1 1 m.s.q.length m.v), ⟨m.s.nm, m.s.pt, lq⟩⟩ : Pm))]; show _ = (Hp.rec_ m.b [.int .i64 m.s.nm, .bool m.s.pt, (sCut 1 1 m.s.q.length m.v)] * Hp.own SZ 1 (sCut 1 1 m.s.q.length m.v) lq * R1) * _; simp only [Hp.mul_assoc] <;> rfl) ?_
        refine Gx.norm (l' := [Hp.big seatH (pms.set i (⟨m.b, (sCut 1 1 m.s.q.length m.v), ⟨m.s.nm, m.s.pt, lq⟩⟩ : Pm)), Hp.rec_ S [pv, cv, v8, .int .i64 ((s.sent : Nat) : Int), .int .i64 0], Hp.own FP 1 pv ((pms.set i (⟨m.b, (sCut 1 1 m.s.q.length m.v), ⟨m.s.nm, m.s.pt, lq⟩⟩ : Pm)).map Pm.b), Hp.own FN 1 v8 (s.ch ++ [i]), R]) (by rw [show ((pms.set i (⟨m.b, (sCut 1 1 m.s.q.length m.v), ⟨m.s.nm, m.s.pt, lq⟩⟩ : Pm)).map Pm.b) = (pms.map Pm.b) from set_bM hm rfl] <;> rfl) ?_
        refine Gx.front 3 rfl ?_
        refine Gx.front 1 rfl ?_
        refine Gx.front 3 rfl ?_
        refine Gx.front 3 rfl ?_
        refine Gx.sat (l' := [worldH S cv (⟨upS s.ss i (fun x => { x with q := lq }), s.ch ++ [i], s.sent⟩ : RS), R]) (fun w H => (worldH.shut (S := S) (cv := cv) (s := (⟨upS s.ss i (fun x => { x with q := lq }), s.ch ++ [i], s.sent⟩ : RS)) (pms := (pms.set i (⟨m.b, (sCut 1 1 m.s.q.length m.v), ⟨m.s.nm, m.s.pt, lq⟩⟩ : Pm))) (R := sep [R]) (map_upS (y := (⟨m.b, (sCut 1 1 m.s.q.length m.v), ⟨m.s.nm, m.s.pt, lq⟩⟩ : Pm)) hmap hm rfl) (H.cast (by rw [sep4R] <;> rfl))).cast (by rw [sep1] <;> rfl)) ?_
        refine Gx.ret1 Try.results19 rfl ?_
        refine ⟨?_, ?_⟩
        · unfold takeR; rw [hrow]; dsimp only; rw [hqe]; dsimp only; rw [if_neg (by omega), if_pos (by omega)]
        · rw [sep1]; unfold takeR; rw [hrow]; dsimp only; rw [hqe]; dsimp only; rw [if_neg (by omega), if_pos (by omega)]
      · refine Gx.seq ?_
        refine Gx.region ?_
        refine Gx.val rfl rfl rfl (val_move rfl rfl) ?_
        refine Gx.val rfl rfl rfl (val_nilCheck rfl rfl) ?_
        refine Gx.val rfl rfl rfl (Val.cast (val_fieldAddr rfl Try.underlying46 rfl Try.ty4 rfl rfl) (v' := ptr m.b 1) rfl) ?_
        refine Gx.val rfl rfl rfl (val_load rfl Try.ty4 rfl rfl (cell_rec (k := 0) rfl rfl)) ?_
        refine Gx.val rfl rfl rfl (val_not rfl rfl) ?_
        refine Gx.val rfl rfl rfl (val_assign rfl rfl) ?_
        refine Gx.done ?_
        refine Gx.thenN ?_
        refine Gx.bool rfl (fun h9 => ?_) (fun h9 => ?_)
        · refine Gx.region ?_
          refine Gx.val rfl rfl rfl (val_move rfl rfl) ?_
          refine Gx.val rfl rfl rfl (val_move rfl rfl) ?_
          refine Gx.val rfl rfl rfl (val_move rfl rfl) ?_
          refine Gx.val rfl rfl rfl (val_nilCheck rfl rfl) ?_
          refine Gx.val rfl rfl rfl (Val.cast (val_fieldAddr rfl Try.underlying46 rfl Try.ty3 rfl rfl) (v' := ptr m.b 0) rfl) ?_
          refine Gx.val rfl rfl rfl (val_load rfl Try.ty3 rfl rfl (cell_rec (k := 0) rfl rfl)) ?_
          refine Gx.front 6 rfl ?_
          refine Gx.front 2 rfl ?_
          refine Gx.front 2 rfl ?_
          refine Gx.sepEq (l' := [Hp.big seatH (pms.set i (⟨m.b, (sCut 1 1 m.s.q.length m.v), ⟨m.s.nm, m.s.pt, lq⟩⟩ : Pm)), Hp.rec_ S [pv, cv, chv, .int .i64 ((s.sent : Nat) : Int), .int .i64 0], Hp.own FP 1 pv (pms.map Pm.b), Hp.own FN 1 chv s.ch, R]) (by show Hp.rec_ m.b [.int .i64 m.s.nm, .bool m.s.pt, (sCut 1 1 m.s.q.length m.v)] * (Hp.own SZ 1 (sCut 1 1 m.s.q.length m.v) lq * (R1 * _)) = Hp.big seatH (pms.set i (⟨m.b, (sCut 1 1 m.s.q.length m.v), ⟨m.s.nm, m.s.pt, lq⟩⟩ : Pm)) * _; rw [(hg3 (⟨m.b, (sCut 1 1 m.s.q.length m.v), ⟨m.s.nm, m.s.pt, lq⟩⟩ : Pm))]; show _ = (Hp.rec_ m.b [.int .i64 m.s.nm, .bool m.s.pt, (sCut 1 1 m.s.q.length m.v)] * Hp.own SZ 1 (sCut 1 1 m.s.q.length m.v) lq * R1) * _; simp only [Hp.mul_assoc] <;> rfl) ?_
          refine Gx.norm (l' := [Hp.big seatH (pms.set i (⟨m.b, (sCut 1 1 m.s.q.length m.v), ⟨m.s.nm, m.s.pt, lq⟩⟩ : Pm)), Hp.rec_ S [pv, cv, chv, .int .i64 ((s.sent : Nat) : Int), .int .i64 0], Hp.own FP 1 pv ((pms.set i (⟨m.b, (sCut 1 1 m.s.q.length m.v), ⟨m.s.nm, m.s.pt, lq⟩⟩ : Pm)).map Pm.b), Hp.own FN 1 chv s.ch, R]) (by rw [show ((pms.set i (⟨m.b, (sCut 1 1 m.s.q.length m.v), ⟨m.s.nm, m.s.pt, lq⟩⟩ : Pm)).map Pm.b) = (pms.map Pm.b) from set_bM hm rfl] <;> rfl) ?_
          refine Gx.front 3 rfl ?_
          refine Gx.front 1 rfl ?_
          refine Gx.front 3 rfl ?_
          refine Gx.front 3 rfl ?_
          refine Gx.sat (l' := [worldH S cv (⟨upS s.ss i (fun x => { x with q := lq }), s.ch, s.sent⟩ : RS), R]) (fun w H => (worldH.shut (S := S) (cv := cv) (s := (⟨upS s.ss i (fun x => { x with q := lq }), s.ch, s.sent⟩ : RS)) (pms := (pms.set i (⟨m.b, (sCut 1 1 m.s.q.length m.v), ⟨m.s.nm, m.s.pt, lq⟩⟩ : Pm))) (R := sep [R]) (map_upS (y := (⟨m.b, (sCut 1 1 m.s.q.length m.v), ⟨m.s.nm, m.s.pt, lq⟩⟩ : Pm)) hmap hm rfl) (H.cast (by rw [sep4R] <;> rfl))).cast (by rw [sep1] <;> rfl)) ?_
          refine Gx.eff rfl rfl rfl (eff_call (vs := [ptr S 0, .int .i64 ((i : Nat) : Int), .int .i64 m.s.nm]) rfl Try.fn20 rfl (fun w H => send_any (s := (⟨upS s.ss i (fun x => { x with q := lq }), s.ch, s.sent⟩ : RS)) (a := m.s.nm) (by dsimp only; rw [upS_len]; exact hi) (by dsimp only; rw [upS_len]; exact hn) hsent (q_upS hq hrow hqe) (H.at_ (k := 0) rfl))) ?_
          rintro _ l10 ⟨rfl, hl10⟩
          refine Gx.sepEq (l' := [worldH S cv (sendR (⟨upS s.ss i (fun x => { x with q := lq }), s.ch, s.sent⟩ : RS) i m.s.nm), R]) hl10 ?_
          refine Gx.done ?_
          refine Gx.blkN ?_
          refine Gx.thenN ?_
          refine Gx.seq ?_
          refine Gx.region ?_
          refine Gx.val rfl rfl rfl (val_assign rfl rfl) ?_
          refine Gx.done ?_
          refine Gx.thenN ?_
          refine Gx.ret ?_
          refine Gx.ret1 Try.results19 rfl ?_
          refine ⟨?_, ?_⟩
          · unfold takeR; rw [hrow]; dsimp only; rw [hqe]; dsimp only; rw [if_neg (by omega), if_neg (by omega), if_pos (by simp_all)]
          · rw [sep1]; unfold takeR; rw [hrow]; dsimp only; rw [hqe]; dsimp only; rw [if_neg (by omega), if_neg (by omega), if_pos (by simp_all)]
        · refine Gx.skip ?_
          refine Gx.blkN ?_
          refine Gx.thenN ?_
          refine Gx.seq ?_
          refine Gx.region ?_
          refine Gx.val rfl rfl rfl (val_assign rfl rfl) ?_
          refine Gx.done ?_
          refine Gx.thenN ?_
          refine Gx.ret ?_
          refine Gx.front 6 rfl ?_
          refine Gx.front 2 rfl ?_
          refine Gx.front 2 rfl ?_
          refine Gx.sepEq (l' := [Hp.big seatH (pms.set i (⟨m.b, (sCut 1 1 m.s.q.length m.v), ⟨m.s.nm, m.s.pt, lq⟩⟩ : Pm)), Hp.rec_ S [pv, cv, chv, .int .i64 ((s.sent : Nat) : Int), .int .i64 0], Hp.own FP 1 pv (pms.map Pm.b), Hp.own FN 1 chv s.ch, R]) (by show Hp.rec_ m.b [.int .i64 m.s.nm, .bool m.s.pt, (sCut 1 1 m.s.q.length m.v)] * (Hp.own SZ 1 (sCut 1 1 m.s.q.length m.v) lq * (R1 * _)) = Hp.big seatH (pms.set i (⟨m.b, (sCut 1 1 m.s.q.length m.v), ⟨m.s.nm, m.s.pt, lq⟩⟩ : Pm)) * _; rw [(hg3 (⟨m.b, (sCut 1 1 m.s.q.length m.v), ⟨m.s.nm, m.s.pt, lq⟩⟩ : Pm))]; show _ = (Hp.rec_ m.b [.int .i64 m.s.nm, .bool m.s.pt, (sCut 1 1 m.s.q.length m.v)] * Hp.own SZ 1 (sCut 1 1 m.s.q.length m.v) lq * R1) * _; simp only [Hp.mul_assoc] <;> rfl) ?_
          refine Gx.norm (l' := [Hp.big seatH (pms.set i (⟨m.b, (sCut 1 1 m.s.q.length m.v), ⟨m.s.nm, m.s.pt, lq⟩⟩ : Pm)), Hp.rec_ S [pv, cv, chv, .int .i64 ((s.sent : Nat) : Int), .int .i64 0], Hp.own FP 1 pv ((pms.set i (⟨m.b, (sCut 1 1 m.s.q.length m.v), ⟨m.s.nm, m.s.pt, lq⟩⟩ : Pm)).map Pm.b), Hp.own FN 1 chv s.ch, R]) (by rw [show ((pms.set i (⟨m.b, (sCut 1 1 m.s.q.length m.v), ⟨m.s.nm, m.s.pt, lq⟩⟩ : Pm)).map Pm.b) = (pms.map Pm.b) from set_bM hm rfl] <;> rfl) ?_
          refine Gx.front 3 rfl ?_
          refine Gx.front 1 rfl ?_
          refine Gx.front 3 rfl ?_
          refine Gx.front 3 rfl ?_
          refine Gx.sat (l' := [worldH S cv (⟨upS s.ss i (fun x => { x with q := lq }), s.ch, s.sent⟩ : RS), R]) (fun w H => (worldH.shut (S := S) (cv := cv) (s := (⟨upS s.ss i (fun x => { x with q := lq }), s.ch, s.sent⟩ : RS)) (pms := (pms.set i (⟨m.b, (sCut 1 1 m.s.q.length m.v), ⟨m.s.nm, m.s.pt, lq⟩⟩ : Pm))) (R := sep [R]) (map_upS (y := (⟨m.b, (sCut 1 1 m.s.q.length m.v), ⟨m.s.nm, m.s.pt, lq⟩⟩ : Pm)) hmap hm rfl) (H.cast (by rw [sep4R] <;> rfl))).cast (by rw [sep1] <;> rfl)) ?_
          refine Gx.ret1 Try.results19 rfl ?_
          refine ⟨?_, ?_⟩
          · unfold takeR; rw [hrow]; dsimp only; rw [hqe]; dsimp only; rw [if_neg (by omega), if_neg (by omega), if_neg (by simp_all)]
          · rw [sep1]; unfold takeR; rw [hrow]; dsimp only; rw [hqe]; dsimp only; rw [if_neg (by omega), if_neg (by omega), if_neg (by simp_all)]

end Go.Proofs.Yteejbaindbiimaa
