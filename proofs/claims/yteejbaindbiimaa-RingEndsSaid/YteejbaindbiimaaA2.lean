/- A name is sent on. The walk. No condition. -/
import Derived.Test.YteejbaindbiimaaA1
namespace Go.Proofs.Yteejbaindbiimaa
open Go.RowKit
set_option linter.unusedVariables false
set_option linter.unusedSimpArgs false
set_option maxRecDepth 100000

theorem row_of {pms : List Pm} {l : List Se} {i : Nat} {m : Pm} (h : pms.map Pm.s = l) (hm : pms[i]? = some m) : l[i]? = some m.s := by rw [← h, List.getElem?_map, hm]; rfl
theorem send_any {W w : World} {S i : Nat} {cv : Value} {a : Int} {s : RS} {R : Hp} (hi : i < s.ss.length) (hn : s.ss.length ≤ 6) (hsent : s.sent ≤ 100000) (hq : ∀ x ∈ upS s.ss i (fun x => { x with pt := true }), x.q.length ≤ 100000) (H : Sat W w (worldH S cv s * R)) :
    Calls Try.prog 20 #[ptr S 0, .int .i64 ((i : Nat) : Int), .int .i64 a] w (Ret W fun v l => v = .tuple #[] ∧ sep l = worldH S cv (sendR s i a) * R) := by
  obtain ⟨pv, chv, pms, hmap, H⟩ := worldH.open_ H
  have hpl : pms.length = s.ss.length := by rw [← hmap, List.length_map]
  have hbl : (pms.map Pm.b).length = s.ss.length := by rw [List.length_map, hpl]
  refine Gx.enter (l := [Hp.rec_ S [pv, cv, chv, .int .i64 ((s.sent : Nat) : Int), .int .i64 0], Hp.own FP 1 pv (pms.map Pm.b), Hp.big seatH pms, Hp.own FN 1 chv s.ch, R]) Try.func20 rfl Try.ntmps20 rfl (H) ?_
  refine Gx.know (m' := [(0, ptr S 0), (1, .int .i64 ((i : Nat) : Int)), (2, .int .i64 a)]) (.cons rfl (.cons rfl (.cons rfl .nil))) ?_
  refine Gx.seq ?_
  obtain ⟨m, hm⟩ := get_of_lt (xs := pms) (k := i) (by omega)
  have hbm : (pms.map Pm.b)[i]? = some m.b := by rw [List.getElem?_map, hm]; rfl
  refine Gx.focus (n := 2) (k := i) rfl hm (fun R1 hf2 hg3 => ?_)
  refine Gx.norm (l' := [Hp.rec_ S [pv, cv, chv, .int .i64 ((s.sent : Nat) : Int), .int .i64 0], Hp.own FP 1 pv (pms.map Pm.b), seatH m, Hp.own FN 1 chv s.ch, R, R1]) rfl ?_
  refine Gx.cleave 2 (p := Hp.rec_ m.b [.int .i64 m.s.nm, .bool m.s.pt, m.v]) (q := Hp.own SZ 1 m.v m.s.q) rfl rfl rfl ?_
  refine Gx.norm (l' := [Hp.rec_ m.b [.int .i64 m.s.nm, .bool m.s.pt, m.v], Hp.own SZ 1 m.v m.s.q, Hp.rec_ S [pv, cv, chv, .int .i64 ((s.sent : Nat) : Int), .int .i64 0], Hp.own FP 1 pv (pms.map Pm.b), Hp.own FN 1 chv s.ch, R, R1]) rfl ?_
  refine Gx.region ?_
  refine Gx.val rfl rfl rfl (val_move rfl rfl) ?_
  refine Gx.val rfl rfl rfl (val_nilCheck rfl rfl) ?_
  refine Gx.val rfl rfl rfl (Val.cast (val_fieldAddr rfl Try.underlying43 rfl Try.ty41 rfl rfl) (v' := ptr S 0) rfl) ?_
  refine Gx.val rfl rfl rfl (val_load rfl Try.ty41 rfl rfl (cell_rec (k := 2) rfl rfl)) ?_
  refine Gx.val rfl rfl rfl (val_move rfl rfl) ?_
  refine Gx.val rfl rfl rfl (val_ixa rfl Try.underlying41 Try.ty44 rfl rfl (j := i) (rfl) (reach_own (k := 3) rfl hbm)) ?_
  refine Gx.val rfl rfl rfl (val_load rfl Try.ty44 rfl rfl (cell_own (i := 0) (k := 3) rfl hbm rfl)) ?_
  refine Gx.val rfl rfl rfl (val_nilCheck rfl rfl) ?_
  refine Gx.val rfl rfl rfl (Val.cast (val_fieldAddr rfl Try.underlying46 rfl Try.ty4 rfl rfl) (v' := ptr m.b 1) rfl) ?_
  refine Gx.eff0 rfl rfl (eff_store rfl Try.ty4 rfl rfl (us := [.bool true]) rfl rfl rfl (k := 0) rfl (rfl) (vs' := [.int .i64 m.s.nm, .bool true, m.v]) (rfl) (l' := [Hp.rec_ m.b [.int .i64 m.s.nm, .bool true, m.v], Hp.own SZ 1 m.v m.s.q, Hp.rec_ S [pv, cv, chv, .int .i64 ((s.sent : Nat) : Int), .int .i64 0], Hp.own FP 1 pv (pms.map Pm.b), Hp.own FN 1 chv s.ch, R, R1]) rfl) ?_
  rintro _ _ rfl
  refine Gx.done ?_
  refine Gx.thenN ?_
  refine Gx.seq ?_
  refine Gx.front 6 rfl ?_
  refine Gx.front 2 rfl ?_
  refine Gx.front 2 rfl ?_
  refine Gx.sepEq (l' := [Hp.big seatH (pms.set i (⟨m.b, m.v, ⟨m.s.nm, true, m.s.q⟩⟩ : Pm)), Hp.rec_ S [pv, cv, chv, .int .i64 ((s.sent : Nat) : Int), .int .i64 0], Hp.own FP 1 pv (pms.map Pm.b), Hp.own FN 1 chv s.ch, R]) (by show Hp.rec_ m.b [.int .i64 m.s.nm, .bool true, m.v] * (Hp.own SZ 1 m.v m.s.q * (R1 * _)) = Hp.big seatH (pms.set i (⟨m.b, m.v, ⟨m.s.nm, true, m.s.q⟩⟩ : Pm)) * _; rw [(hg3 (⟨m.b, m.v, ⟨m.s.nm, true, m.s.q⟩⟩ : Pm))]; show _ = (Hp.rec_ m.b [.int .i64 m.s.nm, .bool true, m.v] * Hp.own SZ 1 m.v m.s.q * R1) * _; simp only [Hp.mul_assoc] <;> rfl) ?_
  refine Gx.norm (l' := [Hp.big seatH (pms.set i (⟨m.b, m.v, ⟨m.s.nm, true, m.s.q⟩⟩ : Pm)), Hp.rec_ S [pv, cv, chv, .int .i64 ((s.sent : Nat) : Int), .int .i64 0], Hp.own FP 1 pv ((pms.set i (⟨m.b, m.v, ⟨m.s.nm, true, m.s.q⟩⟩ : Pm)).map Pm.b), Hp.own FN 1 chv s.ch, R]) (by rw [show ((pms.set i (⟨m.b, m.v, ⟨m.s.nm, true, m.s.q⟩⟩ : Pm)).map Pm.b) = (pms.map Pm.b) from set_bM hm rfl] <;> rfl) ?_
  have hmap1 : (pms.set i (⟨m.b, m.v, ⟨m.s.nm, true, m.s.q⟩⟩ : Pm)).map Pm.s = upS s.ss i (fun x => { x with pt := true }) := map_upS hmap hm rfl
  obtain ⟨pms1, hp1⟩ : ∃ q, q = (pms.set i (⟨m.b, m.v, ⟨m.s.nm, true, m.s.q⟩⟩ : Pm)) := ⟨_, rfl⟩
  rw [← hp1] at hmap1
  have hpl1 : pms1.length = s.ss.length := by rw [hp1, List.length_set]; exact hpl
  have hbl1 : (pms1.map Pm.b).length = s.ss.length := by rw [List.length_map, hpl1]
  refine Gx.norm (l' := [Hp.big seatH pms1, Hp.rec_ S [pv, cv, chv, .int .i64 ((s.sent : Nat) : Int), .int .i64 0], Hp.own FP 1 pv (pms1.map Pm.b), Hp.own FN 1 chv s.ch, R]) (by rw [hp1] <;> rfl) ?_
  have hnx : (i + 1) % s.ss.length < s.ss.length := Nat.mod_lt _ (by omega)
  obtain ⟨nx, hnxe⟩ : ∃ q, q = (i + 1) % s.ss.length := ⟨_, rfl⟩
  rw [← hnxe] at hnx
  obtain ⟨m2, hm2⟩ := get_of_lt (xs := pms1) (k := nx) (by omega)
  have hbm2 : (pms1.map Pm.b)[nx]? = some m2.b := by rw [List.getElem?_map, hm2]; rfl
  refine Gx.regionQ Try.mixed (by kernel_rfl) ?_
  refine Gq.val rfl rfl rfl (val_move rfl rfl) ?_
  refine Gq.val rfl rfl rfl (val_nilCheck rfl rfl) ?_
  refine Gq.val rfl rfl rfl (Val.cast (val_fieldAddr rfl Try.underlying43 rfl Try.ty41 rfl rfl) (v' := ptr S 0) rfl) ?_
  refine Gq.val rfl rfl rfl (val_load rfl Try.ty41 rfl rfl (cell_rec (k := 1) rfl rfl)) ?_
  refine Gq.val rfl rfl rfl (val_move rfl rfl) ?_
  refine Gq.val rfl rfl rfl (val_add rfl rfl rfl (r := ((i + 1 : Nat) : Int)) (w64 (by omega) (by omega))) ?_
  refine Gq.val rfl rfl rfl (val_move rfl rfl) ?_
  refine Gq.val rfl rfl rfl (val_nilCheck rfl rfl) ?_
  refine Gq.val rfl rfl rfl (Val.cast (val_fieldAddr rfl Try.underlying43 rfl Try.ty41 rfl rfl) (v' := ptr S 0) rfl) ?_
  refine Gq.val rfl rfl rfl (val_load rfl Try.ty41 rfl rfl (cell_rec (k := 1) rfl rfl)) ?_
  refine Gq.val rfl rfl rfl (val_len rfl Try.underlying41 rfl (len_own (k := 2) rfl)) ?_
  refine Gq.val rfl rfl rfl (val_rem rfl rfl rfl (r := ((nx : Nat) : Int)) (by omega) (by rw [hnxe, hbl1] <;> rfl)) ?_
  refine Gq.val rfl rfl rfl (val_ixa rfl Try.underlying41 Try.ty44 rfl rfl (j := nx) (rfl) (reach_own (k := 2) rfl hbm2)) ?_
  refine Gq.val rfl rfl rfl (val_load rfl Try.ty44 rfl rfl (cell_own (i := 0) (k := 2) rfl hbm2 rfl)) ?_
  refine Gq.val rfl rfl rfl (val_assign rfl rfl) ?_
  refine Gq.done ?_
  refine Gx.thenN ?_
  refine Gx.seq ?_
  refine Gx.focus (n := 0) (k := nx) rfl hm2 (fun R4 hf5 hg6 => ?_)
  refine Gx.norm (l' := [seatH m2, Hp.rec_ S [pv, cv, chv, .int .i64 ((s.sent : Nat) : Int), .int .i64 0], Hp.own FP 1 pv (pms1.map Pm.b), Hp.own FN 1 chv s.ch, R, R4]) rfl ?_
  refine Gx.cleave 0 (p := Hp.rec_ m2.b [.int .i64 m2.s.nm, .bool m2.s.pt, m2.v]) (q := Hp.own SZ 1 m2.v m2.s.q) rfl rfl rfl ?_
  refine Gx.norm (l' := [Hp.rec_ m2.b [.int .i64 m2.s.nm, .bool m2.s.pt, m2.v], Hp.own SZ 1 m2.v m2.s.q, Hp.rec_ S [pv, cv, chv, .int .i64 ((s.sent : Nat) : Int), .int .i64 0], Hp.own FP 1 pv (pms1.map Pm.b), Hp.own FN 1 chv s.ch, R, R4]) rfl ?_
  have hq2 := hq m2.s (by rw [← hmap1]; exact List.mem_map_of_mem (List.mem_of_getElem? hm2))
  refine Gx.region ?_
  refine Gx.val rfl rfl rfl (val_move rfl rfl) ?_
  refine Gx.val rfl rfl rfl (val_move rfl rfl) ?_
  refine Gx.val rfl rfl rfl (val_nilCheck rfl rfl) ?_
  refine Gx.val rfl rfl rfl (Val.cast (val_fieldAddr rfl Try.underlying46 rfl Try.ty22 rfl rfl) (v' := ptr m2.b 2) rfl) ?_
  refine Gx.val rfl rfl rfl (val_load rfl Try.ty22 rfl rfl (cell_rec (k := 0) rfl rfl)) ?_
  refine Gx.val rfl rfl rfl (val_move rfl rfl) ?_
  refine Gx.eff rfl rfl rfl (eff_buildSlice rfl (qs := [(0, .int .i64 a)]) rfl rfl (cs := #[.int .i64 a]) (vs := [.int .i64 a]) (E := 3) rfl (fun w => by first | (go_simp; done) | (go_simp; rfl))) ?_
  rintro _ _ ⟨b7, rfl, rfl⟩
  refine Gx.eff rfl rfl rfl (eff_push (r := a) rfl Try.eI SZ_len SZ_one rfl rfl (k := 0) rfl rfl (k' := 1) rfl (by omega) (by omega)) ?_
  rintro v8 _ ⟨hiv8, rfl⟩
  refine Gx.norm (l' := [Hp.rec_ m2.b [.int .i64 m2.s.nm, .bool m2.s.pt, m2.v], Hp.own SZ 1 v8 (m2.s.q ++ [a]), Hp.rec_ S [pv, cv, chv, .int .i64 ((s.sent : Nat) : Int), .int .i64 0], Hp.own FP 1 pv (pms1.map Pm.b), Hp.own FN 1 chv s.ch, R, R4]) rfl ?_
  refine Gx.val rfl rfl rfl (val_nilCheck rfl rfl) ?_
  refine Gx.val rfl rfl rfl (Val.cast (val_fieldAddr rfl Try.underlying46 rfl Try.ty22 rfl rfl) (v' := ptr m2.b 2) rfl) ?_
  refine Gx.eff0 rfl rfl (eff_store rfl Try.ty22 rfl rfl (us := [v8]) hiv8.cellsL rfl hiv8.all (k := 0) rfl (rfl) (vs' := [.int .i64 m2.s.nm, .bool m2.s.pt, v8]) (rfl) (l' := [Hp.rec_ m2.b [.int .i64 m2.s.nm, .bool m2.s.pt, v8], Hp.own SZ 1 v8 (m2.s.q ++ [a]), Hp.rec_ S [pv, cv, chv, .int .i64 ((s.sent : Nat) : Int), .int .i64 0], Hp.own FP 1 pv (pms1.map Pm.b), Hp.own FN 1 chv s.ch, R, R4]) rfl) ?_
  rintro _ _ rfl
  refine Gx.done ?_
  refine Gx.thenN ?_
  refine Gx.region ?_
  refine Gx.val rfl rfl rfl (val_move rfl rfl) ?_
  refine Gx.val rfl rfl rfl (val_nilCheck rfl rfl) ?_
  refine Gx.val rfl rfl rfl (Val.cast (val_fieldAddr rfl Try.underlying43 rfl Try.ty26 rfl rfl) (v' := ptr S 1) rfl) ?_
  refine Gx.val rfl rfl rfl (Val.cast (val_fieldAddr rfl Try.underlying26 rfl Try.ty3 rfl rfl) (v' := ptr S 3) rfl) ?_
  refine Gx.val rfl rfl rfl (val_load rfl Try.ty3 rfl rfl (cell_rec (k := 2) rfl rfl)) ?_
  refine Gx.val rfl rfl rfl (val_add rfl rfl rfl (r := ((s.sent + 1 : Nat) : Int)) (w64 (by omega) (by omega))) ?_
  refine Gx.val rfl rfl rfl (val_nilCheck rfl rfl) ?_
  refine Gx.val rfl rfl rfl (Val.cast (val_fieldAddr rfl Try.underlying43 rfl Try.ty26 rfl rfl) (v' := ptr S 1) rfl) ?_
  refine Gx.val rfl rfl rfl (Val.cast (val_fieldAddr rfl Try.underlying26 rfl Try.ty3 rfl rfl) (v' := ptr S 3) rfl) ?_
  refine Gx.eff0 rfl rfl (eff_store rfl Try.ty3 rfl rfl (us := [.int .i64 ((s.sent + 1 : Nat) : Int)]) rfl rfl rfl (k := 2) rfl (rfl) (vs' := [pv, cv, chv, .int .i64 ((s.sent + 1 : Nat) : Int), .int .i64 0]) (rfl) (l' := [Hp.rec_ m2.b [.int .i64 m2.s.nm, .bool m2.s.pt, v8], Hp.own SZ 1 v8 (m2.s.q ++ [a]), Hp.rec_ S [pv, cv, chv, .int .i64 ((s.sent + 1 : Nat) : Int), .int .i64 0], Hp.own FP 1 pv (pms1.map Pm.b), Hp.own FN 1 chv s.ch, R, R4]) rfl) ?_
  rintro _ _ rfl
  refine Gx.done ?_
  refine Gx.endN ?_
  refine Gx.front 6 rfl ?_
  refine Gx.front 2 rfl ?_
  refine Gx.front 2 rfl ?_
  refine Gx.sepEq (l' := [Hp.big seatH (pms1.set nx (⟨m2.b, v8, ⟨m2.s.nm, m2.s.pt, (m2.s.q ++ [a])⟩⟩ : Pm)), Hp.rec_ S [pv, cv, chv, .int .i64 ((s.sent + 1 : Nat) : Int), .int .i64 0], Hp.own FP 1 pv (pms1.map Pm.b), Hp.own FN 1 chv s.ch, R]) (by show Hp.rec_ m2.b [.int .i64 m2.s.nm, .bool m2.s.pt, v8] * (Hp.own SZ 1 v8 (m2.s.q ++ [a]) * (R4 * _)) = Hp.big seatH (pms1.set nx (⟨m2.b, v8, ⟨m2.s.nm, m2.s.pt, (m2.s.q ++ [a])⟩⟩ : Pm)) * _; rw [(hg6 (⟨m2.b, v8, ⟨m2.s.nm, m2.s.pt, (m2.s.q ++ [a])⟩⟩ : Pm))]; show _ = (Hp.rec_ m2.b [.int .i64 m2.s.nm, .bool m2.s.pt, v8] * Hp.own SZ 1 v8 (m2.s.q ++ [a]) * R4) * _; simp only [Hp.mul_assoc] <;> rfl) ?_
  refine Gx.norm (l' := [Hp.big seatH (pms1.set nx (⟨m2.b, v8, ⟨m2.s.nm, m2.s.pt, (m2.s.q ++ [a])⟩⟩ : Pm)), Hp.rec_ S [pv, cv, chv, .int .i64 ((s.sent + 1 : Nat) : Int), .int .i64 0], Hp.own FP 1 pv ((pms1.set nx (⟨m2.b, v8, ⟨m2.s.nm, m2.s.pt, (m2.s.q ++ [a])⟩⟩ : Pm)).map Pm.b), Hp.own FN 1 chv s.ch, R]) (by rw [show ((pms1.set nx (⟨m2.b, v8, ⟨m2.s.nm, m2.s.pt, (m2.s.q ++ [a])⟩⟩ : Pm)).map Pm.b) = (pms1.map Pm.b) from set_bM hm2 rfl] <;> rfl) ?_
  refine Gx.front 3 rfl ?_
  refine Gx.front 1 rfl ?_
  refine Gx.front 3 rfl ?_
  refine Gx.front 3 rfl ?_
  refine Gx.sat (l' := [worldH S cv (sendR s i a), R]) (fun w H => (worldH.shut (S := S) (cv := cv) (s := (sendR s i a)) (pms := (pms1.set nx (⟨m2.b, v8, ⟨m2.s.nm, m2.s.pt, (m2.s.q ++ [a])⟩⟩ : Pm))) (R := sep [R]) (by unfold sendR; dsimp only; rw [← hnxe]; exact map_upS (y := (⟨m2.b, v8, ⟨m2.s.nm, m2.s.pt, (m2.s.q ++ [a])⟩⟩ : Pm)) hmap1 hm2 rfl) (H.cast (by rw [sep4R] <;> rfl))).cast (by rw [sep1] <;> rfl)) ?_
  refine Gx.ret0 Try.results20 ?_
  exact ⟨rfl, sep1 _ _⟩

end Go.Proofs.Yteejbaindbiimaa
