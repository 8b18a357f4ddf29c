/- Who lies; how many said so; a message is sent to all. The walks. No condition. -/
import Derived.Test.YtbfcfekpfgpfbaaD1
import Derived.Test.YtbfcfekpfgpfbaaX9
import Derived.Test.YtbfcfekpfgpfbaaX12
namespace Go.Proofs.Ytbfcfekpfgpfbaa
open Go.RowKit
set_option linter.unusedVariables false
set_option linter.unusedSimpArgs false
set_option maxRecDepth 100000

theorem many_pos {left rest : Hl} {a : (Sm × Sm) × Int} {what : Nat} {x : Int} (hp : left.Perm (a :: rest)) (h : a.1.2.val = what ∧ a.2 = x) : manyB left what x = manyB rest what x + 1 := by
  unfold manyB
  rw [(hp.filter _).length_eq, List.filter_cons_of_pos (by simpa using h)]; rfl
theorem many_neg {left rest : Hl} {a : (Sm × Sm) × Int} {what : Nat} {x : Int} (hp : left.Perm (a :: rest)) (h : ¬ (a.1.2.val = what ∧ a.2 = x)) : manyB left what x = manyB rest what x := by
  unfold manyB
  rw [(hp.filter _).length_eq, List.filter_cons_of_neg (by simpa using h)]
theorem bit_one (L i : Nat) : (L >>> i &&& 1 = 1) ↔ L.testBit i = true := by
  unfold Nat.testBit
  have : 1 &&& L >>> i = L >>> i &&& 1 := Nat.and_comm ..
  rw [this]
  have h2 : L >>> i &&& 1 = 0 ∨ L >>> i &&& 1 = 1 := by
    have : L >>> i &&& 1 = (L >>> i) % 2 := Nat.and_one_is_mod _
    omega
  rcases h2 with h | h <;> rw [h] <;> decide
theorem sh_lt {x : Nat} (i : Nat) (h : x < 4294967296) : x >>> i < 4294967296 := Nat.lt_of_le_of_lt (Nat.shiftRight_le ..) h
theorem lies_any {W : World} {S i : Nat} {c : Cf} (hb : S < W.heap.size) (hc : W.cell? ⟨S, 2, none⟩ = some (.int .u32 ((c.L : Nat) : Int))) (hL : c.L < 4294967296) (hi : i < 32) : Calls Try.prog 16 #[ptr S 0, .int .i64 ((i : Nat) : Int)] W fun e w' => e = .returned (.bool (liesB c.L i)) ∧ Below W.heap.size W w' := by
  refine calls_pure (Gx.enter (l := []) Try.func16 rfl Try.ntmps16 rfl (Sat.start W) ?_)
  refine Gx.know (m' := [(0, ptr S 0), (1, .int .i64 ((i : Nat) : Int))]) (.cons rfl (.cons rfl .nil)) ?_
  refine Gx.seq ?_
  refine Gx.region ?_
  refine Gx.val rfl rfl rfl (val_assign rfl rfl) ?_
  refine Gx.done ?_
  refine Gx.thenN ?_
  refine Gx.seq ?_
  refine Gx.region ?_
  refine Gx.val rfl rfl rfl (val_move rfl rfl) ?_
  refine Gx.val rfl rfl rfl (val_nilCheck rfl rfl) ?_
  refine Gx.val rfl rfl rfl (Val.cast (val_fieldAddr rfl Try.underlying42 rfl Try.ty22 rfl rfl) (v' := ptr S 2) rfl) ?_
  refine Gx.val rfl rfl rfl (val_load rfl Try.ty22 rfl rfl (cell_old hb hc)) ?_
  refine Gx.val rfl rfl rfl (val_move rfl rfl) ?_
  refine Gx.val rfl rfl rfl (val_shr (b := i) rfl rfl rfl rfl (by show i ≤ 32; omega) (shr32 _ _)) ?_
  refine Gx.val rfl rfl rfl (val_and rfl rfl rfl (and32 (sh_lt i hL) (by decide : 1 < 4294967296))) ?_
  refine Gx.val rfl rfl rfl (val_eql rfl rfl rfl) ?_
  refine Gx.val rfl rfl rfl (val_assign rfl rfl) ?_
  refine Gx.done ?_
  refine Gx.thenN ?_
  refine Gx.ret ?_
  refine Gx.ret1 Try.results16 rfl ?_
  exact congrArg Value.bool (by unfold liesB; cases e : c.L.testBit i with | true => exact decide_eq_true (congrArg Nat.cast ((bit_one c.L i).2 e)) | false => exact decide_eq_false fun h => by rw [(bit_one c.L i).1 (Int.ofNat.inj h)] at e; cases e)

theorem many_any {W w : World} {what j : Nat} {x : Int} {m : Pm} {pms : List Pm} {pv : Value} {R : Hp} (hm : pms[j]? = some m) (hl : m.p.hl.length ≤ 100000) (H : Sat W w (Hp.own FR 5 pv pms * (mapB m.mb m.p.hl * R))) :
    Calls Try.prog 21 #[ptr (sB pv) (sO pv + j * 5), .int .i64 ((what : Nat) : Int), .int .i64 x] w (Ret W fun v l => v = .int .i64 ((manyB m.p.hl what x : Nat) : Int) ∧ sep l = Hp.own FR 5 pv pms * (mapB m.mb m.p.hl * R)) := by
  refine Gx.enter (l := [Hp.own FR 5 pv pms, Hp.map Try.prog 60 pairL vI m.mb m.p.hl, R]) Try.func21 rfl Try.ntmps21 rfl (H.frame2) ?_
  refine Gx.know (m' := [(0, ptr (sB pv) (sO pv + j * 5)), (1, .int .i64 ((what : Nat) : Int)), (2, .int .i64 x)]) (.cons rfl (.cons rfl (.cons rfl .nil))) ?_
  refine Gx.seq ?_
  refine Gx.region ?_
  refine Gx.val rfl rfl rfl (val_assign rfl rfl) ?_
  refine Gx.done ?_
  refine Gx.thenN ?_
  refine Gx.seq ?_
  refine Gx.region ?_
  refine Gx.val rfl rfl rfl (val_assign rfl rfl) ?_
  refine Gx.done ?_
  refine Gx.thenN ?_
  refine Gx.seq ?_
  refine Gx.seq ?_
  refine Gx.region ?_
  refine Gx.val rfl rfl rfl (val_move rfl rfl) ?_
  refine Gx.val rfl rfl rfl (val_nilCheck rfl rfl) ?_
  refine Gx.val rfl rfl rfl (Val.cast (val_fieldAddr rfl Try.underlying45 rfl Try.ty43 rfl rfl) (v' := ptr (sB pv) (sO pv + j * 5)) rfl) ?_
  refine Gx.val rfl rfl rfl (val_load rfl Try.ty43 rfl rfl (cell_own (i := 0) (k := 0) rfl hm rfl)) ?_
  refine Gx.eff rfl rfl rfl (eff_range rfl Try.underlying43 rfl (k := 1) rfl) ?_
  rintro _ _ ⟨r1, rfl, rfl⟩
  refine Gx.norm (l' := [Hp.own FR 5 pv pms, Hp.iter Try.prog 60 pairL vI m.mb r1 m.p.hl m.p.hl, R]) rfl ?_
  refine Gx.done ?_
  refine Gx.thenN ?_
  refine Gx.block ?_
  refine Gx.loop (ι := Hl × Nat) (fun ξ => (ξ.2 + manyB ξ.1 what x = manyB m.p.hl what x) ∧ (ξ.1.length + ξ.2 ≤ m.p.hl.length)) (fun ξ => [(1, .int .i64 ((what : Nat) : Int)), (2, .int .i64 x), (14, ptr r1 0), (7, .int .i64 ((ξ.2 : Nat) : Int))]) (fun ξ => [Hp.own FR 5 pv pms, Hp.iter Try.prog 60 pairL vI m.mb r1 m.p.hl ξ.1, R]) (fun ξ => ξ.1.length) (m.p.hl, 0) ⟨Nat.zero_add _, Nat.le_refl _⟩ ((.cons rfl (.cons rfl (.cons rfl (.cons rfl .nil))))) rfl ?_
  rintro ⟨left, acc⟩ ⟨ha, hl⟩
  dsimp only at ha hl
  refine Gx.know (m' := [(1, .int .i64 ((what : Nat) : Int)), (2, .int .i64 x), (14, ptr r1 0), (7, .int .i64 ((acc : Nat) : Int))]) (.cons rfl (.cons rfl (.cons rfl (.cons rfl .nil)))) (Gx.norm (l' := [Hp.own FR 5 pv pms, Hp.iter Try.prog 60 pairL vI m.mb r1 m.p.hl left, R]) rfl ?_)
  refine Gx.seq ?_
  refine Gx.region ?_
  refine Gx.eff rfl rfl rfl (eff_next (kf := pairV) rfl Try.kP (fun _ _ => trivial) rfl (k := 1) rfl) ?_
  rintro _ _ (⟨hl2, rfl, rfl⟩ | ⟨ka3, xv4, rs5, hp6, rfl, rfl⟩)
  · refine Gx.norm (l' := [Hp.own FR 5 pv pms, Hp.map Try.prog 60 pairL vI m.mb m.p.hl, R]) rfl ?_
    refine Gx.val rfl rfl rfl (val_extract rfl rfl rfl) ?_
    refine Gx.done ?_
    refine Gx.thenN ?_
    refine Gx.seq ?_
    refine Gx.f rfl ?_
    refine Gx.exit ?_
    refine Gx.thenE ?_
    refine Gx.thenE ?_
    refine Gx.blkE ?_
    refine Gx.thenN ?_
    refine Gx.seq ?_
    refine Gx.region ?_
    refine Gx.val rfl rfl rfl (val_move rfl rfl) ?_
    refine Gx.val rfl rfl rfl (val_assign rfl rfl) ?_
    refine Gx.done ?_
    refine Gx.thenN ?_
    refine Gx.ret ?_
    refine Gx.front 1 rfl ?_
    refine Gx.front 1 rfl ?_
    have ha9 : acc = manyB m.p.hl what x := by rw [hl2] at ha; exact ha
    refine Gx.ret1 Try.results21 rfl ?_
    exact ⟨by rw [ha9], sep2 _ _ _⟩
  · refine Gx.norm (l' := [Hp.own FR 5 pv pms, Hp.iterE Try.prog 60 pairL vI pairV m.mb r1 m.p.hl rs5 ka3 xv4, R]) rfl ?_
    refine Gx.val rfl rfl rfl (val_extract rfl rfl rfl) ?_
    refine Gx.done ?_
    refine Gx.thenN ?_
    refine Gx.seq ?_
    refine Gx.t rfl ?_
    refine Gx.skip ?_
    refine Gx.thenN ?_
    refine Gx.block ?_
    refine Gx.seq ?_
    refine Gx.region ?_
    refine Gx.eff rfl rfl rfl (eff_entry rfl rfl (k := 1) rfl) ?_
    rintro _ _ ⟨rfl, rfl⟩
    refine Gx.norm (l' := [Hp.own FR 5 pv pms, Hp.iter Try.prog 60 pairL vI m.mb r1 m.p.hl rs5, R]) rfl ?_
    refine Gx.val rfl rfl rfl (val_extract rfl rfl rfl) ?_
    refine Gx.val rfl rfl rfl (val_extract rfl rfl rfl) ?_
    refine Gx.eff rfl rfl rfl (eff_alloc rfl Try.ty60 (vs := [.int .i64 0, .int .i64 0]) rfl) ?_
    rintro _ _ ⟨b7, rfl, rfl⟩
    refine Gx.eff0 rfl rfl (eff_store rfl Try.ty60 rfl rfl (us := [.int .i64 ((ka3.1.val : Nat) : Int), .int .i64 ((ka3.2.val : Nat) : Int)]) rfl rfl rfl (k := 0) rfl (rfl) (vs' := [.int .i64 ((ka3.1.val : Nat) : Int), .int .i64 ((ka3.2.val : Nat) : Int)]) (rfl) (l' := [Hp.rec_ b7 [.int .i64 ((ka3.1.val : Nat) : Int), .int .i64 ((ka3.2.val : Nat) : Int)], Hp.own FR 5 pv pms, Hp.iter Try.prog 60 pairL vI m.mb r1 m.p.hl rs5, R]) rfl) ?_
    rintro _ _ rfl
    refine Gx.val rfl rfl rfl (val_assign rfl rfl) ?_
    refine Gx.done ?_
    refine Gx.thenN ?_
    refine Gx.seq ?_
    have e9 := hp6.length_eq
    simp only [List.length_cons] at e9
    refine Gx.region ?_
    refine Gx.val rfl rfl rfl (Val.cast (val_fieldAddr rfl Try.underlying60 rfl Try.ty3 rfl rfl) (v' := ptr b7 1) rfl) ?_
    refine Gx.val rfl rfl rfl (val_load rfl Try.ty3 rfl rfl (cell_rec (k := 0) rfl rfl)) ?_
    refine Gx.val rfl rfl rfl (val_move rfl rfl) ?_
    refine Gx.val rfl rfl rfl (val_eql rfl rfl rfl) ?_
    refine Gx.val rfl rfl rfl (val_move rfl rfl) ?_
    refine Gx.cases (t := 24) rfl (fun h8 => ?_) (fun h8 => ?_)
    · refine Gx.valg rfl rfl rfl rfl rfl (val_move rfl rfl) ?_
      refine Gx.valg rfl rfl rfl rfl rfl (val_move rfl rfl) ?_
      refine Gx.valg rfl rfl rfl rfl rfl (val_eql rfl rfl rfl) ?_
      refine Gx.val rfl rfl rfl (val_pickT rfl rfl rfl) ?_
      refine Gx.done ?_
      refine Gx.thenN ?_
      refine Gx.dec rfl (fun h9 => ?_) (fun h9 => ?_)
      · refine Gx.region ?_
        refine Gx.val rfl rfl rfl (val_move rfl rfl) ?_
        refine Gx.val rfl rfl rfl (val_add rfl rfl rfl (r := ((acc + 1 : Nat) : Int)) (w64 (by omega) (by omega))) ?_
        refine Gx.val rfl rfl rfl (val_assign rfl rfl) ?_
        refine Gx.done ?_
        refine Gx.blkN ?_
        refine Gx.thenN ?_
        refine Gx.drop 0 rfl ?_
        exact Gx.round (rs5, acc + 1) ⟨by have e8 := many_pos (what := what) (x := x) hp6 ⟨by first | omega | (dsimp only; omega), by assumption⟩; dsimp only; omega, by have e9 := hp6.length_eq; simp only [List.length_cons] at e9; dsimp only; omega⟩ (by have e9 := hp6.length_eq; simp only [List.length_cons] at e9; dsimp only at e9 ⊢; omega) ((.cons rfl (.cons rfl (.cons rfl (.cons rfl .nil))))) rfl
      · refine Gx.skip ?_
        refine Gx.blkN ?_
        refine Gx.thenN ?_
        refine Gx.drop 0 rfl ?_
        exact Gx.round (rs5, acc) ⟨by have e8 := many_neg (what := what) (x := x) hp6 (by rintro ⟨q1, q2⟩; dsimp only at q1 q2; first | omega | exact absurd q2 (by assumption)); dsimp only; omega, by have e9 := hp6.length_eq; simp only [List.length_cons] at e9; dsimp only; omega⟩ (by have e9 := hp6.length_eq; simp only [List.length_cons] at e9; dsimp only at e9 ⊢; omega) ((.cons rfl (.cons rfl (.cons rfl (.cons rfl .nil))))) rfl
    · refine Gx.skipg rfl rfl rfl rfl rfl rfl ?_
      refine Gx.skipg rfl rfl rfl rfl rfl rfl ?_
      refine Gx.skipg rfl rfl rfl rfl rfl rfl ?_
      refine Gx.val rfl rfl rfl (val_pickF rfl rfl rfl) ?_
      refine Gx.done ?_
      refine Gx.thenN ?_
      refine Gx.f rfl ?_
      refine Gx.skip ?_
      refine Gx.blkN ?_
      refine Gx.thenN ?_
      refine Gx.drop 0 rfl ?_
      exact Gx.round (rs5, acc) ⟨by have e8 := many_neg (what := what) (x := x) hp6 (by rintro ⟨q1, q2⟩; dsimp only at q1 q2; first | omega | exact absurd q2 (by assumption)); dsimp only; omega, by have e9 := hp6.length_eq; simp only [List.length_cons] at e9; dsimp only; omega⟩ (by have e9 := hp6.length_eq; simp only [List.length_cons] at e9; dsimp only at e9 ⊢; omega) ((.cons rfl (.cons rfl (.cons rfl (.cons rfl .nil))))) rfl

theorem newM_succ (i what : Nat) (x : Int) (k : Nat) : newM i what x (k + 1) = newM i what x k ++ [⟨i, k, what, x, false⟩] := by unfold newM; rw [List.range_succ, List.map_append]; rfl
theorem send_any {W w : World} {S i what : Nat} {x : Int} {c : Cf} {s : BS} {pms : List Pm} {av pv : Value} {R : Hp} (hav : IsS av) (ha : s.all.length ≤ 100000) (hp : pms.length ≤ 7) (H : Sat W w (recS S c av pv s.st * (Hp.own FG 5 av s.all * (Hp.own FR 5 pv pms * R)))) :
    Calls Try.prog 17 #[ptr S 0, .int .i64 ((i : Nat) : Int), .int .i64 ((what : Nat) : Int), .int .i64 x] w (Ret W fun v l => ∃ bv : Value, IsS bv ∧ v = .tuple #[] ∧ sep l = recS S c bv pv s.st * (Hp.own FG 5 bv (s.all ++ newM i what x pms.length) * (Hp.own FR 5 pv pms * R))) := by
  refine Gx.enter (l := [Hp.rec_ S [.int .i64 ((c.n : Nat) : Int), .int .i64 ((c.f : Nat) : Int), .int .u32 ((c.L : Nat) : Int), .int .i64 ((c.snd : Nat) : Int), av, pv, .bool s.st], Hp.own FG 5 av s.all, Hp.own FR 5 pv pms, R]) Try.func17 rfl Try.ntmps17 rfl ((H.cast (sep3 _ _ _ _).symm)) ?_
  refine Gx.know (m' := [(0, ptr S 0), (1, .int .i64 ((i : Nat) : Int)), (2, .int .i64 ((what : Nat) : Int)), (3, .int .i64 x)]) (.cons rfl (.cons rfl (.cons rfl (.cons rfl .nil)))) ?_
  refine Gx.seq ?_
  refine Gx.region ?_
  refine Gx.val rfl rfl rfl (val_move rfl rfl) ?_
  refine Gx.val rfl rfl rfl (val_nilCheck rfl rfl) ?_
  refine Gx.val rfl rfl rfl (Val.cast (val_fieldAddr rfl Try.underlying42 rfl Try.ty40 rfl rfl) (v' := ptr S 5) rfl) ?_
  refine Gx.val rfl rfl rfl (val_load rfl Try.ty40 rfl rfl (cell_rec (k := 0) rfl rfl)) ?_
  refine Gx.val rfl rfl rfl (val_len rfl Try.underlying40 rfl (len_own (k := 2) rfl)) ?_
  refine Gx.val rfl rfl rfl (val_move rfl rfl) ?_
  refine Gx.done ?_
  refine Gx.thenN ?_
  refine Gx.block ?_
  refine Gx.norm (l' := [Hp.rec_ S [.int .i64 ((c.n : Nat) : Int), .int .i64 ((c.f : Nat) : Int), .int .u32 ((c.L : Nat) : Int), .int .i64 ((c.snd : Nat) : Int), av, pv, .bool s.st], Hp.own FG 5 av (s.all ++ newM i what x 0), Hp.own FR 5 pv pms, R]) (by rw [show newM i what x 0 = [] from rfl, List.append_nil] <;> rfl) ?_
  refine Gx.front 3 rfl ?_
  refine Gx.front 3 rfl ?_
  refine Gx.front 2 rfl ?_
  refine Gx.front 3 rfl ?_
  refine Gx.loop (ι := Nat × Value) (fun ξ => (ξ.1 ≤ pms.length) ∧ (IsS ξ.2)) (fun ξ => [(0, ptr S 0), (1, .int .i64 ((i : Nat) : Int)), (2, .int .i64 ((what : Nat) : Int)), (3, .int .i64 x), (12, pv), (13, .int .i64 ((pms.length : Nat) : Int)), (14, .int .i64 ((ξ.1 : Nat) : Int))]) (fun ξ => [Hp.own FG 5 ξ.2 (s.all ++ newM i what x ξ.1), Hp.rec_ S [.int .i64 ((c.n : Nat) : Int), .int .i64 ((c.f : Nat) : Int), .int .u32 ((c.L : Nat) : Int), .int .i64 ((c.snd : Nat) : Int), ξ.2, pv, .bool s.st], Hp.own FR 5 pv pms, R]) (fun ξ => pms.length - ξ.1) (0, av) ⟨by first | omega | (dsimp only; omega), hav⟩ ((.cons rfl (.cons rfl (.cons rfl (.cons rfl (.cons rfl (.cons rfl (.cons rfl .nil)))))))) rfl ?_
  rintro ⟨j, bv⟩ ⟨hj, hia⟩
  dsimp only at hj hia
  refine Gx.know (m' := [(0, ptr S 0), (1, .int .i64 ((i : Nat) : Int)), (2, .int .i64 ((what : Nat) : Int)), (3, .int .i64 x), (12, pv), (13, .int .i64 ((pms.length : Nat) : Int)), (14, .int .i64 ((j : Nat) : Int))]) (.cons rfl (.cons rfl (.cons rfl (.cons rfl (.cons rfl (.cons rfl (.cons rfl .nil))))))) (Gx.norm (l' := [Hp.own FG 5 bv (s.all ++ newM i what x j), Hp.rec_ S [.int .i64 ((c.n : Nat) : Int), .int .i64 ((c.f : Nat) : Int), .int .u32 ((c.L : Nat) : Int), .int .i64 ((c.snd : Nat) : Int), bv, pv, .bool s.st], Hp.own FR 5 pv pms, R]) rfl ?_)
  have hxl : (s.all ++ newM i what x j).length ≤ 100007 := by simp [newM]; omega
  refine Gx.seq ?_
  refine Gx.region ?_
  refine Gx.val rfl rfl rfl (val_lss rfl rfl rfl) ?_
  refine Gx.done ?_
  refine Gx.thenN ?_
  refine Gx.seq ?_
  refine Gx.dec rfl (fun h1 => ?_) (fun h1 => ?_)
  · refine Gx.skip ?_
    refine Gx.thenN ?_
    refine Gx.seq ?_
    refine Gx.block ?_
    refine Gx.seq ?_
    refine Gx.region ?_
    refine Gx.val rfl rfl rfl (val_move rfl rfl) ?_
    refine Gx.val rfl rfl rfl (val_assign rfl rfl) ?_
    refine Gx.done ?_
    refine Gx.thenN ?_
    refine Gx.region ?_
    refine Gx.val rfl rfl rfl (val_move rfl rfl) ?_
    refine Gx.val rfl rfl rfl (val_move rfl rfl) ?_
    refine Gx.val rfl rfl rfl (val_nilCheck rfl rfl) ?_
    refine Gx.val rfl rfl rfl (Val.cast (val_fieldAddr rfl Try.underlying42 rfl Try.ty39 rfl rfl) (v' := ptr S 4) rfl) ?_
    refine Gx.val rfl rfl rfl (val_load rfl Try.ty39 rfl rfl (cell_rec (k := 1) rfl rfl)) ?_
    refine Gx.val rfl rfl rfl (val_move rfl rfl) ?_
    refine Gx.val rfl rfl rfl (val_move rfl rfl) ?_
    refine Gx.val rfl rfl rfl (val_move rfl rfl) ?_
    refine Gx.val rfl rfl rfl (val_move rfl rfl) ?_
    refine Gx.val rfl rfl rfl (val_build rfl (qs := [(0, .int .i64 ((i : Nat) : Int)), (1, .int .i64 ((j : Nat) : Int)), (2, .int .i64 ((what : Nat) : Int)), (3, .int .i64 x)]) rfl rfl (fun w => by go_simp) (v := .agg #[.int .i64 ((i : Nat) : Int), .int .i64 ((j : Nat) : Int), .int .i64 ((what : Nat) : Int), .int .i64 x, .bool false])) ?_
    refine Gx.eff rfl rfl rfl (eff_buildSlice rfl (qs := [(0, .agg #[.int .i64 ((i : Nat) : Int), .int .i64 ((j : Nat) : Int), .int .i64 ((what : Nat) : Int), .int .i64 x, .bool false])]) rfl rfl (cs := #[.int .i64 ((i : Nat) : Int), .int .i64 ((j : Nat) : Int), .int .i64 ((what : Nat) : Int), .int .i64 x, .bool false]) (vs := [.int .i64 ((i : Nat) : Int), .int .i64 ((j : Nat) : Int), .int .i64 ((what : Nat) : Int), .int .i64 x, .bool false]) (E := 48) rfl (fun w => by first | (go_simp; done) | (go_simp; rfl))) ?_
    rintro _ _ ⟨b2, rfl, rfl⟩
    refine Gx.eff rfl rfl rfl (eff_push (r := (⟨i, j, what, x, false⟩ : Mg)) rfl Try.eG FG_len FG_one rfl rfl (k := 0) rfl rfl (k' := 0) rfl (by omega) (by omega)) ?_
    rintro v3 _ ⟨hiv3, rfl⟩
    refine Gx.norm (l' := [Hp.own FG 5 v3 ((s.all ++ newM i what x j) ++ [(⟨i, j, what, x, false⟩ : Mg)]), Hp.rec_ S [.int .i64 ((c.n : Nat) : Int), .int .i64 ((c.f : Nat) : Int), .int .u32 ((c.L : Nat) : Int), .int .i64 ((c.snd : Nat) : Int), bv, pv, .bool s.st], Hp.own FR 5 pv pms, R]) rfl ?_
    refine Gx.val rfl rfl rfl (val_nilCheck rfl rfl) ?_
    refine Gx.val rfl rfl rfl (Val.cast (val_fieldAddr rfl Try.underlying42 rfl Try.ty39 rfl rfl) (v' := ptr S 4) rfl) ?_
    refine Gx.eff0 rfl rfl (eff_store rfl Try.ty39 rfl rfl (us := [v3]) hiv3.cellsL rfl hiv3.all (k := 1) rfl (rfl) (vs' := [.int .i64 ((c.n : Nat) : Int), .int .i64 ((c.f : Nat) : Int), .int .u32 ((c.L : Nat) : Int), .int .i64 ((c.snd : Nat) : Int), v3, pv, .bool s.st]) (rfl) (l' := [Hp.own FG 5 v3 ((s.all ++ newM i what x j) ++ [(⟨i, j, what, x, false⟩ : Mg)]), Hp.rec_ S [.int .i64 ((c.n : Nat) : Int), .int .i64 ((c.f : Nat) : Int), .int .u32 ((c.L : Nat) : Int), .int .i64 ((c.snd : Nat) : Int), v3, pv, .bool s.st], Hp.own FR 5 pv pms, R]) rfl) ?_
    rintro _ _ rfl
    refine Gx.done ?_
    refine Gx.blkN ?_
    refine Gx.thenN ?_
    refine Gx.region ?_
    refine Gx.val rfl rfl rfl (val_add rfl rfl rfl (r := ((j + 1 : Nat) : Int)) (w64 (by omega) (by omega))) ?_
    refine Gx.val rfl rfl rfl (val_move rfl rfl) ?_
    refine Gx.done ?_
    refine Gx.thenN ?_
    refine Gx.norm (l' := [Hp.own FG 5 v3 (s.all ++ newM i what x (j + 1)), Hp.rec_ S [.int .i64 ((c.n : Nat) : Int), .int .i64 ((c.f : Nat) : Int), .int .u32 ((c.L : Nat) : Int), .int .i64 ((c.snd : Nat) : Int), v3, pv, .bool s.st], Hp.own FR 5 pv pms, R]) (by rw [newM_succ, ← List.append_assoc] <;> rfl) ?_
    exact Gx.round (j + 1, v3) ⟨by first | omega | (dsimp only; omega), hiv3⟩ (by first | omega | (dsimp only; omega)) ((.cons rfl (.cons rfl (.cons rfl (.cons rfl (.cons rfl (.cons rfl (.cons rfl .nil)))))))) rfl
  · refine Gx.exit ?_
    refine Gx.thenE ?_
    refine Gx.thenE ?_
    refine Gx.blkE ?_
    refine Gx.endN ?_
    obtain rfl : j = pms.length := by omega
    refine Gx.front 3 rfl ?_
    refine Gx.front 3 rfl ?_
    refine Gx.front 2 rfl ?_
    refine Gx.front 3 rfl ?_
    refine Gx.ret0 Try.results17 ?_
    exact ⟨bv, hia, rfl, sep3 _ _ _ _⟩

end Go.Proofs.Ytbfcfekpfgpfbaa
