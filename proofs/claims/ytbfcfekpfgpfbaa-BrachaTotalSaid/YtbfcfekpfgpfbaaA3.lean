/- A step of the machine. The walks. No condition. -/
import Derived.Test.YtbfcfekpfgpfbaaD2
namespace Go.Proofs.Ytbfcfekpfgpfbaa
open Go.RowKit
set_option linter.unusedVariables false
set_option linter.unusedSimpArgs false
set_option maxRecDepth 100000

theorem allB_end {c : Cf} {z : BS} {a : Nat} (h : z.all.length ≤ a) : ∀ k, allB c k z a = z
  | 0 => rfl
  | k + 1 => by unfold allB; rw [List.getElem?_eq_none h]
theorem allB_next {c : Cf} {z : BS} {a : Nat} {m : Mg} (h : z.all[a]? = some m) (ha : a < 2000) : allB c (2000 - a) z a = allB c (2000 - (a + 1)) (if m.come = true then z else comeB c z a) (a + 1) := by
  obtain ⟨k, hk⟩ : ∃ k, 2000 - a = k + 1 := ⟨2000 - a - 1, by omega⟩
  rw [hk, show 2000 - (a + 1) = k from by omega]
  show (match z.all[a]? with | none => z | some m => allB c k (if m.come = true then z else comeB c z a) (a + 1)) = _
  rw [h]
theorem forge_any {W w : World} {S T : Nat} {c : Cf} {s : BS} {frm to what msg xn : Int} {R : Hp} (bd : BdB T c s) (hT : T ≤ 1000) (hn7 : c.n ≤ 7) (hf7 : c.f ≤ 7) (hL : c.L < 4294967296) (hsn : c.snd < c.n) (H : Sat W w (worldH S c s * R)) :
    Calls Try.prog 18 #[ptr S 0, .agg #[.int .i64 2, .int .i64 frm, .int .i64 to, .int .i64 what, .int .i64 msg, .int .i64 xn]] w (Ret W fun v l => v = .int .i64 (stepB c s ⟨2, frm, to, what, msg, xn⟩).1 ∧ sep l = worldH S c (stepB c s ⟨2, frm, to, what, msg, xn⟩).2 * R) := by
  obtain ⟨av, pv, pms, hmap, H⟩ := worldH.open_ H
  have hpl : pms.length = s.ps.length := by rw [← hmap, List.length_map]
  have hal := bd.all_le
  have hln := bd.len
  refine Gx.enter (l := [Hp.rec_ S [.int .i64 ((c.n : Nat) : Int), .int .i64 ((c.f : Nat) : Int), .int .u32 ((c.L : Nat) : Int), .int .i64 ((c.snd : Nat) : Int), av, pv, .bool s.st], Hp.own FG 5 av s.all, Hp.own FR 5 pv pms, Hp.big rowH pms, R]) Try.func18 rfl Try.ntmps18 rfl (H) ?_
  refine Gx.know (m' := [(0, ptr S 0), (1, .agg #[.int .i64 2, .int .i64 frm, .int .i64 to, .int .i64 what, .int .i64 msg, .int .i64 xn])]) (.cons rfl (.cons rfl .nil)) ?_
  refine Gx.seq ?_
  refine Gx.region ?_
  refine Gx.eff rfl rfl rfl (eff_box rfl rfl (vs := [.int .i64 2, .int .i64 frm, .int .i64 to, .int .i64 what, .int .i64 msg, .int .i64 xn]) rfl) ?_
  rintro _ _ ⟨b1, rfl, rfl⟩
  refine Gx.val rfl rfl rfl (val_assign rfl rfl) ?_
  refine Gx.done ?_
  refine Gx.thenN ?_
  refine Gx.seq ?_
  refine Gx.block ?_
  refine Gx.seq ?_
  refine Gx.regionQ Try.mixed (by kernel_rfl) ?_
  refine Gq.val rfl rfl rfl (Val.cast (val_fieldAddr rfl Try.underlying34 rfl Try.ty3 rfl rfl) (v' := ptr b1 1) rfl) ?_
  refine Gq.val rfl rfl rfl (val_load rfl Try.ty3 rfl rfl (cell_rec (k := 0) rfl rfl)) ?_
  refine Gq.val rfl rfl rfl (val_lss rfl rfl rfl) ?_
  refine Gq.val rfl rfl rfl (val_move rfl rfl) ?_
  refine Gq.cases (t := 9) rfl (fun h2 => ?_) (fun h2 => ?_)
  · refine Gq.skipg rfl rfl rfl rfl rfl rfl ?_
    refine Gq.skipg rfl rfl rfl rfl rfl rfl ?_
    refine Gq.skipg rfl rfl rfl rfl rfl rfl ?_
    refine Gq.skipg rfl rfl rfl rfl rfl rfl ?_
    refine Gq.skipg rfl rfl rfl rfl rfl rfl ?_
    refine Gq.skipg rfl rfl rfl rfl rfl rfl ?_
    refine Gq.skipg rfl rfl rfl rfl rfl rfl ?_
    refine Gq.val rfl rfl rfl (val_pickT rfl rfl rfl) ?_
    refine Gq.val rfl rfl rfl (val_move rfl rfl) ?_
    refine Gq.skipg rfl rfl rfl rfl rfl rfl ?_
    refine Gq.skipg rfl rfl rfl rfl rfl rfl ?_
    refine Gq.skipg rfl rfl rfl rfl rfl rfl ?_
    refine Gq.skipg rfl rfl rfl rfl rfl rfl ?_
    refine Gq.skipg rfl rfl rfl rfl rfl rfl ?_
    refine Gq.val rfl rfl rfl (val_pickT rfl rfl rfl) ?_
    refine Gq.val rfl rfl rfl (val_move rfl rfl) ?_
    refine Gq.skipg rfl rfl rfl rfl rfl rfl ?_
    refine Gq.skipg rfl rfl rfl rfl rfl rfl ?_
    refine Gq.skipg rfl rfl rfl rfl rfl rfl ?_
    refine Gq.val rfl rfl rfl (val_pickT rfl rfl rfl) ?_
    refine Gq.val rfl rfl rfl (val_move rfl rfl) ?_
    refine Gq.skipg rfl rfl rfl rfl rfl rfl ?_
    refine Gq.skipg rfl rfl rfl rfl rfl rfl ?_
    refine Gq.skipg rfl rfl rfl rfl rfl rfl ?_
    refine Gq.skipg rfl rfl rfl rfl rfl rfl ?_
    refine Gq.skipg rfl rfl rfl rfl rfl rfl ?_
    refine Gq.skipg rfl rfl rfl rfl rfl rfl ?_
    refine Gq.skipg rfl rfl rfl rfl rfl rfl ?_
    refine Gq.val rfl rfl rfl (val_pickT rfl rfl rfl) ?_
    refine Gq.val rfl rfl rfl (val_assign rfl rfl) ?_
    refine Gq.done ?_
    refine Gx.thenN ?_
    refine Gx.t rfl ?_
    refine Gx.seq ?_
    refine Gx.region ?_
    refine Gx.val rfl rfl rfl (val_assign rfl rfl) ?_
    refine Gx.done ?_
    refine Gx.thenN ?_
    refine Gx.ret ?_
    refine Gx.blkR ?_
    refine Gx.thenR ?_
    refine Gx.front 4 rfl ?_
    refine Gx.front 4 rfl ?_
    refine Gx.front 4 rfl ?_
    refine Gx.front 4 rfl ?_
    refine Gx.sat (l' := [worldH S c s, Hp.rec_ b1 [.int .i64 2, .int .i64 frm, .int .i64 to, .int .i64 what, .int .i64 msg, .int .i64 xn], R]) (fun w H => (worldH.shut (S := S) (c := c) (s := s) (pms := pms) (R := sep [Hp.rec_ b1 [.int .i64 2, .int .i64 frm, .int .i64 to, .int .i64 what, .int .i64 msg, .int .i64 xn], R]) (hmap) (H.cast (by rw [sep4R] <;> rfl))).cast (by rw [sep1] <;> rfl)) ?_
    refine Gx.drop 1 rfl ?_
    refine Gx.norm (l' := [worldH S c s, R]) rfl ?_
    refine Gx.ret1 Try.results18 rfl ?_
    refine ⟨?_, ?_⟩
    · unfold stepB; rw [if_neg (by dsimp only; omega), if_pos rfl]; rw [if_pos (.inl (by unfold isN; exact decide_eq_false (by dsimp only; omega)))]
    · refine (sep1 _ _).trans ?_; unfold stepB; rw [if_neg (by dsimp only; omega), if_pos rfl]; rw [if_pos (.inl (by unfold isN; exact decide_eq_false (by dsimp only; omega)))]
  · refine Gq.valg rfl rfl rfl rfl rfl (Val.cast (val_fieldAddr rfl Try.underlying34 rfl Try.ty3 rfl rfl) (v' := ptr b1 1) rfl) ?_
    refine Gq.valg rfl rfl rfl rfl rfl (val_load rfl Try.ty3 rfl rfl (cell_rec (k := 0) rfl rfl)) ?_
    refine Gq.valg rfl rfl rfl rfl rfl (val_move rfl rfl) ?_
    refine Gq.valg rfl rfl rfl rfl rfl (val_nilCheck rfl rfl) ?_
    refine Gq.valg rfl rfl rfl rfl rfl (Val.cast (val_fieldAddr rfl Try.underlying42 rfl Try.ty3 rfl rfl) (v' := ptr S 0) rfl) ?_
    refine Gq.valg rfl rfl rfl rfl rfl (val_load rfl Try.ty3 rfl rfl (cell_rec (k := 1) rfl rfl)) ?_
    refine Gq.valg rfl rfl rfl rfl rfl (val_geq rfl rfl rfl) ?_
    refine Gq.val rfl rfl rfl (val_pickF rfl rfl rfl) ?_
    refine Gq.val rfl rfl rfl (val_move rfl rfl) ?_
    refine Gq.cases (t := 18) rfl (fun h3 => ?_) (fun h3 => ?_)
    · refine Gq.skipg rfl rfl rfl rfl rfl rfl ?_
      refine Gq.skipg rfl rfl rfl rfl rfl rfl ?_
      refine Gq.skipg rfl rfl rfl rfl rfl rfl ?_
      refine Gq.skipg rfl rfl rfl rfl rfl rfl ?_
      refine Gq.skipg rfl rfl rfl rfl rfl rfl ?_
      refine Gq.val rfl rfl rfl (val_pickT rfl rfl rfl) ?_
      refine Gq.val rfl rfl rfl (val_move rfl rfl) ?_
      refine Gq.skipg rfl rfl rfl rfl rfl rfl ?_
      refine Gq.skipg rfl rfl rfl rfl rfl rfl ?_
      refine Gq.skipg rfl rfl rfl rfl rfl rfl ?_
      refine Gq.val rfl rfl rfl (val_pickT rfl rfl rfl) ?_
      refine Gq.val rfl rfl rfl (val_move rfl rfl) ?_
      refine Gq.skipg rfl rfl rfl rfl rfl rfl ?_
      refine Gq.skipg rfl rfl rfl rfl rfl rfl ?_
      refine Gq.skipg rfl rfl rfl rfl rfl rfl ?_
      refine Gq.skipg rfl rfl rfl rfl rfl rfl ?_
      refine Gq.skipg rfl rfl rfl rfl rfl rfl ?_
      refine Gq.skipg rfl rfl rfl rfl rfl rfl ?_
      refine Gq.skipg rfl rfl rfl rfl rfl rfl ?_
      refine Gq.val rfl rfl rfl (val_pickT rfl rfl rfl) ?_
      refine Gq.val rfl rfl rfl (val_assign rfl rfl) ?_
      refine Gq.done ?_
      refine Gx.thenN ?_
      refine Gx.t rfl ?_
      refine Gx.seq ?_
      refine Gx.region ?_
      refine Gx.val rfl rfl rfl (val_assign rfl rfl) ?_
      refine Gx.done ?_
      refine Gx.thenN ?_
      refine Gx.ret ?_
      refine Gx.blkR ?_
      refine Gx.thenR ?_
      refine Gx.front 4 rfl ?_
      refine Gx.front 4 rfl ?_
      refine Gx.front 4 rfl ?_
      refine Gx.front 4 rfl ?_
      refine Gx.sat (l' := [worldH S c s, Hp.rec_ b1 [.int .i64 2, .int .i64 frm, .int .i64 to, .int .i64 what, .int .i64 msg, .int .i64 xn], R]) (fun w H => (worldH.shut (S := S) (c := c) (s := s) (pms := pms) (R := sep [Hp.rec_ b1 [.int .i64 2, .int .i64 frm, .int .i64 to, .int .i64 what, .int .i64 msg, .int .i64 xn], R]) (hmap) (H.cast (by rw [sep4R] <;> rfl))).cast (by rw [sep1] <;> rfl)) ?_
      refine Gx.drop 1 rfl ?_
      refine Gx.norm (l' := [worldH S c s, R]) rfl ?_
      refine Gx.ret1 Try.results18 rfl ?_
      refine ⟨?_, ?_⟩
      · unfold stepB; rw [if_neg (by dsimp only; omega), if_pos rfl]; rw [if_pos (.inl (by unfold isN; exact decide_eq_false (by dsimp only; omega)))]
      · refine (sep1 _ _).trans ?_; unfold stepB; rw [if_neg (by dsimp only; omega), if_pos rfl]; rw [if_pos (.inl (by unfold isN; exact decide_eq_false (by dsimp only; omega)))]
    · obtain ⟨ff, rfl⟩ := Int.eq_ofNat_of_zero_le (a := frm) (by omega)
      refine Gq.valg rfl rfl rfl rfl rfl (val_move rfl rfl) ?_
      refine Gq.valg rfl rfl rfl rfl rfl (Val.cast (val_fieldAddr rfl Try.underlying34 rfl Try.ty3 rfl rfl) (v' := ptr b1 1) rfl) ?_
      refine Gq.valg rfl rfl rfl rfl rfl (val_load rfl Try.ty3 rfl rfl (cell_rec (k := 0) rfl rfl)) ?_
      refine Gq.valg rfl rfl rfl rfl rfl (val_call (vs := [ptr S 0, .int .i64 ((ff : Nat) : Int)]) rfl Try.fn16 rfl (fun w H => lies_any (i := ff) ((H.at_ (k := 1) rfl).rec_.1) ((H.at_ (k := 1) rfl).cell 2 rfl) hL (by omega))) ?_
      refine Gq.valg rfl rfl rfl rfl rfl (val_not rfl rfl) ?_
      refine Gq.val rfl rfl rfl (val_pickF rfl rfl rfl) ?_
      refine Gq.val rfl rfl rfl (val_move rfl rfl) ?_
      refine Gq.casesB (t := 25) rfl (fun h4 => ?_) (fun h4 => ?_)
      · refine Gq.skipg rfl rfl rfl rfl rfl rfl ?_
        refine Gq.skipg rfl rfl rfl rfl rfl rfl ?_
        refine Gq.skipg rfl rfl rfl rfl rfl rfl ?_
        refine Gq.val rfl rfl rfl (val_pickT rfl rfl rfl) ?_
        refine Gq.val rfl rfl rfl (val_move rfl rfl) ?_
        refine Gq.skipg rfl rfl rfl rfl rfl rfl ?_
        refine Gq.skipg rfl rfl rfl rfl rfl rfl ?_
        refine Gq.skipg rfl rfl rfl rfl rfl rfl ?_
        refine Gq.skipg rfl rfl rfl rfl rfl rfl ?_
        refine Gq.skipg rfl rfl rfl rfl rfl rfl ?_
        refine Gq.skipg rfl rfl rfl rfl rfl rfl ?_
        refine Gq.skipg rfl rfl rfl rfl rfl rfl ?_
        refine Gq.val rfl rfl rfl (val_pickT rfl rfl rfl) ?_
        refine Gq.val rfl rfl rfl (val_assign rfl rfl) ?_
        refine Gq.done ?_
        refine Gx.thenN ?_
        refine Gx.t rfl ?_
        refine Gx.seq ?_
        refine Gx.region ?_
        refine Gx.val rfl rfl rfl (val_assign rfl rfl) ?_
        refine Gx.done ?_
        refine Gx.thenN ?_
        refine Gx.ret ?_
        refine Gx.blkR ?_
        refine Gx.thenR ?_
        refine Gx.front 4 rfl ?_
        refine Gx.front 4 rfl ?_
        refine Gx.front 4 rfl ?_
        refine Gx.front 4 rfl ?_
        refine Gx.sat (l' := [worldH S c s, Hp.rec_ b1 [.int .i64 2, .int .i64 ((ff : Nat) : Int), .int .i64 to, .int .i64 what, .int .i64 msg, .int .i64 xn], R]) (fun w H => (worldH.shut (S := S) (c := c) (s := s) (pms := pms) (R := sep [Hp.rec_ b1 [.int .i64 2, .int .i64 ((ff : Nat) : Int), .int .i64 to, .int .i64 what, .int .i64 msg, .int .i64 xn], R]) (hmap) (H.cast (by rw [sep4R] <;> rfl))).cast (by rw [sep1] <;> rfl)) ?_
        refine Gx.drop 1 rfl ?_
        refine Gx.norm (l' := [worldH S c s, R]) rfl ?_
        refine Gx.ret1 Try.results18 rfl ?_
        refine ⟨?_, ?_⟩
        · unfold stepB; rw [if_neg (by dsimp only; omega), if_pos rfl]; rw [if_pos (.inr (.inl (by dsimp only [Int.toNat_natCast]; simpa using h4)))]
        · refine (sep1 _ _).trans ?_; unfold stepB; rw [if_neg (by dsimp only; omega), if_pos rfl]; rw [if_pos (.inr (.inl (by dsimp only [Int.toNat_natCast]; simpa using h4)))]
      · refine Gq.valg rfl rfl rfl rfl rfl (Val.cast (val_fieldAddr rfl Try.underlying34 rfl Try.ty3 rfl rfl) (v' := ptr b1 2) rfl) ?_
        refine Gq.valg rfl rfl rfl rfl rfl (val_load rfl Try.ty3 rfl rfl (cell_rec (k := 0) rfl rfl)) ?_
        refine Gq.valg rfl rfl rfl rfl rfl (val_lss rfl rfl rfl) ?_
        refine Gq.val rfl rfl rfl (val_pickF rfl rfl rfl) ?_
        refine Gq.val rfl rfl rfl (val_move rfl rfl) ?_
        refine Gq.cases (t := 30) rfl (fun h5 => ?_) (fun h5 => ?_)
        · refine Gq.skipg rfl rfl rfl rfl rfl rfl ?_
          refine Gq.skipg rfl rfl rfl rfl rfl rfl ?_
          refine Gq.skipg rfl rfl rfl rfl rfl rfl ?_
          refine Gq.skipg rfl rfl rfl rfl rfl rfl ?_
          refine Gq.skipg rfl rfl rfl rfl rfl rfl ?_
          refine Gq.skipg rfl rfl rfl rfl rfl rfl ?_
          refine Gq.skipg rfl rfl rfl rfl rfl rfl ?_
          refine Gq.val rfl rfl rfl (val_pickT rfl rfl rfl) ?_
          refine Gq.val rfl rfl rfl (val_assign rfl rfl) ?_
          refine Gq.done ?_
          refine Gx.thenN ?_
          refine Gx.t rfl ?_
          refine Gx.seq ?_
          refine Gx.region ?_
          refine Gx.val rfl rfl rfl (val_assign rfl rfl) ?_
          refine Gx.done ?_
          refine Gx.thenN ?_
          refine Gx.ret ?_
          refine Gx.blkR ?_
          refine Gx.thenR ?_
          refine Gx.front 4 rfl ?_
          refine Gx.front 4 rfl ?_
          refine Gx.front 4 rfl ?_
          refine Gx.front 4 rfl ?_
          refine Gx.sat (l' := [worldH S c s, Hp.rec_ b1 [.int .i64 2, .int .i64 ((ff : Nat) : Int), .int .i64 to, .int .i64 what, .int .i64 msg, .int .i64 xn], R]) (fun w H => (worldH.shut (S := S) (c := c) (s := s) (pms := pms) (R := sep [Hp.rec_ b1 [.int .i64 2, .int .i64 ((ff : Nat) : Int), .int .i64 to, .int .i64 what, .int .i64 msg, .int .i64 xn], R]) (hmap) (H.cast (by rw [sep4R] <;> rfl))).cast (by rw [sep1] <;> rfl)) ?_
          refine Gx.drop 1 rfl ?_
          refine Gx.norm (l' := [worldH S c s, R]) rfl ?_
          refine Gx.ret1 Try.results18 rfl ?_
          refine ⟨?_, ?_⟩
          · unfold stepB; rw [if_neg (by dsimp only; omega), if_pos rfl]; rw [if_pos (.inr (.inr (by unfold isN; exact decide_eq_false (by dsimp only; omega))))]
          · refine (sep1 _ _).trans ?_; unfold stepB; rw [if_neg (by dsimp only; omega), if_pos rfl]; rw [if_pos (.inr (.inr (by unfold isN; exact decide_eq_false (by dsimp only; omega))))]
        · refine Gq.valg rfl rfl rfl rfl rfl (Val.cast (val_fieldAddr rfl Try.underlying34 rfl Try.ty3 rfl rfl) (v' := ptr b1 2) rfl) ?_
          refine Gq.valg rfl rfl rfl rfl rfl (val_load rfl Try.ty3 rfl rfl (cell_rec (k := 0) rfl rfl)) ?_
          refine Gq.valg rfl rfl rfl rfl rfl (val_move rfl rfl) ?_
          refine Gq.valg rfl rfl rfl rfl rfl (val_nilCheck rfl rfl) ?_
          refine Gq.valg rfl rfl rfl rfl rfl (Val.cast (val_fieldAddr rfl Try.underlying42 rfl Try.ty3 rfl rfl) (v' := ptr S 0) rfl) ?_
          refine Gq.valg rfl rfl rfl rfl rfl (val_load rfl Try.ty3 rfl rfl (cell_rec (k := 1) rfl rfl)) ?_
          refine Gq.valg rfl rfl rfl rfl rfl (val_geq rfl rfl rfl) ?_
          refine Gq.val rfl rfl rfl (val_pickF rfl rfl rfl) ?_
          refine Gq.val rfl rfl rfl (val_assign rfl rfl) ?_
          refine Gq.done ?_
          refine Gx.thenN ?_
          refine Gx.dec rfl (fun h6 => ?_) (fun h6 => ?_)
          · refine Gx.seq ?_
            refine Gx.region ?_
            refine Gx.val rfl rfl rfl (val_assign rfl rfl) ?_
            refine Gx.done ?_
            refine Gx.thenN ?_
            refine Gx.ret ?_
            refine Gx.blkR ?_
            refine Gx.thenR ?_
            refine Gx.front 4 rfl ?_
            refine Gx.front 4 rfl ?_
            refine Gx.front 4 rfl ?_
            refine Gx.front 4 rfl ?_
            refine Gx.sat (l' := [worldH S c s, Hp.rec_ b1 [.int .i64 2, .int .i64 ((ff : Nat) : Int), .int .i64 to, .int .i64 what, .int .i64 msg, .int .i64 xn], R]) (fun w H => (worldH.shut (S := S) (c := c) (s := s) (pms := pms) (R := sep [Hp.rec_ b1 [.int .i64 2, .int .i64 ((ff : Nat) : Int), .int .i64 to, .int .i64 what, .int .i64 msg, .int .i64 xn], R]) (hmap) (H.cast (by rw [sep4R] <;> rfl))).cast (by rw [sep1] <;> rfl)) ?_
            refine Gx.drop 1 rfl ?_
            refine Gx.norm (l' := [worldH S c s, R]) rfl ?_
            refine Gx.ret1 Try.results18 rfl ?_
            refine ⟨?_, ?_⟩
            · unfold stepB; rw [if_neg (by dsimp only; omega), if_pos rfl]; rw [if_pos (.inr (.inr (by unfold isN; exact decide_eq_false (by dsimp only; omega))))]
            · refine (sep1 _ _).trans ?_; unfold stepB; rw [if_neg (by dsimp only; omega), if_pos rfl]; rw [if_pos (.inr (.inr (by unfold isN; exact decide_eq_false (by dsimp only; omega))))]
          · refine Gx.seq ?_
            refine Gx.region ?_
            refine Gx.val rfl rfl rfl (Val.cast (val_fieldAddr rfl Try.underlying34 rfl Try.ty3 rfl rfl) (v' := ptr b1 3) rfl) ?_
            refine Gx.val rfl rfl rfl (val_load rfl Try.ty3 rfl rfl (cell_rec (k := 0) rfl rfl)) ?_
            refine Gx.val rfl rfl rfl (val_lss rfl rfl rfl) ?_
            refine Gx.val rfl rfl rfl (val_move rfl rfl) ?_
            refine Gx.cases (t := 43) rfl (fun h7 => ?_) (fun h7 => ?_)
            · refine Gx.skipg rfl rfl rfl rfl rfl rfl ?_
              refine Gx.skipg rfl rfl rfl rfl rfl rfl ?_
              refine Gx.skipg rfl rfl rfl rfl rfl rfl ?_
              refine Gx.val rfl rfl rfl (val_pickT rfl rfl rfl) ?_
              refine Gx.val rfl rfl rfl (val_assign rfl rfl) ?_
              refine Gx.done ?_
              refine Gx.thenN ?_
              refine Gx.t rfl ?_
              refine Gx.seq ?_
              refine Gx.region ?_
              refine Gx.val rfl rfl rfl (val_assign rfl rfl) ?_
              refine Gx.done ?_
              refine Gx.thenN ?_
              refine Gx.ret ?_
              refine Gx.blkR ?_
              refine Gx.thenR ?_
              refine Gx.front 4 rfl ?_
              refine Gx.front 4 rfl ?_
              refine Gx.front 4 rfl ?_
              refine Gx.front 4 rfl ?_
              refine Gx.sat (l' := [worldH S c s, Hp.rec_ b1 [.int .i64 2, .int .i64 ((ff : Nat) : Int), .int .i64 to, .int .i64 what, .int .i64 msg, .int .i64 xn], R]) (fun w H => (worldH.shut (S := S) (c := c) (s := s) (pms := pms) (R := sep [Hp.rec_ b1 [.int .i64 2, .int .i64 ((ff : Nat) : Int), .int .i64 to, .int .i64 what, .int .i64 msg, .int .i64 xn], R]) (hmap) (H.cast (by rw [sep4R] <;> rfl))).cast (by rw [sep1] <;> rfl)) ?_
              refine Gx.drop 1 rfl ?_
              refine Gx.norm (l' := [worldH S c s, R]) rfl ?_
              refine Gx.ret1 Try.results18 rfl ?_
              refine ⟨?_, ?_⟩
              · unfold stepB; rw [if_neg (by dsimp only; omega), if_pos rfl]; rw [if_neg (by rintro (q | q | q); exact absurd q (by unfold isN; rw [decide_eq_true (by dsimp only; omega)]; exact Bool.noConfusion); (dsimp only [Int.toNat_natCast] at q; rw [q] at h4; simp at h4); exact absurd q (by unfold isN; rw [decide_eq_true (by dsimp only; omega)]; exact Bool.noConfusion)), if_pos (by dsimp only; omega)]
              · refine (sep1 _ _).trans ?_; unfold stepB; rw [if_neg (by dsimp only; omega), if_pos rfl]; rw [if_neg (by rintro (q | q | q); exact absurd q (by unfold isN; rw [decide_eq_true (by dsimp only; omega)]; exact Bool.noConfusion); (dsimp only [Int.toNat_natCast] at q; rw [q] at h4; simp at h4); exact absurd q (by unfold isN; rw [decide_eq_true (by dsimp only; omega)]; exact Bool.noConfusion)), if_pos (by dsimp only; omega)]
            · refine Gx.valg rfl rfl rfl rfl rfl (Val.cast (val_fieldAddr rfl Try.underlying34 rfl Try.ty3 rfl rfl) (v' := ptr b1 3) rfl) ?_
              refine Gx.valg rfl rfl rfl rfl rfl (val_load rfl Try.ty3 rfl rfl (cell_rec (k := 0) rfl rfl)) ?_
              refine Gx.valg rfl rfl rfl rfl rfl (val_gtr rfl rfl rfl) ?_
              refine Gx.val rfl rfl rfl (val_pickF rfl rfl rfl) ?_
              refine Gx.val rfl rfl rfl (val_assign rfl rfl) ?_
              refine Gx.done ?_
              refine Gx.thenN ?_
              refine Gx.dec rfl (fun h8 => ?_) (fun h8 => ?_)
              · refine Gx.seq ?_
                refine Gx.region ?_
                refine Gx.val rfl rfl rfl (val_assign rfl rfl) ?_
                refine Gx.done ?_
                refine Gx.thenN ?_
                refine Gx.ret ?_
                refine Gx.blkR ?_
                refine Gx.thenR ?_
                refine Gx.front 4 rfl ?_
                refine Gx.front 4 rfl ?_
                refine Gx.front 4 rfl ?_
                refine Gx.front 4 rfl ?_
                refine Gx.sat (l' := [worldH S c s, Hp.rec_ b1 [.int .i64 2, .int .i64 ((ff : Nat) : Int), .int .i64 to, .int .i64 what, .int .i64 msg, .int .i64 xn], R]) (fun w H => (worldH.shut (S := S) (c := c) (s := s) (pms := pms) (R := sep [Hp.rec_ b1 [.int .i64 2, .int .i64 ((ff : Nat) : Int), .int .i64 to, .int .i64 what, .int .i64 msg, .int .i64 xn], R]) (hmap) (H.cast (by rw [sep4R] <;> rfl))).cast (by rw [sep1] <;> rfl)) ?_
                refine Gx.drop 1 rfl ?_
                refine Gx.norm (l' := [worldH S c s, R]) rfl ?_
                refine Gx.ret1 Try.results18 rfl ?_
                refine ⟨?_, ?_⟩
                · unfold stepB; rw [if_neg (by dsimp only; omega), if_pos rfl]; rw [if_neg (by rintro (q | q | q); exact absurd q (by unfold isN; rw [decide_eq_true (by dsimp only; omega)]; exact Bool.noConfusion); (dsimp only [Int.toNat_natCast] at q; rw [q] at h4; simp at h4); exact absurd q (by unfold isN; rw [decide_eq_true (by dsimp only; omega)]; exact Bool.noConfusion)), if_pos (by dsimp only; omega)]
                · refine (sep1 _ _).trans ?_; unfold stepB; rw [if_neg (by dsimp only; omega), if_pos rfl]; rw [if_neg (by rintro (q | q | q); exact absurd q (by unfold isN; rw [decide_eq_true (by dsimp only; omega)]; exact Bool.noConfusion); (dsimp only [Int.toNat_natCast] at q; rw [q] at h4; simp at h4); exact absurd q (by unfold isN; rw [decide_eq_true (by dsimp only; omega)]; exact Bool.noConfusion)), if_pos (by dsimp only; omega)]
              · refine Gx.skip ?_
                refine Gx.blkN ?_
                refine Gx.thenN ?_
                refine Gx.seq ?_
                obtain ⟨tt, rfl⟩ := Int.eq_ofNat_of_zero_le (a := to) (by omega)
                obtain ⟨wt, rfl⟩ := Int.eq_ofNat_of_zero_le (a := what) (by omega)
                refine Gx.regionO (fun j => j == 14 || j == 15) 18 [0, 1, 2, 3, 4, 5, 6, 7, 8, 9, 10, 11, 12, 13, 14, 15, 16, 17] (fun us => match us with | [] => [Hp.rec_ b1 [.int .i64 2, .int .i64 ((ff : Nat) : Int), .int .i64 ((tt : Nat) : Int), .int .i64 ((wt : Nat) : Int), .int .i64 msg, .int .i64 xn], Hp.rec_ S [.int .i64 ((c.n : Nat) : Int), .int .i64 ((c.f : Nat) : Int), .int .u32 ((c.L : Nat) : Int), .int .i64 ((c.snd : Nat) : Int), av, pv, .bool s.st], Hp.own FG 5 av s.all, Hp.own FR 5 pv pms, Hp.big rowH pms, R] | [u1] => [Hp.rec_ (sB u1) [.int .i64 ((ff : Nat) : Int), .int .i64 ((tt : Nat) : Int), .int .i64 ((wt : Nat) : Int), .int .i64 xn, .bool false], Hp.rec_ b1 [.int .i64 2, .int .i64 ((ff : Nat) : Int), .int .i64 ((tt : Nat) : Int), .int .i64 ((wt : Nat) : Int), .int .i64 msg, .int .i64 xn], Hp.rec_ S [.int .i64 ((c.n : Nat) : Int), .int .i64 ((c.f : Nat) : Int), .int .u32 ((c.L : Nat) : Int), .int .i64 ((c.snd : Nat) : Int), av, pv, .bool s.st], Hp.own FG 5 av s.all, Hp.own FR 5 pv pms, Hp.big rowH pms, R] | u1 :: u2 :: _ => [Hp.rec_ b1 [.int .i64 2, .int .i64 ((ff : Nat) : Int), .int .i64 ((tt : Nat) : Int), .int .i64 ((wt : Nat) : Int), .int .i64 msg, .int .i64 xn], Hp.rec_ S [.int .i64 ((c.n : Nat) : Int), .int .i64 ((c.f : Nat) : Int), .int .u32 ((c.L : Nat) : Int), .int .i64 ((c.snd : Nat) : Int), av, pv, .bool s.st], Hp.own FG 5 u2 (s.all ++ [(⟨ff, tt, wt, xn, false⟩ : Mg)]), Hp.own FR 5 pv pms, Hp.big rowH pms, R]) Try.mixed (by kernel_rfl) rfl ?_
                refine Gw.val rfl rfl rfl rfl rfl (fun us => val_move rfl rfl) ?_
                refine Gw.val rfl rfl rfl rfl rfl (fun us => val_move rfl rfl) ?_
                refine Gw.val rfl rfl rfl rfl rfl (fun us => val_nilCheck rfl rfl) ?_
                refine Gw.val rfl rfl rfl rfl rfl (fun us => Val.cast (val_fieldAddr rfl Try.underlying42 rfl Try.ty39 rfl rfl) (v' := ptr S 4) rfl) ?_
                refine Gw.val rfl rfl rfl rfl rfl (fun us => match us with | [] => val_load rfl Try.ty39 rfl rfl (cell_rec (k := 1) rfl rfl) | [u1] => val_load rfl Try.ty39 rfl rfl (cell_rec (k := 2) rfl rfl) | u1 :: u2 :: _ => val_load rfl Try.ty39 rfl rfl (cell_rec (k := 1) rfl rfl)) ?_
                refine Gw.val rfl rfl rfl rfl rfl (fun us => Val.cast (val_fieldAddr rfl Try.underlying34 rfl Try.ty3 rfl rfl) (v' := ptr b1 1) rfl) ?_
                refine Gw.val rfl rfl rfl rfl rfl (fun us => match us with | [] => val_load rfl Try.ty3 rfl rfl (cell_rec (k := 0) rfl rfl) | [u1] => val_load rfl Try.ty3 rfl rfl (cell_rec (k := 1) rfl rfl) | u1 :: u2 :: _ => val_load rfl Try.ty3 rfl rfl (cell_rec (k := 0) rfl rfl)) ?_
                refine Gw.val rfl rfl rfl rfl rfl (fun us => Val.cast (val_fieldAddr rfl Try.underlying34 rfl Try.ty3 rfl rfl) (v' := ptr b1 2) rfl) ?_
                refine Gw.val rfl rfl rfl rfl rfl (fun us => match us with | [] => val_load rfl Try.ty3 rfl rfl (cell_rec (k := 0) rfl rfl) | [u1] => val_load rfl Try.ty3 rfl rfl (cell_rec (k := 1) rfl rfl) | u1 :: u2 :: _ => val_load rfl Try.ty3 rfl rfl (cell_rec (k := 0) rfl rfl)) ?_
                refine Gw.val rfl rfl rfl rfl rfl (fun us => Val.cast (val_fieldAddr rfl Try.underlying34 rfl Try.ty3 rfl rfl) (v' := ptr b1 3) rfl) ?_
                refine Gw.val rfl rfl rfl rfl rfl (fun us => match us with | [] => val_load rfl Try.ty3 rfl rfl (cell_rec (k := 0) rfl rfl) | [u1] => val_load rfl Try.ty3 rfl rfl (cell_rec (k := 1) rfl rfl) | u1 :: u2 :: _ => val_load rfl Try.ty3 rfl rfl (cell_rec (k := 0) rfl rfl)) ?_
                refine Gw.val rfl rfl rfl rfl rfl (fun us => Val.cast (val_fieldAddr rfl Try.underlying34 rfl Try.ty2 rfl rfl) (v' := ptr b1 5) rfl) ?_
                refine Gw.val rfl rfl rfl rfl rfl (fun us => match us with | [] => val_load rfl Try.ty2 rfl rfl (cell_rec (k := 0) rfl rfl) | [u1] => val_load rfl Try.ty2 rfl rfl (cell_rec (k := 1) rfl rfl) | u1 :: u2 :: _ => val_load rfl Try.ty2 rfl rfl (cell_rec (k := 0) rfl rfl)) ?_
                refine Gw.val rfl rfl rfl rfl rfl (fun us => val_build rfl (qs := [(0, .int .i64 ((ff : Nat) : Int)), (1, .int .i64 ((tt : Nat) : Int)), (2, .int .i64 ((wt : Nat) : Int)), (3, .int .i64 xn)]) rfl rfl (fun w => by go_simp) (v := .agg #[.int .i64 ((ff : Nat) : Int), .int .i64 ((tt : Nat) : Int), .int .i64 ((wt : Nat) : Int), .int .i64 xn, .bool false])) ?_
                refine Gw.chg rfl rfl rfl rfl rfl (fun v => ∃ b9, v = .slice (some ⟨b9, 0, none⟩) 1 1) (Eff.mono (eff_buildSlice rfl (qs := [(0, .agg #[.int .i64 ((ff : Nat) : Int), .int .i64 ((tt : Nat) : Int), .int .i64 ((wt : Nat) : Int), .int .i64 xn, .bool false])]) rfl rfl (cs := #[.int .i64 ((ff : Nat) : Int), .int .i64 ((tt : Nat) : Int), .int .i64 ((wt : Nat) : Int), .int .i64 xn, .bool false]) (vs := [.int .i64 ((ff : Nat) : Int), .int .i64 ((tt : Nat) : Int), .int .i64 ((wt : Nat) : Int), .int .i64 xn, .bool false]) (E := 48) rfl (fun w => by first | (go_simp; done) | (go_simp; rfl))) (by rintro _ _ ⟨b9, rfl, rfl⟩; exact ⟨⟨b9, rfl⟩, rfl⟩)) ?_
                rintro _ ⟨b9, rfl⟩
                refine Gw.chg rfl rfl rfl rfl rfl IsS (Eff.mono (eff_push (r := (⟨ff, tt, wt, xn, false⟩ : Mg)) rfl Try.eG FG_len FG_one rfl rfl (k := 0) rfl rfl (k' := 2) rfl (by omega) (by omega)) (fun _ _ h => ⟨h.1, congrArg sep h.2⟩)) ?_
                intro v10 hiv10
                refine Gw.val rfl rfl rfl rfl rfl (fun us => val_nilCheck rfl rfl) ?_
                refine Gw.val rfl rfl rfl rfl rfl (fun us => Val.cast (val_fieldAddr rfl Try.underlying42 rfl Try.ty39 rfl rfl) (v' := ptr S 4) rfl) ?_
                refine Gw.done ?_
                refine Gx.norm (l' := [Hp.rec_ b1 [.int .i64 2, .int .i64 ((ff : Nat) : Int), .int .i64 ((tt : Nat) : Int), .int .i64 ((wt : Nat) : Int), .int .i64 msg, .int .i64 xn], Hp.rec_ S [.int .i64 ((c.n : Nat) : Int), .int .i64 ((c.f : Nat) : Int), .int .u32 ((c.L : Nat) : Int), .int .i64 ((c.snd : Nat) : Int), av, pv, .bool s.st], Hp.own FG 5 v10 (s.all ++ [(⟨ff, tt, wt, xn, false⟩ : Mg)]), Hp.own FR 5 pv pms, Hp.big rowH pms, R]) rfl ?_
                refine Gx.eff0 rfl rfl (eff_store rfl Try.ty39 rfl rfl (us := [v10]) hiv10.cellsL rfl hiv10.all (k := 1) rfl (rfl) (vs' := [.int .i64 ((c.n : Nat) : Int), .int .i64 ((c.f : Nat) : Int), .int .u32 ((c.L : Nat) : Int), .int .i64 ((c.snd : Nat) : Int), v10, pv, .bool s.st]) (rfl) (l' := [Hp.rec_ b1 [.int .i64 2, .int .i64 ((ff : Nat) : Int), .int .i64 ((tt : Nat) : Int), .int .i64 ((wt : Nat) : Int), .int .i64 msg, .int .i64 xn], Hp.rec_ S [.int .i64 ((c.n : Nat) : Int), .int .i64 ((c.f : Nat) : Int), .int .u32 ((c.L : Nat) : Int), .int .i64 ((c.snd : Nat) : Int), v10, pv, .bool s.st], Hp.own FG 5 v10 (s.all ++ [(⟨ff, tt, wt, xn, false⟩ : Mg)]), Hp.own FR 5 pv pms, Hp.big rowH pms, R]) rfl) ?_
                rintro _ _ rfl
                refine Gx.done ?_
                refine Gx.thenN ?_
                refine Gx.seq ?_
                refine Gx.region ?_
                refine Gx.val rfl rfl rfl (val_assign rfl rfl) ?_
                refine Gx.done ?_
                refine Gx.thenN ?_
                refine Gx.ret ?_
                refine Gx.front 4 rfl ?_
                refine Gx.front 4 rfl ?_
                refine Gx.front 4 rfl ?_
                refine Gx.front 4 rfl ?_
                refine Gx.sat (l' := [worldH S c (⟨s.all ++ [⟨ff, tt, wt, xn, false⟩], s.ps, s.st⟩ : BS), Hp.rec_ b1 [.int .i64 2, .int .i64 ((ff : Nat) : Int), .int .i64 ((tt : Nat) : Int), .int .i64 ((wt : Nat) : Int), .int .i64 msg, .int .i64 xn], R]) (fun w H => (worldH.shut (S := S) (c := c) (s := (⟨s.all ++ [⟨ff, tt, wt, xn, false⟩], s.ps, s.st⟩ : BS)) (pms := pms) (R := sep [Hp.rec_ b1 [.int .i64 2, .int .i64 ((ff : Nat) : Int), .int .i64 ((tt : Nat) : Int), .int .i64 ((wt : Nat) : Int), .int .i64 msg, .int .i64 xn], R]) (hmap) (H.cast (by rw [sep4R] <;> rfl))).cast (by rw [sep1] <;> rfl)) ?_
                refine Gx.drop 1 rfl ?_
                refine Gx.norm (l' := [worldH S c (⟨s.all ++ [⟨ff, tt, wt, xn, false⟩], s.ps, s.st⟩ : BS), R]) rfl ?_
                refine Gx.ret1 Try.results18 rfl ?_
                refine ⟨?_, ?_⟩
                · unfold stepB; rw [if_neg (by dsimp only; omega), if_pos rfl]; rw [if_neg (by rintro (q | q | q); exact absurd q (by unfold isN; rw [decide_eq_true (by dsimp only; omega)]; exact Bool.noConfusion); (dsimp only [Int.toNat_natCast] at q; rw [q] at h4; simp at h4); exact absurd q (by unfold isN; rw [decide_eq_true (by dsimp only; omega)]; exact Bool.noConfusion)), if_neg (by dsimp only; omega)] <;> rfl
                · refine (sep1 _ _).trans ?_; unfold stepB; rw [if_neg (by dsimp only; omega), if_pos rfl]; rw [if_neg (by rintro (q | q | q); exact absurd q (by unfold isN; rw [decide_eq_true (by dsimp only; omega)]; exact Bool.noConfusion); (dsimp only [Int.toNat_natCast] at q; rw [q] at h4; simp at h4); exact absurd q (by unfold isN; rw [decide_eq_true (by dsimp only; omega)]; exact Bool.noConfusion)), if_neg (by dsimp only; omega)] <;> rfl

theorem step_any {W w : World} {S T : Nat} {c : Cf} {s : BS} {x : Mv} {R : Hp} (bd : BdB T c s) (hT : T ≤ 1000) (hn7 : c.n ≤ 7) (hf7 : c.f ≤ 7) (hL : c.L < 4294967296) (hsn : c.snd < c.n) (H : Sat W w (worldH S c s * R)) :
    Calls Try.prog 10 #[ptr S 0, .agg #[.int .i64 x.kind, .int .i64 x.frm, .int .i64 x.to, .int .i64 x.what, .int .i64 x.msg, .int .i64 x.n]] w (Ret W fun v l => v = .int .i64 (stepB c s x).1 ∧ sep l = worldH S c (stepB c s x).2 * R) := by
  obtain ⟨kind, frm, to, what, msg, xn⟩ := x
  dsimp only
  obtain ⟨av, pv, pms, hmap, H⟩ := worldH.open_ H
  have hpl : pms.length = s.ps.length := by rw [← hmap, List.length_map]
  have hav : IsS av := isS_own (H.at_ (k := 1) rfl)
  have hal := bd.all_le
  have hln := bd.len
  refine Gx.enter (l := [Hp.rec_ S [.int .i64 ((c.n : Nat) : Int), .int .i64 ((c.f : Nat) : Int), .int .u32 ((c.L : Nat) : Int), .int .i64 ((c.snd : Nat) : Int), av, pv, .bool s.st], Hp.own FG 5 av s.all, Hp.own FR 5 pv pms, Hp.big rowH pms, R]) Try.func10 rfl Try.ntmps10 rfl (H) ?_
  refine Gx.know (m' := [(0, ptr S 0), (1, .agg #[.int .i64 kind, .int .i64 frm, .int .i64 to, .int .i64 what, .int .i64 msg, .int .i64 xn])]) (.cons rfl (.cons rfl .nil)) ?_
  refine Gx.seq ?_
  refine Gx.region ?_
  refine Gx.eff rfl rfl rfl (eff_box rfl rfl (vs := [.int .i64 kind, .int .i64 frm, .int .i64 to, .int .i64 what, .int .i64 msg, .int .i64 xn]) rfl) ?_
  rintro _ _ ⟨b1, rfl, rfl⟩
  refine Gx.val rfl rfl rfl (val_assign rfl rfl) ?_
  refine Gx.done ?_
  refine Gx.thenN ?_
  refine Gx.seq ?_
  refine Gx.seq ?_
  refine Gx.region ?_
  refine Gx.val rfl rfl rfl (Val.cast (val_fieldAddr rfl Try.underlying34 rfl Try.ty3 rfl rfl) (v' := ptr b1 0) rfl) ?_
  refine Gx.val rfl rfl rfl (val_load rfl Try.ty3 rfl rfl (cell_rec (k := 0) rfl rfl)) ?_
  refine Gx.done ?_
  refine Gx.thenN ?_
  refine Gx.block ?_
  refine Gx.seq ?_
  refine Gx.region ?_
  refine Gx.val rfl rfl rfl (val_eql rfl rfl rfl) ?_
  refine Gx.val rfl rfl rfl (val_assign rfl rfl) ?_
  refine Gx.done ?_
  refine Gx.thenN ?_
  refine Gx.dec rfl (fun h2 => ?_) (fun h2 => ?_)
  · refine Gx.seq ?_
    refine Gx.seq ?_
    refine Gx.region ?_
    refine Gx.val rfl rfl rfl (val_move rfl rfl) ?_
    refine Gx.val rfl rfl rfl (val_nilCheck rfl rfl) ?_
    refine Gx.val rfl rfl rfl (Val.cast (val_fieldAddr rfl Try.underlying42 rfl Try.ty4 rfl rfl) (v' := ptr S 6) rfl) ?_
    refine Gx.val rfl rfl rfl (val_load rfl Try.ty4 rfl rfl (cell_rec (k := 1) rfl rfl)) ?_
    refine Gx.val rfl rfl rfl (val_move rfl rfl) ?_
    refine Gx.casesB (t := 14) rfl (fun h3 => ?_) (fun h3 => ?_)
    · refine Gx.skipg rfl rfl rfl rfl rfl rfl ?_
      refine Gx.skipg rfl rfl rfl rfl rfl rfl ?_
      refine Gx.skipg rfl rfl rfl rfl rfl rfl ?_
      refine Gx.skipg rfl rfl rfl rfl rfl rfl ?_
      refine Gx.skipg rfl rfl rfl rfl rfl rfl ?_
      refine Gx.skipg rfl rfl rfl rfl rfl rfl ?_
      refine Gx.val rfl rfl rfl (val_pickT rfl rfl rfl) ?_
      refine Gx.done ?_
      refine Gx.thenN ?_
      refine Gx.t rfl ?_
      refine Gx.seq ?_
      refine Gx.region ?_
      refine Gx.val rfl rfl rfl (val_assign rfl rfl) ?_
      refine Gx.done ?_
      refine Gx.thenN ?_
      refine Gx.ret ?_
      refine Gx.thenR ?_
      refine Gx.blkR ?_
      refine Gx.thenR ?_
      refine Gx.front 4 rfl ?_
      refine Gx.front 4 rfl ?_
      refine Gx.front 4 rfl ?_
      refine Gx.front 4 rfl ?_
      refine Gx.sat (l' := [worldH S c s, Hp.rec_ b1 [.int .i64 kind, .int .i64 frm, .int .i64 to, .int .i64 what, .int .i64 msg, .int .i64 xn], R]) (fun w H => (worldH.shut (S := S) (c := c) (s := s) (pms := pms) (R := sep [Hp.rec_ b1 [.int .i64 kind, .int .i64 frm, .int .i64 to, .int .i64 what, .int .i64 msg, .int .i64 xn], R]) (hmap) (H.cast (by rw [sep4R] <;> rfl))).cast (by rw [sep1] <;> rfl)) ?_
      refine Gx.drop 1 rfl ?_
      refine Gx.norm (l' := [worldH S c s, R]) rfl ?_
      refine Gx.ret1 Try.results10 rfl ?_
      refine ⟨?_, ?_⟩
      · unfold stepB; rw [if_pos (by dsimp only; omega)]; rw [if_pos (.inl h3)]
      · refine (sep1 _ _).trans ?_; unfold stepB; rw [if_pos (by dsimp only; omega)]; rw [if_pos (.inl h3)]
    · refine Gx.valg rfl rfl rfl rfl rfl (val_move rfl rfl) ?_
      refine Gx.valg rfl rfl rfl rfl rfl (val_move rfl rfl) ?_
      refine Gx.valg rfl rfl rfl rfl rfl (val_nilCheck rfl rfl) ?_
      refine Gx.valg rfl rfl rfl rfl rfl (Val.cast (val_fieldAddr rfl Try.underlying42 rfl Try.ty3 rfl rfl) (v' := ptr S 3) rfl) ?_
      refine Gx.valg rfl rfl rfl rfl rfl (val_load rfl Try.ty3 rfl rfl (cell_rec (k := 1) rfl rfl)) ?_
      refine Gx.valg rfl rfl rfl rfl rfl (val_call (vs := [ptr S 0, .int .i64 ((c.snd : Nat) : Int)]) rfl Try.fn16 rfl (fun w H => lies_any (i := c.snd) ((H.at_ (k := 1) rfl).rec_.1) ((H.at_ (k := 1) rfl).cell 2 rfl) hL (by omega))) ?_
      refine Gx.val rfl rfl rfl (val_pickF rfl rfl rfl) ?_
      refine Gx.done ?_
      refine Gx.thenN ?_
      refine Gx.bool rfl (fun h4 => ?_) (fun h4 => ?_)
      · refine Gx.seq ?_
        refine Gx.region ?_
        refine Gx.val rfl rfl rfl (val_assign rfl rfl) ?_
        refine Gx.done ?_
        refine Gx.thenN ?_
        refine Gx.ret ?_
        refine Gx.thenR ?_
        refine Gx.blkR ?_
        refine Gx.thenR ?_
        refine Gx.front 4 rfl ?_
        refine Gx.front 4 rfl ?_
        refine Gx.front 4 rfl ?_
        refine Gx.front 4 rfl ?_
        refine Gx.sat (l' := [worldH S c s, Hp.rec_ b1 [.int .i64 kind, .int .i64 frm, .int .i64 to, .int .i64 what, .int .i64 msg, .int .i64 xn], R]) (fun w H => (worldH.shut (S := S) (c := c) (s := s) (pms := pms) (R := sep [Hp.rec_ b1 [.int .i64 kind, .int .i64 frm, .int .i64 to, .int .i64 what, .int .i64 msg, .int .i64 xn], R]) (hmap) (H.cast (by rw [sep4R] <;> rfl))).cast (by rw [sep1] <;> rfl)) ?_
        refine Gx.drop 1 rfl ?_
        refine Gx.norm (l' := [worldH S c s, R]) rfl ?_
        refine Gx.ret1 Try.results10 rfl ?_
        refine ⟨?_, ?_⟩
        · unfold stepB; rw [if_pos (by dsimp only; omega)]; rw [if_pos (.inr h4)]
        · refine (sep1 _ _).trans ?_; unfold stepB; rw [if_pos (by dsimp only; omega)]; rw [if_pos (.inr h4)]
      · refine Gx.skip ?_
        refine Gx.thenN ?_
        refine Gx.seq ?_
        refine Gx.region ?_
        refine Gx.val rfl rfl rfl (val_move rfl rfl) ?_
        refine Gx.val rfl rfl rfl (val_nilCheck rfl rfl) ?_
        refine Gx.val rfl rfl rfl (Val.cast (val_fieldAddr rfl Try.underlying42 rfl Try.ty4 rfl rfl) (v' := ptr S 6) rfl) ?_
        refine Gx.eff0 rfl rfl (eff_store rfl Try.ty4 rfl rfl (us := [.bool true]) rfl rfl rfl (k := 1) rfl (rfl) (vs' := [.int .i64 ((c.n : Nat) : Int), .int .i64 ((c.f : Nat) : Int), .int .u32 ((c.L : Nat) : Int), .int .i64 ((c.snd : Nat) : Int), av, pv, .bool true]) (rfl) (l' := [Hp.rec_ b1 [.int .i64 kind, .int .i64 frm, .int .i64 to, .int .i64 what, .int .i64 msg, .int .i64 xn], Hp.rec_ S [.int .i64 ((c.n : Nat) : Int), .int .i64 ((c.f : Nat) : Int), .int .u32 ((c.L : Nat) : Int), .int .i64 ((c.snd : Nat) : Int), av, pv, .bool true], Hp.own FG 5 av s.all, Hp.own FR 5 pv pms, Hp.big rowH pms, R]) rfl) ?_
        rintro _ _ rfl
        refine Gx.done ?_
        refine Gx.thenN ?_
        refine Gx.seq ?_
        refine Gx.regionO (fun j => false) 7 [0, 1, 2, 3, 4, 5, 6] (fun _ => [Hp.rec_ b1 [.int .i64 kind, .int .i64 frm, .int .i64 to, .int .i64 what, .int .i64 msg, .int .i64 xn], Hp.rec_ S [.int .i64 ((c.n : Nat) : Int), .int .i64 ((c.f : Nat) : Int), .int .u32 ((c.L : Nat) : Int), .int .i64 ((c.snd : Nat) : Int), av, pv, .bool true], Hp.own FG 5 av s.all, Hp.own FR 5 pv pms, Hp.big rowH pms, R]) Try.mixed (by kernel_rfl) rfl ?_
        refine Gw.val rfl rfl rfl rfl rfl (fun us => val_move rfl rfl) ?_
        refine Gw.val rfl rfl rfl rfl rfl (fun us => val_move rfl rfl) ?_
        refine Gw.val rfl rfl rfl rfl rfl (fun us => val_nilCheck rfl rfl) ?_
        refine Gw.val rfl rfl rfl rfl rfl (fun us => Val.cast (val_fieldAddr rfl Try.underlying42 rfl Try.ty3 rfl rfl) (v' := ptr S 3) rfl) ?_
        refine Gw.val0 rfl rfl rfl (by kernel_rfl) rfl rfl (val_load rfl Try.ty3 rfl rfl (cell_rec (k := 1) rfl rfl)) ?_
        refine Gw.val rfl rfl rfl rfl rfl (fun us => Val.cast (val_fieldAddr rfl Try.underlying34 rfl Try.ty2 rfl rfl) (v' := ptr b1 5) rfl) ?_
        refine Gw.val0 rfl rfl rfl (by kernel_rfl) rfl rfl (val_load rfl Try.ty2 rfl rfl (cell_rec (k := 0) rfl rfl)) ?_
        refine Gw.done ?_
        refine Gx.norm (l' := [Hp.rec_ b1 [.int .i64 kind, .int .i64 frm, .int .i64 to, .int .i64 what, .int .i64 msg, .int .i64 xn], Hp.rec_ S [.int .i64 ((c.n : Nat) : Int), .int .i64 ((c.f : Nat) : Int), .int .u32 ((c.L : Nat) : Int), .int .i64 ((c.snd : Nat) : Int), av, pv, .bool true], Hp.own FG 5 av s.all, Hp.own FR 5 pv pms, Hp.big rowH pms, R]) rfl ?_
        refine Gx.eff rfl rfl rfl (eff_call (vs := [ptr S 0, .int .i64 ((c.snd : Nat) : Int), .int .i64 1, .int .i64 xn]) rfl Try.fn17 rfl (fun w H => send_any (s := ⟨s.all, s.ps, true⟩) (what := 1) (x := xn) hav (by dsimp only; omega) (by omega) (H.at3 (k := 1) (k' := 1) (k'' := 1) rfl rfl rfl))) ?_
        rintro _ l5 ⟨bv, hbv, rfl, hl5⟩
        refine Gx.sepEq (l' := [Hp.rec_ S [.int .i64 ((c.n : Nat) : Int), .int .i64 ((c.f : Nat) : Int), .int .u32 ((c.L : Nat) : Int), .int .i64 ((c.snd : Nat) : Int), bv, pv, .bool true], Hp.own FG 5 bv (s.all ++ newM c.snd 1 xn pms.length), Hp.own FR 5 pv pms, Hp.rec_ b1 [.int .i64 kind, .int .i64 frm, .int .i64 to, .int .i64 what, .int .i64 msg, .int .i64 xn], Hp.big rowH pms, R]) hl5 ?_
        refine Gx.done ?_
        refine Gx.thenN ?_
        refine Gx.seq ?_
        refine Gx.region ?_
        refine Gx.val rfl rfl rfl (val_assign rfl rfl) ?_
        refine Gx.done ?_
        refine Gx.thenN ?_
        refine Gx.ret ?_
        refine Gx.blkR ?_
        refine Gx.thenR ?_
        refine Gx.norm (l' := [Hp.rec_ S [.int .i64 ((c.n : Nat) : Int), .int .i64 ((c.f : Nat) : Int), .int .u32 ((c.L : Nat) : Int), .int .i64 ((c.snd : Nat) : Int), bv, pv, .bool true], Hp.own FG 5 bv (s.all ++ newM c.snd 1 xn s.ps.length), Hp.own FR 5 pv pms, Hp.rec_ b1 [.int .i64 kind, .int .i64 frm, .int .i64 to, .int .i64 what, .int .i64 msg, .int .i64 xn], Hp.big rowH pms, R]) (by rw [hpl] <;> rfl) ?_
        refine Gx.front 4 rfl ?_
        refine Gx.front 3 rfl ?_
        refine Gx.front 3 rfl ?_
        refine Gx.front 3 rfl ?_
        refine Gx.sat (l' := [worldH S c (⟨s.all ++ newM c.snd 1 xn s.ps.length, s.ps, true⟩ : BS), Hp.rec_ b1 [.int .i64 kind, .int .i64 frm, .int .i64 to, .int .i64 what, .int .i64 msg, .int .i64 xn], R]) (fun w H => (worldH.shut (S := S) (c := c) (s := (⟨s.all ++ newM c.snd 1 xn s.ps.length, s.ps, true⟩ : BS)) (pms := pms) (R := sep [Hp.rec_ b1 [.int .i64 kind, .int .i64 frm, .int .i64 to, .int .i64 what, .int .i64 msg, .int .i64 xn], R]) (hmap) (H.cast (by rw [sep4R] <;> rfl))).cast (by rw [sep1] <;> rfl)) ?_
        refine Gx.drop 1 rfl ?_
        refine Gx.norm (l' := [worldH S c (⟨s.all ++ newM c.snd 1 xn s.ps.length, s.ps, true⟩ : BS), R]) rfl ?_
        refine Gx.ret1 Try.results10 rfl ?_
        refine ⟨?_, ?_⟩
        · unfold stepB; rw [if_pos (by dsimp only; omega)]; rw [if_neg (by rintro (q | q); exact absurd q (by simpa using h3); exact absurd q (by simpa using h4))] <;> rfl
        · refine (sep1 _ _).trans ?_; unfold stepB; rw [if_pos (by dsimp only; omega)]; rw [if_neg (by rintro (q | q); exact absurd q (by simpa using h3); exact absurd q (by simpa using h4))] <;> rfl
  · refine Gx.seq ?_
    refine Gx.region ?_
    refine Gx.val rfl rfl rfl (val_eql rfl rfl rfl) ?_
    refine Gx.val rfl rfl rfl (val_assign rfl rfl) ?_
    refine Gx.done ?_
    refine Gx.thenN ?_
    refine Gx.dec rfl (fun h6 => ?_) (fun h6 => ?_)
    · refine Gx.seq ?_
      refine Gx.front 4 rfl ?_
      refine Gx.front 4 rfl ?_
      refine Gx.front 4 rfl ?_
      refine Gx.front 4 rfl ?_
      refine Gx.sat (l' := [worldH S c s, Hp.rec_ b1 [.int .i64 kind, .int .i64 frm, .int .i64 to, .int .i64 what, .int .i64 msg, .int .i64 xn], R]) (fun w H => (worldH.shut (S := S) (c := c) (s := s) (pms := pms) (R := sep [Hp.rec_ b1 [.int .i64 kind, .int .i64 frm, .int .i64 to, .int .i64 what, .int .i64 msg, .int .i64 xn], R]) (hmap) (H.cast (by rw [sep4R] <;> rfl))).cast (by rw [sep1] <;> rfl)) ?_
      obtain rfl : kind = 2 := by omega
      refine Gx.region ?_
      refine Gx.val rfl rfl rfl (val_move rfl rfl) ?_
      refine Gx.val rfl rfl rfl (Val.cast (val_loadA rfl Try.ty34 rfl rfl rfl (cells_rec (k := 1) rfl)) (v' := .agg #[.int .i64 2, .int .i64 frm, .int .i64 to, .int .i64 what, .int .i64 msg, .int .i64 xn]) rfl) ?_
      refine Gx.eff rfl rfl rfl (eff_call (vs := [ptr S 0, .agg #[.int .i64 2, .int .i64 frm, .int .i64 to, .int .i64 what, .int .i64 msg, .int .i64 xn]]) rfl Try.fn18 rfl (fun w H => forge_any bd hT hn7 hf7 hL hsn (H.at_ (k := 0) rfl))) ?_
      rintro _ l7 ⟨rfl, hl7⟩
      refine Gx.sepEq (l' := [worldH S c (stepB c s ⟨2, frm, to, what, msg, xn⟩).2, Hp.rec_ b1 [.int .i64 2, .int .i64 frm, .int .i64 to, .int .i64 what, .int .i64 msg, .int .i64 xn], R]) hl7 ?_
      refine Gx.val rfl rfl rfl (val_assign rfl rfl) ?_
      refine Gx.done ?_
      refine Gx.thenN ?_
      refine Gx.ret ?_
      refine Gx.blkR ?_
      refine Gx.thenR ?_
      refine Gx.drop 1 rfl ?_
      refine Gx.norm (l' := [worldH S c (stepB c s ⟨2, frm, to, what, msg, xn⟩).2, R]) rfl ?_
      refine Gx.ret1 Try.results10 rfl ?_
      exact ⟨rfl, sep1 _ _⟩
    · refine Gx.seq ?_
      refine Gx.region ?_
      refine Gx.val rfl rfl rfl (val_eql rfl rfl rfl) ?_
      refine Gx.val rfl rfl rfl (val_assign rfl rfl) ?_
      refine Gx.done ?_
      refine Gx.thenN ?_
      refine Gx.dec rfl (fun h8 => ?_) (fun h8 => ?_)
      · refine Gx.seq ?_
        refine Gx.seq ?_
        refine Gx.regionQ Try.mixed (by kernel_rfl) ?_
        refine Gq.val rfl rfl rfl (Val.cast (val_fieldAddr rfl Try.underlying34 rfl Try.ty3 rfl rfl) (v' := ptr b1 4) rfl) ?_
        refine Gq.val rfl rfl rfl (val_load rfl Try.ty3 rfl rfl (cell_rec (k := 0) rfl rfl)) ?_
        refine Gq.val rfl rfl rfl (val_lss rfl rfl rfl) ?_
        refine Gq.val rfl rfl rfl (val_move rfl rfl) ?_
        refine Gq.cases (t := 43) rfl (fun h9 => ?_) (fun h9 => ?_)
        · refine Gq.skipg rfl rfl rfl rfl rfl rfl ?_
          refine Gq.skipg rfl rfl rfl rfl rfl rfl ?_
          refine Gq.skipg rfl rfl rfl rfl rfl rfl ?_
          refine Gq.skipg rfl rfl rfl rfl rfl rfl ?_
          refine Gq.skipg rfl rfl rfl rfl rfl rfl ?_
          refine Gq.skipg rfl rfl rfl rfl rfl rfl ?_
          refine Gq.skipg rfl rfl rfl rfl rfl rfl ?_
          refine Gq.skipg rfl rfl rfl rfl rfl rfl ?_
          refine Gq.val rfl rfl rfl (val_pickT rfl rfl rfl) ?_
          refine Gq.done ?_
          refine Gx.thenN ?_
          refine Gx.t rfl ?_
          refine Gx.seq ?_
          refine Gx.region ?_
          refine Gx.val rfl rfl rfl (val_assign rfl rfl) ?_
          refine Gx.done ?_
          refine Gx.thenN ?_
          refine Gx.ret ?_
          refine Gx.thenR ?_
          refine Gx.blkR ?_
          refine Gx.thenR ?_
          refine Gx.front 4 rfl ?_
          refine Gx.front 4 rfl ?_
          refine Gx.front 4 rfl ?_
          refine Gx.front 4 rfl ?_
          refine Gx.sat (l' := [worldH S c s, Hp.rec_ b1 [.int .i64 kind, .int .i64 frm, .int .i64 to, .int .i64 what, .int .i64 msg, .int .i64 xn], R]) (fun w H => (worldH.shut (S := S) (c := c) (s := s) (pms := pms) (R := sep [Hp.rec_ b1 [.int .i64 kind, .int .i64 frm, .int .i64 to, .int .i64 what, .int .i64 msg, .int .i64 xn], R]) (hmap) (H.cast (by rw [sep4R] <;> rfl))).cast (by rw [sep1] <;> rfl)) ?_
          refine Gx.drop 1 rfl ?_
          refine Gx.norm (l' := [worldH S c s, R]) rfl ?_
          refine Gx.ret1 Try.results10 rfl ?_
          refine ⟨?_, ?_⟩
          · unfold stepB; rw [if_neg (by dsimp only; omega), if_neg (by dsimp only; omega), if_pos (by dsimp only; omega)]; rw [if_pos (by unfold isN; exact decide_eq_false (by dsimp only; omega))]
          · refine (sep1 _ _).trans ?_; unfold stepB; rw [if_neg (by dsimp only; omega), if_neg (by dsimp only; omega), if_pos (by dsimp only; omega)]; rw [if_pos (by unfold isN; exact decide_eq_false (by dsimp only; omega))]
        · refine Gq.valg rfl rfl rfl rfl rfl (Val.cast (val_fieldAddr rfl Try.underlying34 rfl Try.ty3 rfl rfl) (v' := ptr b1 4) rfl) ?_
          refine Gq.valg rfl rfl rfl rfl rfl (val_load rfl Try.ty3 rfl rfl (cell_rec (k := 0) rfl rfl)) ?_
          refine Gq.valg rfl rfl rfl rfl rfl (val_move rfl rfl) ?_
          refine Gq.valg rfl rfl rfl rfl rfl (val_nilCheck rfl rfl) ?_
          refine Gq.valg rfl rfl rfl rfl rfl (Val.cast (val_fieldAddr rfl Try.underlying42 rfl Try.ty39 rfl rfl) (v' := ptr S 4) rfl) ?_
          refine Gq.valg rfl rfl rfl rfl rfl (val_load rfl Try.ty39 rfl rfl (cell_rec (k := 1) rfl rfl)) ?_
          refine Gq.valg rfl rfl rfl rfl rfl (val_len rfl Try.underlying39 rfl (len_own (k := 2) rfl)) ?_
          refine Gq.valg rfl rfl rfl rfl rfl (val_geq rfl rfl rfl) ?_
          refine Gq.val rfl rfl rfl (val_pickF rfl rfl rfl) ?_
          refine Gq.done ?_
          refine Gx.thenN ?_
          refine Gx.dec rfl (fun h10 => ?_) (fun h10 => ?_)
          · refine Gx.seq ?_
            refine Gx.region ?_
            refine Gx.val rfl rfl rfl (val_assign rfl rfl) ?_
            refine Gx.done ?_
            refine Gx.thenN ?_
            refine Gx.ret ?_
            refine Gx.thenR ?_
            refine Gx.blkR ?_
            refine Gx.thenR ?_
            refine Gx.front 4 rfl ?_
            refine Gx.front 4 rfl ?_
            refine Gx.front 4 rfl ?_
            refine Gx.front 4 rfl ?_
            refine Gx.sat (l' := [worldH S c s, Hp.rec_ b1 [.int .i64 kind, .int .i64 frm, .int .i64 to, .int .i64 what, .int .i64 msg, .int .i64 xn], R]) (fun w H => (worldH.shut (S := S) (c := c) (s := s) (pms := pms) (R := sep [Hp.rec_ b1 [.int .i64 kind, .int .i64 frm, .int .i64 to, .int .i64 what, .int .i64 msg, .int .i64 xn], R]) (hmap) (H.cast (by rw [sep4R] <;> rfl))).cast (by rw [sep1] <;> rfl)) ?_
            refine Gx.drop 1 rfl ?_
            refine Gx.norm (l' := [worldH S c s, R]) rfl ?_
            refine Gx.ret1 Try.results10 rfl ?_
            refine ⟨?_, ?_⟩
            · unfold stepB; rw [if_neg (by dsimp only; omega), if_neg (by dsimp only; omega), if_pos (by dsimp only; omega)]; rw [if_pos (by unfold isN; exact decide_eq_false (by dsimp only; omega))]
            · refine (sep1 _ _).trans ?_; unfold stepB; rw [if_neg (by dsimp only; omega), if_neg (by dsimp only; omega), if_pos (by dsimp only; omega)]; rw [if_pos (by unfold isN; exact decide_eq_false (by dsimp only; omega))]
          · refine Gx.skip ?_
            refine Gx.thenN ?_
            refine Gx.seq ?_
            refine Gx.seq ?_
            obtain ⟨mm, rfl⟩ := Int.eq_ofNat_of_zero_le (a := msg) (by omega)
            obtain ⟨m, hm⟩ := get_of_lt (xs := s.all) (k := mm) (by omega)
            refine Gx.regionQ Try.mixed (by kernel_rfl) ?_
            refine Gq.val rfl rfl rfl (val_move rfl rfl) ?_
            refine Gq.val rfl rfl rfl (val_nilCheck rfl rfl) ?_
            refine Gq.val rfl rfl rfl (Val.cast (val_fieldAddr rfl Try.underlying42 rfl Try.ty39 rfl rfl) (v' := ptr S 4) rfl) ?_
            refine Gq.val rfl rfl rfl (val_load rfl Try.ty39 rfl rfl (cell_rec (k := 1) rfl rfl)) ?_
            refine Gq.val rfl rfl rfl (Val.cast (val_fieldAddr rfl Try.underlying34 rfl Try.ty3 rfl rfl) (v' := ptr b1 4) rfl) ?_
            refine Gq.val rfl rfl rfl (val_load rfl Try.ty3 rfl rfl (cell_rec (k := 0) rfl rfl)) ?_
            refine Gq.val rfl rfl rfl (val_ixa rfl Try.underlying39 Try.ty48 rfl rfl (j := mm) (rfl) (reach_own (k := 2) rfl hm)) ?_
            refine Gq.val rfl rfl rfl (Val.cast (val_fieldAddr rfl Try.underlying48 rfl Try.ty4 rfl rfl) (v' := ptr (sB av) (sO av + mm * 5 + 4)) rfl) ?_
            refine Gq.val rfl rfl rfl (val_load rfl Try.ty4 rfl rfl (cell_own (i := 4) (k := 2) rfl hm rfl)) ?_
            refine Gq.done ?_
            refine Gx.thenN ?_
            refine Gx.bool rfl (fun h11 => ?_) (fun h11 => ?_)
            · refine Gx.seq ?_
              refine Gx.region ?_
              refine Gx.val rfl rfl rfl (val_assign rfl rfl) ?_
              refine Gx.done ?_
              refine Gx.thenN ?_
              refine Gx.ret ?_
              refine Gx.thenR ?_
              refine Gx.blkR ?_
              refine Gx.thenR ?_
              refine Gx.front 4 rfl ?_
              refine Gx.front 4 rfl ?_
              refine Gx.front 4 rfl ?_
              refine Gx.front 4 rfl ?_
              refine Gx.sat (l' := [worldH S c s, Hp.rec_ b1 [.int .i64 kind, .int .i64 frm, .int .i64 to, .int .i64 what, .int .i64 ((mm : Nat) : Int), .int .i64 xn], R]) (fun w H => (worldH.shut (S := S) (c := c) (s := s) (pms := pms) (R := sep [Hp.rec_ b1 [.int .i64 kind, .int .i64 frm, .int .i64 to, .int .i64 what, .int .i64 ((mm : Nat) : Int), .int .i64 xn], R]) (hmap) (H.cast (by rw [sep4R] <;> rfl))).cast (by rw [sep1] <;> rfl)) ?_
              refine Gx.drop 1 rfl ?_
              refine Gx.norm (l' := [worldH S c s, R]) rfl ?_
              refine Gx.ret1 Try.results10 rfl ?_
              refine ⟨?_, ?_⟩
              · unfold stepB; rw [if_neg (by dsimp only; omega), if_neg (by dsimp only; omega), if_pos (by dsimp only; omega)]; rw [if_neg (by unfold isN; rw [decide_eq_true (by dsimp only; omega)]; exact Bool.noConfusion)]; dsimp only [Int.toNat_natCast]; rw [hm]; dsimp only; rw [if_pos (by assumption)]
              · refine (sep1 _ _).trans ?_; unfold stepB; rw [if_neg (by dsimp only; omega), if_neg (by dsimp only; omega), if_pos (by dsimp only; omega)]; rw [if_neg (by unfold isN; rw [decide_eq_true (by dsimp only; omega)]; exact Bool.noConfusion)]; dsimp only [Int.toNat_natCast]; rw [hm]; dsimp only; rw [if_pos (by assumption)]
            · refine Gx.skip ?_
              refine Gx.thenN ?_
              refine Gx.seq ?_
              refine Gx.front 4 rfl ?_
              refine Gx.front 4 rfl ?_
              refine Gx.front 4 rfl ?_
              refine Gx.front 4 rfl ?_
              refine Gx.sat (l' := [worldH S c s, Hp.rec_ b1 [.int .i64 kind, .int .i64 frm, .int .i64 to, .int .i64 what, .int .i64 ((mm : Nat) : Int), .int .i64 xn], R]) (fun w H => (worldH.shut (S := S) (c := c) (s := s) (pms := pms) (R := sep [Hp.rec_ b1 [.int .i64 kind, .int .i64 frm, .int .i64 to, .int .i64 what, .int .i64 ((mm : Nat) : Int), .int .i64 xn], R]) (hmap) (H.cast (by rw [sep4R] <;> rfl))).cast (by rw [sep1] <;> rfl)) ?_
              refine Gx.region ?_
              refine Gx.val rfl rfl rfl (val_move rfl rfl) ?_
              refine Gx.val rfl rfl rfl (Val.cast (val_fieldAddr rfl Try.underlying34 rfl Try.ty3 rfl rfl) (v' := ptr b1 4) rfl) ?_
              refine Gx.val rfl rfl rfl (val_load rfl Try.ty3 rfl rfl (cell_rec (k := 1) rfl rfl)) ?_
              refine Gx.eff rfl rfl rfl (eff_call (vs := [ptr S 0, .int .i64 ((mm : Nat) : Int)]) rfl Try.fn19 rfl (fun w H => come_any (s := s) hm (by rw [bd.len]; exact (bd.msg _ (List.mem_of_getElem? hm)).1) (by have h7 := (bd.msg _ (List.mem_of_getElem? hm)).2.1; omega) (bd.msg _ (List.mem_of_getElem? hm)).2.2.2 (by rw [bd.len]; exact hn7) (by have h7 := bd.all_le; omega) hL hn7 hf7 (fun p hp => Nat.le_trans (bd.hl p hp) (Nat.le_trans (cameN_le _) (Nat.le_trans bd.all_le hT))) (H.at_ (k := 0) rfl))) ?_
              rintro _ l12 ⟨rfl, hl12⟩
              refine Gx.sepEq (l' := [worldH S c (comeB c s mm), Hp.rec_ b1 [.int .i64 kind, .int .i64 frm, .int .i64 to, .int .i64 what, .int .i64 ((mm : Nat) : Int), .int .i64 xn], R]) hl12 ?_
              refine Gx.done ?_
              refine Gx.thenN ?_
              refine Gx.seq ?_
              refine Gx.region ?_
              refine Gx.val rfl rfl rfl (val_assign rfl rfl) ?_
              refine Gx.done ?_
              refine Gx.thenN ?_
              refine Gx.ret ?_
              refine Gx.blkR ?_
              refine Gx.thenR ?_
              refine Gx.drop 1 rfl ?_
              refine Gx.norm (l' := [worldH S c (comeB c s mm), R]) rfl ?_
              refine Gx.ret1 Try.results10 rfl ?_
              refine ⟨?_, ?_⟩
              · unfold stepB; rw [if_neg (by dsimp only; omega), if_neg (by dsimp only; omega), if_pos (by dsimp only; omega)]; rw [if_neg (by unfold isN; rw [decide_eq_true (by dsimp only; omega)]; exact Bool.noConfusion)]; dsimp only [Int.toNat_natCast]; rw [hm]; dsimp only; rw [if_neg (by simpa using h11)]
              · refine (sep1 _ _).trans ?_; unfold stepB; rw [if_neg (by dsimp only; omega), if_neg (by dsimp only; omega), if_pos (by dsimp only; omega)]; rw [if_neg (by unfold isN; rw [decide_eq_true (by dsimp only; omega)]; exact Bool.noConfusion)]; dsimp only [Int.toNat_natCast]; rw [hm]; dsimp only; rw [if_neg (by simpa using h11)]
      · refine Gx.seq ?_
        refine Gx.region ?_
        refine Gx.val rfl rfl rfl (val_eql rfl rfl rfl) ?_
        refine Gx.val rfl rfl rfl (val_assign rfl rfl) ?_
        refine Gx.done ?_
        refine Gx.thenN ?_
        refine Gx.dec rfl (fun h13 => ?_) (fun h13 => ?_)
        · refine Gx.seq ?_
          refine Gx.seq ?_
          refine Gx.region ?_
          refine Gx.val rfl rfl rfl (val_assign rfl rfl) ?_
          refine Gx.done ?_
          refine Gx.thenN ?_
          refine Gx.block ?_
          refine Gx.front 5 rfl ?_
          refine Gx.front 1 rfl ?_
          refine Gx.front 5 rfl ?_
          refine Gx.front 5 rfl ?_
          refine Gx.front 5 rfl ?_
          refine Gx.front 5 rfl ?_
          refine Gx.loop (ι := Nat × BS × Value × Value × (List Pm)) (fun ξ => (ξ.1 ≤ 1000) ∧ (ξ.2.2.2.2.map Pm.p = ξ.2.1.ps) ∧ (BdB T c ξ.2.1) ∧ (allB c (2000 - ξ.1) ξ.2.1 ξ.1 = allB c 2000 s 0)) (fun ξ => [(0, ptr S 0), (3, ptr b1 0), (5, .int .i64 ((ξ.1 : Nat) : Int))]) (fun ξ => [Hp.rec_ S [.int .i64 ((c.n : Nat) : Int), .int .i64 ((c.f : Nat) : Int), .int .u32 ((c.L : Nat) : Int), .int .i64 ((c.snd : Nat) : Int), ξ.2.2.1, ξ.2.2.2.1, .bool ξ.2.1.st], Hp.own FG 5 ξ.2.2.1 ξ.2.1.all, Hp.own FR 5 ξ.2.2.2.1 ξ.2.2.2.2, Hp.big rowH ξ.2.2.2.2, Hp.rec_ b1 [.int .i64 kind, .int .i64 frm, .int .i64 to, .int .i64 what, .int .i64 msg, .int .i64 xn], R]) (fun ξ => 2000 - ξ.1) (0, s, av, pv, pms) ⟨Nat.zero_le _, hmap, bd, rfl⟩ ((.cons rfl (.cons rfl (.cons rfl .nil)))) rfl ?_
          rintro ⟨aa, zz, az, pz, pmz⟩ ⟨hat, hmz9, hbz, heq⟩
          dsimp only at hat hmz9 hbz heq
          refine Gx.know (m' := [(0, ptr S 0), (3, ptr b1 0), (5, .int .i64 ((aa : Nat) : Int))]) (.cons rfl (.cons rfl (.cons rfl .nil))) (Gx.norm (l' := [Hp.rec_ S [.int .i64 ((c.n : Nat) : Int), .int .i64 ((c.f : Nat) : Int), .int .u32 ((c.L : Nat) : Int), .int .i64 ((c.snd : Nat) : Int), az, pz, .bool zz.st], Hp.own FG 5 az zz.all, Hp.own FR 5 pz pmz, Hp.big rowH pmz, Hp.rec_ b1 [.int .i64 kind, .int .i64 frm, .int .i64 to, .int .i64 what, .int .i64 msg, .int .i64 xn], R]) rfl ?_)
          refine Gx.seq ?_
          refine Gx.seq ?_
          refine Gx.region ?_
          refine Gx.val rfl rfl rfl (val_move rfl rfl) ?_
          refine Gx.val rfl rfl rfl (val_move rfl rfl) ?_
          refine Gx.val rfl rfl rfl (val_nilCheck rfl rfl) ?_
          refine Gx.val rfl rfl rfl (Val.cast (val_fieldAddr rfl Try.underlying42 rfl Try.ty39 rfl rfl) (v' := ptr S 4) rfl) ?_
          refine Gx.val rfl rfl rfl (val_load rfl Try.ty39 rfl rfl (cell_rec (k := 0) rfl rfl)) ?_
          refine Gx.val rfl rfl rfl (val_len rfl Try.underlying39 rfl (len_own (k := 1) rfl)) ?_
          refine Gx.val rfl rfl rfl (val_lss rfl rfl rfl) ?_
          refine Gx.done ?_
          refine Gx.thenN ?_
          refine Gx.dec rfl (fun h14 => ?_) (fun h14 => ?_)
          · refine Gx.skip ?_
            refine Gx.thenN ?_
            refine Gx.seq ?_
            refine Gx.block ?_
            refine Gx.seq ?_
            obtain ⟨mz, hmz⟩ := get_of_lt (xs := zz.all) (k := aa) (by omega)
            refine Gx.region ?_
            refine Gx.val rfl rfl rfl (val_move rfl rfl) ?_
            refine Gx.val rfl rfl rfl (val_nilCheck rfl rfl) ?_
            refine Gx.val rfl rfl rfl (Val.cast (val_fieldAddr rfl Try.underlying42 rfl Try.ty39 rfl rfl) (v' := ptr S 4) rfl) ?_
            refine Gx.val rfl rfl rfl (val_load rfl Try.ty39 rfl rfl (cell_rec (k := 0) rfl rfl)) ?_
            refine Gx.val rfl rfl rfl (val_move rfl rfl) ?_
            refine Gx.val rfl rfl rfl (val_ixa rfl Try.underlying39 Try.ty48 rfl rfl (j := aa) (rfl) (reach_own (k := 1) rfl hmz)) ?_
            refine Gx.val rfl rfl rfl (Val.cast (val_fieldAddr rfl Try.underlying48 rfl Try.ty4 rfl rfl) (v' := ptr (sB az) (sO az + aa * 5 + 4)) rfl) ?_
            refine Gx.val rfl rfl rfl (val_load rfl Try.ty4 rfl rfl (cell_own (i := 4) (k := 1) rfl hmz rfl)) ?_
            refine Gx.val rfl rfl rfl (val_not rfl rfl) ?_
            refine Gx.done ?_
            refine Gx.thenN ?_
            refine Gx.bool rfl (fun h15 => ?_) (fun h15 => ?_)
            · refine Gx.front 3 rfl ?_
              refine Gx.front 3 rfl ?_
              refine Gx.front 3 rfl ?_
              refine Gx.front 3 rfl ?_
              refine Gx.sat (l' := [worldH S c zz, Hp.rec_ b1 [.int .i64 kind, .int .i64 frm, .int .i64 to, .int .i64 what, .int .i64 msg, .int .i64 xn], R]) (fun w H => (worldH.shut (S := S) (c := c) (s := zz) (pms := pmz) (R := sep [Hp.rec_ b1 [.int .i64 kind, .int .i64 frm, .int .i64 to, .int .i64 what, .int .i64 msg, .int .i64 xn], R]) hmz9 (H.cast (by rw [sep4R] <;> rfl))).cast (by rw [sep1] <;> rfl)) ?_
              refine Gx.region ?_
              refine Gx.val rfl rfl rfl (val_move rfl rfl) ?_
              refine Gx.val rfl rfl rfl (val_move rfl rfl) ?_
              refine Gx.eff rfl rfl rfl (eff_call (vs := [ptr S 0, .int .i64 ((aa : Nat) : Int)]) rfl Try.fn19 rfl (fun w H => come_any (s := zz) hmz (by rw [hbz.len]; exact (hbz.msg _ (List.mem_of_getElem? hmz)).1) (by have h7 := (hbz.msg _ (List.mem_of_getElem? hmz)).2.1; omega) (hbz.msg _ (List.mem_of_getElem? hmz)).2.2.2 (by rw [hbz.len]; exact hn7) (by have h7 := hbz.all_le; omega) hL hn7 hf7 (fun p hp => Nat.le_trans (hbz.hl p hp) (Nat.le_trans (cameN_le _) (Nat.le_trans hbz.all_le hT))) (H.at_ (k := 0) rfl))) ?_
              rintro _ l16 ⟨rfl, hl16⟩
              refine Gx.sepEq (l' := [worldH S c (comeB c zz aa), Hp.rec_ b1 [.int .i64 kind, .int .i64 frm, .int .i64 to, .int .i64 what, .int .i64 msg, .int .i64 xn], R]) hl16 ?_
              refine Gx.done ?_
              refine Gx.blkN ?_
              refine Gx.thenN ?_
              refine Gx.front 0 rfl ?_
              refine Gx.exists_ (α := {q : Value × Value × List Pm // q.2.2.map Pm.p = (comeB c zz aa).ps}) (l' := fun q => [Hp.rec_ S [.int .i64 ((c.n : Nat) : Int), .int .i64 ((c.f : Nat) : Int), .int .u32 ((c.L : Nat) : Int), .int .i64 ((c.snd : Nat) : Int), q.1.1, q.1.2.1, .bool ((comeB c zz aa).st)], Hp.own FG 5 q.1.1 ((comeB c zz aa).all), Hp.own FR 5 q.1.2.1 q.1.2.2, Hp.big rowH q.1.2.2, Hp.rec_ b1 [.int .i64 kind, .int .i64 frm, .int .i64 to, .int .i64 what, .int .i64 msg, .int .i64 xn], R]) (fun w H => ?_) ?_
              · obtain ⟨ay, py, pmy, h1, H⟩ := worldH.open_ (R := sep [Hp.rec_ b1 [.int .i64 kind, .int .i64 frm, .int .i64 to, .int .i64 what, .int .i64 msg, .int .i64 xn], R]) H
                exact ⟨⟨(ay, py, pmy), h1⟩, H.cast (by rw [sep4R]; rfl)⟩
              rintro ⟨⟨ay, py, pmy⟩, hmz2⟩
              dsimp only at hmz2
              refine Gx.norm (l' := [Hp.rec_ S [.int .i64 ((c.n : Nat) : Int), .int .i64 ((c.f : Nat) : Int), .int .u32 ((c.L : Nat) : Int), .int .i64 ((c.snd : Nat) : Int), ay, py, .bool ((comeB c zz aa).st)], Hp.own FG 5 ay ((comeB c zz aa).all), Hp.own FR 5 py pmy, Hp.big rowH pmy, Hp.rec_ b1 [.int .i64 kind, .int .i64 frm, .int .i64 to, .int .i64 what, .int .i64 msg, .int .i64 xn], R]) rfl ?_
              refine Gx.region ?_
              refine Gx.val rfl rfl rfl (val_move rfl rfl) ?_
              refine Gx.val rfl rfl rfl (val_add rfl rfl rfl (r := ((aa + 1 : Nat) : Int)) (w64 (by omega) (by omega))) ?_
              refine Gx.val rfl rfl rfl (val_assign rfl rfl) ?_
              refine Gx.done ?_
              refine Gx.thenN ?_
              exact Gx.round (aa + 1, (comeB c zz aa), ay, py, pmy) ⟨by have h5 := hbz.all_le; dsimp only; omega, hmz2, hbz.come hmz (by simpa using h15), by rw [← heq, allB_next hmz (by omega)]; rw [if_neg (by simpa using h15)]⟩ (by have h5 := hbz.all_le; dsimp only; omega) ((.cons rfl (.cons rfl (.cons rfl .nil)))) rfl
            · refine Gx.skip ?_
              refine Gx.blkN ?_
              refine Gx.thenN ?_
              refine Gx.region ?_
              refine Gx.val rfl rfl rfl (val_move rfl rfl) ?_
              refine Gx.val rfl rfl rfl (val_add rfl rfl rfl (r := ((aa + 1 : Nat) : Int)) (w64 (by omega) (by omega))) ?_
              refine Gx.val rfl rfl rfl (val_assign rfl rfl) ?_
              refine Gx.done ?_
              refine Gx.thenN ?_
              exact Gx.round (aa + 1, zz, az, pz, pmz) ⟨by have h5 := hbz.all_le; dsimp only; omega, hmz9, hbz, by rw [← heq, allB_next hmz (by omega)]; rw [if_pos (by simpa using h15)]⟩ (by have h5 := hbz.all_le; dsimp only; omega) ((.cons rfl (.cons rfl (.cons rfl .nil)))) rfl
          · refine Gx.exit ?_
            refine Gx.thenE ?_
            refine Gx.thenE ?_
            refine Gx.blkE ?_
            refine Gx.thenN ?_
            refine Gx.seq ?_
            refine Gx.region ?_
            refine Gx.val rfl rfl rfl (val_assign rfl rfl) ?_
            refine Gx.done ?_
            refine Gx.thenN ?_
            refine Gx.ret ?_
            refine Gx.blkR ?_
            refine Gx.thenR ?_
            refine Gx.front 3 rfl ?_
            refine Gx.front 3 rfl ?_
            refine Gx.front 3 rfl ?_
            refine Gx.front 3 rfl ?_
            refine Gx.sat (l' := [worldH S c zz, Hp.rec_ b1 [.int .i64 kind, .int .i64 frm, .int .i64 to, .int .i64 what, .int .i64 msg, .int .i64 xn], R]) (fun w H => (worldH.shut (S := S) (c := c) (s := zz) (pms := pmz) (R := sep [Hp.rec_ b1 [.int .i64 kind, .int .i64 frm, .int .i64 to, .int .i64 what, .int .i64 msg, .int .i64 xn], R]) hmz9 (H.cast (by rw [sep4R] <;> rfl))).cast (by rw [sep1] <;> rfl)) ?_
            have hz9 : zz = allB c 2000 s 0 := by rw [← heq]; exact (allB_end (by omega) _).symm
            refine Gx.drop 1 rfl ?_
            refine Gx.norm (l' := [worldH S c zz, R]) rfl ?_
            refine Gx.ret1 Try.results10 rfl ?_
            refine ⟨?_, ?_⟩
            · unfold stepB; rw [if_neg (by dsimp only; omega), if_neg (by dsimp only; omega), if_neg (by dsimp only; omega), if_pos (by dsimp only; omega)]; try rw [hz9]
            · refine (sep1 _ _).trans ?_; unfold stepB; rw [if_neg (by dsimp only; omega), if_neg (by dsimp only; omega), if_neg (by dsimp only; omega), if_pos (by dsimp only; omega)]; try rw [hz9]
        · refine Gx.skip ?_
          refine Gx.blkN ?_
          refine Gx.thenN ?_
          refine Gx.seq ?_
          refine Gx.region ?_
          refine Gx.val rfl rfl rfl (val_assign rfl rfl) ?_
          refine Gx.done ?_
          refine Gx.thenN ?_
          refine Gx.ret ?_
          refine Gx.front 4 rfl ?_
          refine Gx.front 4 rfl ?_
          refine Gx.front 4 rfl ?_
          refine Gx.front 4 rfl ?_
          refine Gx.sat (l' := [worldH S c s, Hp.rec_ b1 [.int .i64 kind, .int .i64 frm, .int .i64 to, .int .i64 what, .int .i64 msg, .int .i64 xn], R]) (fun w H => (worldH.shut (S := S) (c := c) (s := s) (pms := pms) (R := sep [Hp.rec_ b1 [.int .i64 kind, .int .i64 frm, .int .i64 to, .int .i64 what, .int .i64 msg, .int .i64 xn], R]) (hmap) (H.cast (by rw [sep4R] <;> rfl))).cast (by rw [sep1] <;> rfl)) ?_
          refine Gx.drop 1 rfl ?_
          refine Gx.norm (l' := [worldH S c s, R]) rfl ?_
          refine Gx.ret1 Try.results10 rfl ?_
          refine ⟨?_, ?_⟩
          · unfold stepB; rw [if_neg (by dsimp only; omega), if_neg (by dsimp only; omega), if_neg (by dsimp only; omega), if_neg (by dsimp only; omega)]
          · refine (sep1 _ _).trans ?_; unfold stepB; rw [if_neg (by dsimp only; omega), if_neg (by dsimp only; omega), if_neg (by dsimp only; omega), if_neg (by dsimp only; omega)]

end Go.Proofs.Ytbfcfekpfgpfbaa
