/- A step of the machine. The walks. No condition. -/
import Derived.Test.YtgfileonpoghmaaA4
namespace Go.Proofs.Ytgfileonpoghmaa
open Go.RowKit
set_option linter.unusedVariables false
set_option linter.unusedSimpArgs false
set_option maxRecDepth 100000

structure BdM (m n : Nat) (s : MS) : Prop where
  len : s.ps.length = n
  ps : ∀ (i : Nat) (p : Pq), s.ps[i]? = some p → p.n ≤ m ∧ p.key ≤ m ∧ p.yes ≤ m ∧ p.waits.length ≤ m ∧ ∀ j ∈ p.waits, j < n
  ins : s.ins.length ≤ m
  q : ∀ k x, x ∈ s.q k → x ≤ m
theorem BdM.zero (n : Nat) : BdM 0 n (ms0 n) := by
  refine ⟨by simp [ms0], fun i p h => ?_, Nat.le_refl _, fun k x h => by simp [ms0] at h⟩
  simp only [ms0, List.getElem?_replicate] at h; split at h
  · cases h; exact ⟨Nat.le_refl _, Nat.le_refl _, Nat.le_refl _, Nat.le_refl _, fun j hj => by simp at hj⟩
  · cases h
theorem BdM.wait {m n : Nat} {s : MS} (h : BdM m n s) : BdM (m + 1) n s :=
  ⟨h.len, fun i p hp => by obtain ⟨h1, h2, h3, h4, h5⟩ := h.ps i p hp; exact ⟨by omega, by omega, by omega, by omega, h5⟩, Nat.le_succ_of_le h.ins, fun k x hx => Nat.le_succ_of_le (h.q k x hx)⟩
theorem BdM.set {m n i : Nat} {s : MS} {p : Pq} (h : BdM m n s) (hp : p.n ≤ m ∧ p.key ≤ m ∧ p.yes ≤ m ∧ p.waits.length ≤ m ∧ ∀ j ∈ p.waits, j < n) : BdM m n { s with ps := s.ps.set i p } := by
  refine ⟨by rw [List.length_set]; exact h.len, fun j x hx => ?_, h.ins, h.q⟩
  by_cases e : i = j
  · subst e
    have hl := (List.getElem?_eq_some_iff.1 hx).1
    rw [List.length_set] at hl
    have hx : (s.ps.set i p)[i]? = some x := hx
    rw [List.getElem?_set_self hl] at hx; cases hx; exact hp
  · have hx : (s.ps.set i p)[j]? = some x := hx
    rw [List.getElem?_set_ne e] at hx; exact h.ps j x hx
theorem BdM.way {m n : Nat} {s : MS} {q : Wy} (h : BdM m n s) (hq : ∀ k x, x ∈ q k → x ≤ m) : BdM m n { s with q := q } := ⟨h.len, h.ps, h.ins, hq⟩
theorem sendW_mem {q : Wy} {i j x : Nat} {m : Nat} (hq : ∀ k y, y ∈ q k → y ≤ m) (hx : x ≤ m) : ∀ k y, y ∈ sendW q i j x k → y ≤ m := fun k y hy => by
  unfold sendW upW at hy
  split at hy
  · rcases List.mem_append.1 hy with h | h
    · exact hq _ y h
    · simp at h; omega
  · exact hq k y hy
theorem tellW_mem {q : Wy} {i x m : Nat} (hq : ∀ k y, y ∈ q k → y ≤ m) (hx : x ≤ m) : ∀ (j : Nat), ∀ k y, y ∈ tellW q i x j k → y ≤ m
  | 0 => hq
  | j + 1 => by
    unfold tellW
    split
    · exact tellW_mem hq hx j
    · exact sendW_mem (tellW_mem hq hx j) hx
theorem yesW_mem {i m : Nat} : ∀ (l : List Nat) {q : Wy}, (∀ k y, y ∈ q k → y ≤ m) → ∀ k y, y ∈ yesW q i l k → y ≤ m
  | [], q, hq => hq
  | j :: l, q, hq => yesW_mem l (sendW_mem hq (Nat.zero_le _))
theorem BdM.enter {m n i : Nat} {s : MS} (h : BdM m n s) : BdM (m + 1) n (enterM s i) := by
  unfold enterM
  split
  · rename_i p hp
    split
    · have h2 := h.wait
      have h3 := h2.set (i := i) (p := { p with how := 2 }) (h2.ps i p hp)
      exact ⟨h3.len, h3.ps, by show (s.ins ++ [i]).length ≤ m + 1; have := h.ins; simp; omega, h3.q⟩
    · exact h.wait
  · exact h.wait
theorem BdM.mono {m m' n : Nat} {s : MS} (h : BdM m n s) (hm : m ≤ m') : BdM m' n s :=
  ⟨h.len, fun i p hp => by obtain ⟨h1, h2, h3, h4, h5⟩ := h.ps i p hp; exact ⟨by omega, by omega, by omega, by omega, h5⟩, Nat.le_trans h.ins hm, fun k x hx => Nat.le_trans (h.q k x hx) hm⟩
theorem BdM.ask {m n i : Nat} {s : MS} (h : BdM m n s) : BdM (m + 2) n (askM s i).2 := by
  unfold askM
  split
  · rename_i p hp
    split
    · obtain ⟨h1, h2, h3, h4, h5⟩ := h.ps i p hp
      have h6 := (h.wait.set (i := i) (p := ⟨p.n + 1, 1, p.n + 1, 0, p.waits⟩) ⟨by simp; omega, by simp; omega, by simp, by simp; omega, h5⟩).way (q := tellW s.q i (p.n + 1) s.ps.length) (tellW_mem (fun k y hy => Nat.le_succ_of_le (h.q k y hy)) (by omega) _)
      exact h6.enter
    · exact h.mono (by omega)
  · exact h.mono (by omega)
theorem BdM.leave {m n i : Nat} {s : MS} (h : BdM m n s) : BdM (m + 2) n (leaveM s i).2 := by
  unfold leaveM
  split
  · rename_i p hp
    split
    · obtain ⟨h1, h2, h3, h4, h5⟩ := h.ps i p hp
      exact ((h.set (i := i) (p := { p with how := 0, waits := [] }) ⟨h1, h2, h3, Nat.zero_le _, fun j hj => by simp at hj⟩).way (q := yesW s.q i p.waits) (yesW_mem _ h.q)).mono (by omega)
    · exact h.mono (by omega)
  · exact h.mono (by omega)
theorem BdM.take {m n i frm : Nat} {s : MS} (h : BdM m n s) (hf : frm < n) : BdM (m + 2) n (takeM s i frm).2 := by
  unfold takeM
  split
  · exact h.mono (by omega)
  · rename_i x l hq
    have hx : x ≤ m := h.q _ x (by rw [hq]; simp)
    have hl : ∀ k y, y ∈ upW s.q (smN frm, smN i) l k → y ≤ m := fun k y hy => by
      unfold upW at hy
      split at hy
      · exact h.q (smN frm, smN i) y (by rw [hq]; simp [hy])
      · exact h.q k y hy
    split
    · exact h.mono (by omega)
    · rename_i p hp
      obtain ⟨h1, h2, h3, h4, h5⟩ := h.ps i p hp
      split
      · exact ((h.wait.set (i := i) (p := { p with yes := p.yes + 1 }) ⟨by simp; omega, by simp; omega, by simp; omega, by simp; omega, h5⟩).way (q := upW s.q (smN frm, smN i) l) (fun k y hy => Nat.le_succ_of_le (hl k y hy))).enter
      · split
        · refine ((h.wait.set (i := i) (p := { p with n := max p.n x, waits := p.waits ++ [frm] }) ⟨by simp; omega, by simp; omega, by simp; omega, by simp; omega, fun j hj => ?_⟩).way (q := upW s.q (smN frm, smN i) l) (fun k y hy => Nat.le_succ_of_le (hl k y hy))).mono (by omega)
          rcases List.mem_append.1 hj with g | g
          · exact h5 j g
          · simp at g; omega
        · exact ((h.set (i := i) (p := { p with n := max p.n x }) ⟨by simp; omega, h2, h3, h4, h5⟩).way (q := sendW (upW s.q (smN frm, smN i) l) i frm 0) (sendW_mem hl (Nat.zero_le _))).mono (by omega)
theorem isN_yes {n : Nat} {x : Int} (h : isN n x = true) : ∃ i : Nat, x = (i : Int) ∧ i < n := by
  unfold isN at h
  have := of_decide_eq_true h
  exact ⟨x.toNat, by omega, by omega⟩
theorem BdM.step {m n : Nat} {s : MS} (h : BdM m n s) (c : Mv) : BdM (m + 2) n (stepM s c).2 := by
  unfold stepM
  split
  · exact h.mono (by omega)
  · split
    · exact h.mono (by omega)
    · rename_i h1 h2
      split
      · exact h.ask
      · split
        · rename_i h4
          refine h.take ?_
          have h5 : isN s.ps.length c.frm = true := by
            cases e : isN s.ps.length c.frm
            · exact absurd (.inr ⟨h4, .inl e⟩) h2
            · rfl
          obtain ⟨j, e1, e2⟩ := isN_yes h5
          rw [h.len] at e2; rw [e1, Int.toNat_natCast]; exact e2
        · exact h.leave
theorem wayH.le {L L' mb : Nat} {q : Wy} (h : L ≤ L') : ∀ k, wayH L mb q k → wayH L' mb q k := by
  obtain ⟨d, rfl⟩ := Nat.exists_eq_add_of_le h
  clear h
  induction d with
  | zero => exact fun _ h => h
  | succ d ih => exact fun k hk => wayH.mono k (ih k hk)
theorem worldH.le {W w : World} {S L L' : Nat} {s : MS} {R : Hp} (h : L ≤ L') (H : Sat W w (worldH S L s * R)) : Sat W w (worldH S L' s * R) := by
  obtain ⟨pv, mb, iv, pms, h1, H⟩ := worldH.open_ H
  rw [← sep1]
  exact worldH.shut (pv := pv) (mb := mb) (iv := iv) h1 (((H.at_ (k := 3) rfl).mono (wayH.le h)).back (k := 3) rfl rfl)
theorem own_formM {W w : World} {α : Type} {f : α → List Value} {sz : Nat} {v : Value} {xs : List α} {R : Hp} (H : Sat W w (Hp.own f sz v xs * R)) : ∃ a c, v = .slice a xs.length c := by
  obtain ⟨a, c, e, _⟩ := H.ows.form; exact ⟨a, c, e⟩
theorem worldH.cell {W w : World} {S L : Nat} {s : MS} {R : Hp} (H : Sat W w (worldH S L s * R)) : S < w.heap.size ∧ ∃ a c, w.cell? ⟨S, 0, none⟩ = some (.slice a s.ps.length c) := by
  obtain ⟨pv, mb, iv, pms, h1, H⟩ := worldH.open_ H
  have H0 := H.at_ (k := 0) rfl
  obtain ⟨a, c, e⟩ := own_formM (H.at_ (k := 1) rfl)
  rw [show (pms.map Pm.b).length = s.ps.length from by rw [← h1, List.length_map, List.length_map]] at e
  exact ⟨H0.rec_.1, a, c, by rw [← e]; exact H0.cell 0 rfl⟩
theorem is_any {W : World} {b S : Nat} {a : Option Addr} {n c : Nat} (k : Int) (hb : b < W.heap.size) (hc : W.cell? ⟨b, 0, none⟩ = some (ptr S 0)) (hS : S < W.heap.size) (hcS : W.cell? ⟨S, 0, none⟩ = some (.slice a n c)) :
    Calls Try.prog 13 #[.int .i64 k, ptr b 0] W fun e w' => e = .returned (.bool (isN n k)) ∧ Below W.heap.size W w' := by
  refine calls_pure (Gx.enter (l := []) Try.func13 rfl Try.ntmps13 rfl (Sat.start W) ?_)
  refine Gx.know (m' := [(0, .int .i64 k), (1, ptr b 0)]) (.cons rfl (.cons rfl .nil)) ?_
  refine Gx.seq ?_
  refine Gx.region ?_
  refine Gx.val rfl rfl rfl (val_assign rfl rfl) ?_
  refine Gx.done ?_
  refine Gx.thenN ?_
  refine Gx.seq ?_
  refine Gx.region ?_
  refine Gx.val rfl rfl rfl (val_move rfl rfl) ?_
  refine Gx.val rfl rfl rfl (val_geq rfl rfl rfl) ?_
  refine Gx.val rfl rfl rfl (val_move rfl rfl) ?_
  refine Gx.cases (t := 6) rfl (fun h1 => ?_) (fun h1 => ?_)
  · refine Gx.valg rfl rfl rfl rfl rfl (val_move rfl rfl) ?_
    refine Gx.valg rfl rfl rfl rfl rfl (val_load rfl Try.ty39 rfl rfl (cell_old hb hc)) ?_
    refine Gx.valg rfl rfl rfl rfl rfl (val_nilCheck rfl rfl) ?_
    refine Gx.valg rfl rfl rfl rfl rfl (Val.cast (val_fieldAddr rfl Try.underlying43 rfl Try.ty41 rfl rfl) (v' := ptr S 0) rfl) ?_
    refine Gx.valg rfl rfl rfl rfl rfl (val_load rfl Try.ty41 rfl rfl (cell_old hS hcS)) ?_
    refine Gx.valg rfl rfl rfl rfl rfl (val_len rfl Try.underlying41 rfl len_lit) ?_
    refine Gx.valg rfl rfl rfl rfl rfl (val_lss rfl rfl rfl) ?_
    refine Gx.val rfl rfl rfl (val_pickT rfl rfl rfl) ?_
    refine Gx.val rfl rfl rfl (val_assign rfl rfl) ?_
    refine Gx.done ?_
    refine Gx.thenN ?_
    refine Gx.ret ?_
    refine Gx.ret1 Try.results13 rfl ?_
    exact congrArg Value.bool (by unfold isN; simp; try omega)
  · refine Gx.skipg rfl rfl rfl rfl rfl rfl ?_
    refine Gx.skipg rfl rfl rfl rfl rfl rfl ?_
    refine Gx.skipg rfl rfl rfl rfl rfl rfl ?_
    refine Gx.skipg rfl rfl rfl rfl rfl rfl ?_
    refine Gx.skipg rfl rfl rfl rfl rfl rfl ?_
    refine Gx.skipg rfl rfl rfl rfl rfl rfl ?_
    refine Gx.skipg rfl rfl rfl rfl rfl rfl ?_
    refine Gx.val rfl rfl rfl (val_pickF rfl rfl rfl) ?_
    refine Gx.val rfl rfl rfl (val_assign rfl rfl) ?_
    refine Gx.done ?_
    refine Gx.thenN ?_
    refine Gx.ret ?_
    refine Gx.ret1 Try.results13 rfl ?_
    exact congrArg Value.bool (by unfold isN; simp; try omega)

theorem is_world {W w : World} {b S L : Nat} {s : MS} {R : Hp} (k : Int) (hb : b < w.heap.size) (hc : w.cell? ⟨b, 0, none⟩ = some (ptr S 0)) (H : Sat W w (worldH S L s * R)) :
    Calls Try.prog 13 #[.int .i64 k, ptr b 0] w fun e w' => e = .returned (.bool (isN s.ps.length k)) ∧ Below w.heap.size w w' := by
  obtain ⟨h1, a, c, h2⟩ := worldH.cell H
  exact is_any k hb hc h1 h2
theorem step_kind {W w : World} {S L : Nat} {s : MS} {R : Hp} {kd x o : Int} (hk : kd < 1 ∨ 3 < kd) (H : Sat W w (worldH S L s * R)) :
    Calls Try.prog 11 #[ptr S 0, .agg #[.int .i64 kd, .int .i64 x, .int .i64 o]] w (Ret W fun v l => v = .int .i64 4 ∧ sep l = worldH S L s * R) := by
  refine Gx.enter (l := [worldH S L s, R]) Try.func11 rfl Try.ntmps11 rfl (H.frame1) ?_
  refine Gx.know (m' := [(0, ptr S 0), (1, .agg #[.int .i64 kd, .int .i64 x, .int .i64 o])]) (.cons rfl (.cons rfl .nil)) ?_
  refine Gx.seq ?_
  refine Gx.region ?_
  refine Gx.eff rfl rfl rfl (eff_box rfl rfl (vs := [ptr S 0]) rfl) ?_
  rintro _ _ ⟨b1, rfl, rfl⟩
  refine Gx.eff rfl rfl rfl (eff_box rfl rfl (vs := [.int .i64 kd, .int .i64 x, .int .i64 o]) rfl) ?_
  rintro _ _ ⟨b2, rfl, rfl⟩
  refine Gx.val rfl rfl rfl (val_assign rfl rfl) ?_
  refine Gx.done ?_
  refine Gx.thenN ?_
  refine Gx.seq ?_
  refine Gx.region ?_
  refine Gx.val rfl rfl rfl (Val.cast (val_makeFunc (us := []) (vs := [ptr b1 0]) rfl rfl rfl) (v' := .func (.func 13) #[] #[ptr b1 0]) rfl) ?_
  refine Gx.val rfl rfl rfl (val_assign rfl rfl) ?_
  refine Gx.done ?_
  refine Gx.thenN ?_
  refine Gx.seq ?_
  refine Gx.block ?_
  refine Gx.seq ?_
  refine Gx.region ?_
  refine Gx.val rfl rfl rfl (Val.cast (val_fieldAddr rfl Try.underlying34 rfl Try.ty3 rfl rfl) (v' := ptr b2 0) rfl) ?_
  refine Gx.val rfl rfl rfl (val_load rfl Try.ty3 rfl rfl (cell_rec (k := 0) rfl rfl)) ?_
  refine Gx.val rfl rfl rfl (val_lss rfl rfl rfl) ?_
  refine Gx.val rfl rfl rfl (val_move rfl rfl) ?_
  refine Gx.cases (t := 11) rfl (fun h3 => ?_) (fun h3 => ?_)
  · refine Gx.skipg rfl rfl rfl rfl rfl rfl ?_
    refine Gx.skipg rfl rfl rfl rfl rfl rfl ?_
    refine Gx.skipg rfl rfl rfl rfl rfl rfl ?_
    refine Gx.val rfl rfl rfl (val_pickT rfl rfl rfl) ?_
    refine Gx.val rfl rfl rfl (val_assign rfl rfl) ?_
    refine Gx.done ?_
    refine Gx.thenN ?_
    refine Gx.t rfl ?_
    refine Gx.seq ?_
    refine Gx.region ?_
    refine Gx.val rfl rfl rfl (val_assign rfl rfl) ?_
    refine Gx.done ?_
    refine Gx.thenN ?_
    refine Gx.ret ?_
    refine Gx.blkR ?_
    refine Gx.thenR ?_
    refine Gx.drop 1 rfl ?_
    refine Gx.drop 0 rfl ?_
    refine Gx.ret1 Try.results11 rfl ?_
    exact ⟨rfl, sep1 _ _⟩
  · refine Gx.valg rfl rfl rfl rfl rfl (Val.cast (val_fieldAddr rfl Try.underlying34 rfl Try.ty3 rfl rfl) (v' := ptr b2 0) rfl) ?_
    refine Gx.valg rfl rfl rfl rfl rfl (val_load rfl Try.ty3 rfl rfl (cell_rec (k := 0) rfl rfl)) ?_
    refine Gx.valg rfl rfl rfl rfl rfl (val_gtr rfl rfl rfl) ?_
    refine Gx.val rfl rfl rfl (val_pickF rfl rfl rfl) ?_
    refine Gx.val rfl rfl rfl (val_assign rfl rfl) ?_
    refine Gx.done ?_
    refine Gx.thenN ?_
    refine Gx.dec rfl (fun h4 => ?_) (fun h4 => ?_)
    · refine Gx.seq ?_
      refine Gx.region ?_
      refine Gx.val rfl rfl rfl (val_assign rfl rfl) ?_
      refine Gx.done ?_
      refine Gx.thenN ?_
      refine Gx.ret ?_
      refine Gx.blkR ?_
      refine Gx.thenR ?_
      refine Gx.drop 1 rfl ?_
      refine Gx.drop 0 rfl ?_
      refine Gx.ret1 Try.results11 rfl ?_
      exact ⟨rfl, sep1 _ _⟩
    · exfalso; omega

theorem step_arg {W w : World} {S L : Nat} {s : MS} {R : Hp} {kd x o : Int} (hk : ¬ (kd < 1 ∨ 3 < kd)) (hw : isN s.ps.length x = false ∨ (kd = 2 ∧ (isN s.ps.length o = false ∨ o = x))) (H : Sat W w (worldH S L s * R)) :
    Calls Try.prog 11 #[ptr S 0, .agg #[.int .i64 kd, .int .i64 x, .int .i64 o]] w (Ret W fun v l => v = .int .i64 2 ∧ sep l = worldH S L s * R) := by
  refine Gx.enter (l := [worldH S L s, R]) Try.func11 rfl Try.ntmps11 rfl (H.frame1) ?_
  refine Gx.know (m' := [(0, ptr S 0), (1, .agg #[.int .i64 kd, .int .i64 x, .int .i64 o])]) (.cons rfl (.cons rfl .nil)) ?_
  refine Gx.seq ?_
  refine Gx.region ?_
  refine Gx.eff rfl rfl rfl (eff_box rfl rfl (vs := [ptr S 0]) rfl) ?_
  rintro _ _ ⟨b1, rfl, rfl⟩
  refine Gx.eff rfl rfl rfl (eff_box rfl rfl (vs := [.int .i64 kd, .int .i64 x, .int .i64 o]) rfl) ?_
  rintro _ _ ⟨b2, rfl, rfl⟩
  refine Gx.val rfl rfl rfl (val_assign rfl rfl) ?_
  refine Gx.done ?_
  refine Gx.thenN ?_
  refine Gx.seq ?_
  refine Gx.region ?_
  refine Gx.val rfl rfl rfl (Val.cast (val_makeFunc (us := []) (vs := [ptr b1 0]) rfl rfl rfl) (v' := .func (.func 13) #[] #[ptr b1 0]) rfl) ?_
  refine Gx.val rfl rfl rfl (val_assign rfl rfl) ?_
  refine Gx.done ?_
  refine Gx.thenN ?_
  refine Gx.seq ?_
  refine Gx.block ?_
  refine Gx.seq ?_
  refine Gx.region ?_
  refine Gx.val rfl rfl rfl (Val.cast (val_fieldAddr rfl Try.underlying34 rfl Try.ty3 rfl rfl) (v' := ptr b2 0) rfl) ?_
  refine Gx.val rfl rfl rfl (val_load rfl Try.ty3 rfl rfl (cell_rec (k := 0) rfl rfl)) ?_
  refine Gx.val rfl rfl rfl (val_lss rfl rfl rfl) ?_
  refine Gx.val rfl rfl rfl (val_move rfl rfl) ?_
  refine Gx.slot (t := 11) (v := .bool false) (look_decF rfl (by omega)) ?_
  refine Gx.valg rfl rfl rfl rfl rfl (Val.cast (val_fieldAddr rfl Try.underlying34 rfl Try.ty3 rfl rfl) (v' := ptr b2 0) rfl) ?_
  refine Gx.valg rfl rfl rfl rfl rfl (val_load rfl Try.ty3 rfl rfl (cell_rec (k := 0) rfl rfl)) ?_
  refine Gx.valg rfl rfl rfl rfl rfl (val_gtr rfl rfl rfl) ?_
  refine Gx.val rfl rfl rfl (val_pickF rfl rfl rfl) ?_
  refine Gx.val rfl rfl rfl (val_assign rfl rfl) ?_
  refine Gx.done ?_
  refine Gx.thenN ?_
  refine Gx.decF rfl (by omega) ?_
  refine Gx.seq ?_
  refine Gx.region ?_
  refine Gx.val rfl rfl rfl (val_move rfl rfl) ?_
  refine Gx.val rfl rfl rfl (Val.cast (val_fieldAddr rfl Try.underlying34 rfl Try.ty3 rfl rfl) (v' := ptr b2 1) rfl) ?_
  refine Gx.val rfl rfl rfl (val_load rfl Try.ty3 rfl rfl (cell_rec (k := 0) rfl rfl)) ?_
  refine Gx.val rfl rfl rfl (val_callV (vs := [.int .i64 x]) (fs := []) (cs := [ptr b1 0]) rfl Try.fn13 rfl rfl (fun w H => is_world x (H.at_ (k := 1) rfl).rec_.1 ((H.at_ (k := 1) rfl).cell 0 rfl) (H.at_ (k := 2) rfl))) ?_
  refine Gx.val rfl rfl rfl (val_not rfl rfl) ?_
  refine Gx.val rfl rfl rfl (val_move rfl rfl) ?_
  refine Gx.casesB (t := 22) rfl (fun h3 => ?_) (fun h3 => ?_)
  · refine Gx.skipg rfl rfl rfl rfl rfl rfl ?_
    refine Gx.skipg rfl rfl rfl rfl rfl rfl ?_
    refine Gx.skipg rfl rfl rfl rfl rfl rfl ?_
    refine Gx.skipg rfl rfl rfl rfl rfl rfl ?_
    refine Gx.skipu rfl rfl rfl rfl rfl ?_
    refine Gx.skipu rfl rfl rfl rfl rfl ?_
    refine Gx.skipu rfl rfl rfl rfl rfl ?_
    refine Gx.skipu rfl rfl rfl rfl rfl ?_
    refine Gx.skipu rfl rfl rfl rfl rfl ?_
    refine Gx.skipu rfl rfl rfl rfl rfl ?_
    refine Gx.skipu rfl rfl rfl rfl rfl ?_
    refine Gx.skipu rfl rfl rfl rfl rfl ?_
    refine Gx.skipu rfl rfl rfl rfl rfl ?_
    refine Gx.skipu rfl rfl rfl rfl rfl ?_
    refine Gx.skipu rfl rfl rfl rfl rfl ?_
    refine Gx.skipu rfl rfl rfl rfl rfl ?_
    refine Gx.skipg rfl rfl rfl rfl rfl rfl ?_
    refine Gx.val rfl rfl rfl (val_pickT rfl rfl rfl) ?_
    refine Gx.val rfl rfl rfl (val_assign rfl rfl) ?_
    refine Gx.done ?_
    refine Gx.thenN ?_
    refine Gx.t rfl ?_
    refine Gx.seq ?_
    refine Gx.region ?_
    refine Gx.val rfl rfl rfl (val_assign rfl rfl) ?_
    refine Gx.done ?_
    refine Gx.thenN ?_
    refine Gx.ret ?_
    refine Gx.blkR ?_
    refine Gx.thenR ?_
    refine Gx.drop 1 rfl ?_
    refine Gx.drop 0 rfl ?_
    refine Gx.ret1 Try.results11 rfl ?_
    exact ⟨rfl, sep1 _ _⟩
  · refine Gx.valg rfl rfl rfl rfl rfl (Val.cast (val_fieldAddr rfl Try.underlying34 rfl Try.ty3 rfl rfl) (v' := ptr b2 0) rfl) ?_
    refine Gx.valg rfl rfl rfl rfl rfl (val_load rfl Try.ty3 rfl rfl (cell_rec (k := 0) rfl rfl)) ?_
    refine Gx.valg rfl rfl rfl rfl rfl (val_eql rfl rfl rfl) ?_
    refine Gx.valg rfl rfl rfl rfl rfl (val_move rfl rfl) ?_
    refine Gx.cases (t := 26) rfl (fun h4 => ?_) (fun h4 => ?_)
    · refine Gx.valg rfl rfl rfl rfl rfl (val_move rfl rfl) ?_
      refine Gx.valg rfl rfl rfl rfl rfl (Val.cast (val_fieldAddr rfl Try.underlying34 rfl Try.ty3 rfl rfl) (v' := ptr b2 2) rfl) ?_
      refine Gx.valg rfl rfl rfl rfl rfl (val_load rfl Try.ty3 rfl rfl (cell_rec (k := 0) rfl rfl)) ?_
      refine Gx.valg rfl rfl rfl rfl rfl (val_callV (vs := [.int .i64 o]) (fs := []) (cs := [ptr b1 0]) rfl Try.fn13 rfl rfl (fun w H => is_world o (H.at_ (k := 1) rfl).rec_.1 ((H.at_ (k := 1) rfl).cell 0 rfl) (H.at_ (k := 2) rfl))) ?_
      refine Gx.valg rfl rfl rfl rfl rfl (val_not rfl rfl) ?_
      refine Gx.valg rfl rfl rfl rfl rfl (val_move rfl rfl) ?_
      refine Gx.casesB (t := 32) rfl (fun h5 => ?_) (fun h5 => ?_)
      · refine Gx.skipg rfl rfl rfl rfl rfl rfl ?_
        refine Gx.skipg rfl rfl rfl rfl rfl rfl ?_
        refine Gx.skipg rfl rfl rfl rfl rfl rfl ?_
        refine Gx.skipg rfl rfl rfl rfl rfl rfl ?_
        refine Gx.skipg rfl rfl rfl rfl rfl rfl ?_
        refine Gx.valg rfl rfl rfl rfl rfl (val_pickT rfl rfl rfl) ?_
        refine Gx.valg rfl rfl rfl rfl rfl (val_pickT rfl rfl rfl) ?_
        refine Gx.val rfl rfl rfl (val_pickF rfl rfl rfl) ?_
        refine Gx.val rfl rfl rfl (val_assign rfl rfl) ?_
        refine Gx.done ?_
        refine Gx.thenN ?_
        refine Gx.t rfl ?_
        refine Gx.seq ?_
        refine Gx.region ?_
        refine Gx.val rfl rfl rfl (val_assign rfl rfl) ?_
        refine Gx.done ?_
        refine Gx.thenN ?_
        refine Gx.ret ?_
        refine Gx.blkR ?_
        refine Gx.thenR ?_
        refine Gx.drop 1 rfl ?_
        refine Gx.drop 0 rfl ?_
        refine Gx.ret1 Try.results11 rfl ?_
        exact ⟨rfl, sep1 _ _⟩
      · refine Gx.valg rfl rfl rfl rfl rfl (Val.cast (val_fieldAddr rfl Try.underlying34 rfl Try.ty3 rfl rfl) (v' := ptr b2 2) rfl) ?_
        refine Gx.valg rfl rfl rfl rfl rfl (val_load rfl Try.ty3 rfl rfl (cell_rec (k := 0) rfl rfl)) ?_
        refine Gx.valg rfl rfl rfl rfl rfl (Val.cast (val_fieldAddr rfl Try.underlying34 rfl Try.ty3 rfl rfl) (v' := ptr b2 1) rfl) ?_
        refine Gx.valg rfl rfl rfl rfl rfl (val_load rfl Try.ty3 rfl rfl (cell_rec (k := 0) rfl rfl)) ?_
        refine Gx.valg rfl rfl rfl rfl rfl (val_eql rfl rfl rfl) ?_
        refine Gx.valg rfl rfl rfl rfl rfl (val_pickF rfl rfl rfl) ?_
        refine Gx.valg rfl rfl rfl rfl rfl (val_pickT rfl rfl rfl) ?_
        refine Gx.val rfl rfl rfl (val_pickF rfl rfl rfl) ?_
        refine Gx.val rfl rfl rfl (val_assign rfl rfl) ?_
        refine Gx.done ?_
        refine Gx.thenN ?_
        refine Gx.dec rfl (fun h6 => ?_) (fun h6 => ?_)
        · refine Gx.seq ?_
          refine Gx.region ?_
          refine Gx.val rfl rfl rfl (val_assign rfl rfl) ?_
          refine Gx.done ?_
          refine Gx.thenN ?_
          refine Gx.ret ?_
          refine Gx.blkR ?_
          refine Gx.thenR ?_
          refine Gx.drop 1 rfl ?_
          refine Gx.drop 0 rfl ?_
          refine Gx.ret1 Try.results11 rfl ?_
          exact ⟨rfl, sep1 _ _⟩
        · exfalso
          rcases hw with h | ⟨h, h' | h'⟩ <;> simp_all
    · refine Gx.skipg rfl rfl rfl rfl rfl rfl ?_
      refine Gx.skipg rfl rfl rfl rfl rfl rfl ?_
      refine Gx.skipg rfl rfl rfl rfl rfl rfl ?_
      refine Gx.skipg rfl rfl rfl rfl rfl rfl ?_
      refine Gx.skipg rfl rfl rfl rfl rfl rfl ?_
      refine Gx.skipg rfl rfl rfl rfl rfl rfl ?_
      refine Gx.skipu rfl rfl rfl rfl rfl ?_
      refine Gx.skipu rfl rfl rfl rfl rfl ?_
      refine Gx.skipu rfl rfl rfl rfl rfl ?_
      refine Gx.skipu rfl rfl rfl rfl rfl ?_
      refine Gx.skipu rfl rfl rfl rfl rfl ?_
      refine Gx.skipg rfl rfl rfl rfl rfl rfl ?_
      refine Gx.valg rfl rfl rfl rfl rfl (val_pickF rfl rfl rfl) ?_
      refine Gx.val rfl rfl rfl (val_pickF rfl rfl rfl) ?_
      refine Gx.val rfl rfl rfl (val_assign rfl rfl) ?_
      refine Gx.done ?_
      refine Gx.thenN ?_
      refine Gx.f rfl ?_
      refine Gx.seq ?_
      exfalso
      rcases hw with h | ⟨h, h' | h'⟩ <;> simp_all

theorem step_ask {W w : World} {S L : Nat} {s : MS} {R : Hp} {i L2 : Nat} {o z : Int} {s2 : MS} (hi : isN s.ps.length ((i : Nat) : Int) = true)  (D : ∀ {W w : World} {R : Hp}, Sat W w (worldH S L s * R) → Calls Try.prog 14 #[ptr S 0, .int .i64 ((i : Nat) : Int)] w (Ret W fun v l => v = .int .i64 z ∧ sep l = worldH S L2 s2 * R)) (H : Sat W w (worldH S L s * R)) :
    Calls Try.prog 11 #[ptr S 0, .agg #[.int .i64 1, .int .i64 ((i : Nat) : Int), .int .i64 o]] w (Ret W fun v l => v = .int .i64 z ∧ sep l = worldH S L2 s2 * R) := by
  refine Gx.enter (l := [worldH S L s, R]) Try.func11 rfl Try.ntmps11 rfl (H.frame1) ?_
  refine Gx.know (m' := [(0, ptr S 0), (1, .agg #[.int .i64 1, .int .i64 ((i : Nat) : Int), .int .i64 o])]) (.cons rfl (.cons rfl .nil)) ?_
  refine Gx.seq ?_
  refine Gx.region ?_
  refine Gx.eff rfl rfl rfl (eff_box rfl rfl (vs := [ptr S 0]) rfl) ?_
  rintro _ _ ⟨b1, rfl, rfl⟩
  refine Gx.eff rfl rfl rfl (eff_box rfl rfl (vs := [.int .i64 1, .int .i64 ((i : Nat) : Int), .int .i64 o]) rfl) ?_
  rintro _ _ ⟨b2, rfl, rfl⟩
  refine Gx.val rfl rfl rfl (val_assign rfl rfl) ?_
  refine Gx.done ?_
  refine Gx.thenN ?_
  refine Gx.seq ?_
  refine Gx.region ?_
  refine Gx.val rfl rfl rfl (Val.cast (val_makeFunc (us := []) (vs := [ptr b1 0]) rfl rfl rfl) (v' := .func (.func 13) #[] #[ptr b1 0]) rfl) ?_
  refine Gx.val rfl rfl rfl (val_assign rfl rfl) ?_
  refine Gx.done ?_
  refine Gx.thenN ?_
  refine Gx.seq ?_
  refine Gx.block ?_
  refine Gx.seq ?_
  refine Gx.region ?_
  refine Gx.val rfl rfl rfl (Val.cast (val_fieldAddr rfl Try.underlying34 rfl Try.ty3 rfl rfl) (v' := ptr b2 0) rfl) ?_
  refine Gx.val rfl rfl rfl (val_load rfl Try.ty3 rfl rfl (cell_rec (k := 0) rfl rfl)) ?_
  refine Gx.val rfl rfl rfl (Val.cast (val_lss rfl rfl rfl) (v' := .bool false) rfl) ?_
  refine Gx.val rfl rfl rfl (val_move rfl rfl) ?_
  refine Gx.valg rfl rfl rfl rfl rfl (Val.cast (val_fieldAddr rfl Try.underlying34 rfl Try.ty3 rfl rfl) (v' := ptr b2 0) rfl) ?_
  refine Gx.valg rfl rfl rfl rfl rfl (val_load rfl Try.ty3 rfl rfl (cell_rec (k := 0) rfl rfl)) ?_
  refine Gx.valg rfl rfl rfl rfl rfl (Val.cast (val_gtr rfl rfl rfl) (v' := .bool false) rfl) ?_
  refine Gx.val rfl rfl rfl (val_pickF rfl rfl rfl) ?_
  refine Gx.val rfl rfl rfl (val_assign rfl rfl) ?_
  refine Gx.done ?_
  refine Gx.thenN ?_
  refine Gx.f rfl ?_
  refine Gx.seq ?_
  refine Gx.region ?_
  refine Gx.val rfl rfl rfl (val_move rfl rfl) ?_
  refine Gx.val rfl rfl rfl (Val.cast (val_fieldAddr rfl Try.underlying34 rfl Try.ty3 rfl rfl) (v' := ptr b2 1) rfl) ?_
  refine Gx.val rfl rfl rfl (val_load rfl Try.ty3 rfl rfl (cell_rec (k := 0) rfl rfl)) ?_
  refine Gx.val rfl rfl rfl (val_callV (vs := [.int .i64 ((i : Nat) : Int)]) (fs := []) (cs := [ptr b1 0]) rfl Try.fn13 rfl rfl (fun w H => is_world ((i : Nat) : Int) (H.at_ (k := 1) rfl).rec_.1 ((H.at_ (k := 1) rfl).cell 0 rfl) (H.at_ (k := 2) rfl))) ?_
  refine Gx.val rfl rfl rfl (val_not rfl rfl) ?_
  refine Gx.val rfl rfl rfl (val_move rfl rfl) ?_
  refine Gx.slot (t := 22) (v := .bool false) (look_boolF rfl (by rw [hi]; rfl)) ?_
  refine Gx.valg rfl rfl rfl rfl rfl (Val.cast (val_fieldAddr rfl Try.underlying34 rfl Try.ty3 rfl rfl) (v' := ptr b2 0) rfl) ?_
  refine Gx.valg rfl rfl rfl rfl rfl (val_load rfl Try.ty3 rfl rfl (cell_rec (k := 0) rfl rfl)) ?_
  refine Gx.valg rfl rfl rfl rfl rfl (Val.cast (val_eql rfl rfl rfl) (v' := .bool false) rfl) ?_
  refine Gx.valg rfl rfl rfl rfl rfl (val_move rfl rfl) ?_
  refine Gx.skipg rfl rfl rfl rfl rfl rfl ?_
  refine Gx.skipg rfl rfl rfl rfl rfl rfl ?_
  refine Gx.skipg rfl rfl rfl rfl rfl rfl ?_
  refine Gx.skipg rfl rfl rfl rfl rfl rfl ?_
  refine Gx.skipg rfl rfl rfl rfl rfl rfl ?_
  refine Gx.skipg rfl rfl rfl rfl rfl rfl ?_
  refine Gx.skipu rfl rfl rfl rfl rfl ?_
  refine Gx.skipu rfl rfl rfl rfl rfl ?_
  refine Gx.skipu rfl rfl rfl rfl rfl ?_
  refine Gx.skipu rfl rfl rfl rfl rfl ?_
  refine Gx.skipu rfl rfl rfl rfl rfl ?_
  refine Gx.skipg rfl rfl rfl rfl rfl rfl ?_
  refine Gx.valg rfl rfl rfl rfl rfl (val_pickF rfl rfl rfl) ?_
  refine Gx.val rfl rfl rfl (val_pickF rfl rfl rfl) ?_
  refine Gx.val rfl rfl rfl (val_assign rfl rfl) ?_
  refine Gx.done ?_
  refine Gx.thenN ?_
  refine Gx.f rfl ?_
  refine Gx.seq ?_
  refine Gx.region ?_
  refine Gx.val rfl rfl rfl (Val.cast (val_fieldAddr rfl Try.underlying34 rfl Try.ty3 rfl rfl) (v' := ptr b2 0) rfl) ?_
  refine Gx.val rfl rfl rfl (val_load rfl Try.ty3 rfl rfl (cell_rec (k := 0) rfl rfl)) ?_
  refine Gx.val rfl rfl rfl (Val.cast (val_eql rfl rfl rfl) (v' := .bool true) rfl) ?_
  refine Gx.val rfl rfl rfl (val_assign rfl rfl) ?_
  refine Gx.done ?_
  refine Gx.thenN ?_
  refine Gx.t rfl ?_
  refine Gx.seq ?_
  refine Gx.region ?_
  refine Gx.val rfl rfl rfl (val_load rfl Try.ty39 rfl rfl (cell_rec (k := 1) rfl rfl)) ?_
  refine Gx.val rfl rfl rfl (Val.cast (val_fieldAddr rfl Try.underlying34 rfl Try.ty3 rfl rfl) (v' := ptr b2 1) rfl) ?_
  refine Gx.val rfl rfl rfl (val_load rfl Try.ty3 rfl rfl (cell_rec (k := 0) rfl rfl)) ?_
  refine Gx.eff rfl rfl rfl (eff_call (vs := [ptr S 0, .int .i64 ((i : Nat) : Int)]) rfl Try.fn14 rfl (fun w H => D (H.at_ (k := 2) rfl))) ?_
  rintro _ l3 ⟨rfl, hl3⟩
  refine Gx.sepEq (l' := [worldH S L2 s2, Hp.rec_ b2 [.int .i64 1, .int .i64 ((i : Nat) : Int), .int .i64 o], Hp.rec_ b1 [ptr S 0], R]) hl3 ?_
  refine Gx.val rfl rfl rfl (val_assign rfl rfl) ?_
  refine Gx.done ?_
  refine Gx.thenN ?_
  refine Gx.ret ?_
  refine Gx.blkR ?_
  refine Gx.thenR ?_
  refine Gx.drop 2 rfl ?_
  refine Gx.drop 1 rfl ?_
  refine Gx.ret1 Try.results11 rfl ?_
  exact ⟨rfl, sep1 _ _⟩

theorem step_take {W w : World} {S L : Nat} {s : MS} {R : Hp} {i f L2 : Nat} {z : Int} {s2 : MS} (hi : isN s.ps.length ((i : Nat) : Int) = true) (hf : isN s.ps.length ((f : Nat) : Int) = true) (hne : f ≠ i) (D : ∀ {W w : World} {R : Hp}, Sat W w (worldH S L s * R) → Calls Try.prog 15 #[ptr S 0, .int .i64 ((i : Nat) : Int), .int .i64 ((f : Nat) : Int)] w (Ret W fun v l => v = .int .i64 z ∧ sep l = worldH S L2 s2 * R)) (H : Sat W w (worldH S L s * R)) :
    Calls Try.prog 11 #[ptr S 0, .agg #[.int .i64 2, .int .i64 ((i : Nat) : Int), .int .i64 ((f : Nat) : Int)]] w (Ret W fun v l => v = .int .i64 z ∧ sep l = worldH S L2 s2 * R) := by
  refine Gx.enter (l := [worldH S L s, R]) Try.func11 rfl Try.ntmps11 rfl (H.frame1) ?_
  refine Gx.know (m' := [(0, ptr S 0), (1, .agg #[.int .i64 2, .int .i64 ((i : Nat) : Int), .int .i64 ((f : Nat) : Int)])]) (.cons rfl (.cons rfl .nil)) ?_
  refine Gx.seq ?_
  refine Gx.region ?_
  refine Gx.eff rfl rfl rfl (eff_box rfl rfl (vs := [ptr S 0]) rfl) ?_
  rintro _ _ ⟨b1, rfl, rfl⟩
  refine Gx.eff rfl rfl rfl (eff_box rfl rfl (vs := [.int .i64 2, .int .i64 ((i : Nat) : Int), .int .i64 ((f : Nat) : Int)]) rfl) ?_
  rintro _ _ ⟨b2, rfl, rfl⟩
  refine Gx.val rfl rfl rfl (val_assign rfl rfl) ?_
  refine Gx.done ?_
  refine Gx.thenN ?_
  refine Gx.seq ?_
  refine Gx.region ?_
  refine Gx.val rfl rfl rfl (Val.cast (val_makeFunc (us := []) (vs := [ptr b1 0]) rfl rfl rfl) (v' := .func (.func 13) #[] #[ptr b1 0]) rfl) ?_
  refine Gx.val rfl rfl rfl (val_assign rfl rfl) ?_
  refine Gx.done ?_
  refine Gx.thenN ?_
  refine Gx.seq ?_
  refine Gx.block ?_
  refine Gx.seq ?_
  refine Gx.region ?_
  refine Gx.val rfl rfl rfl (Val.cast (val_fieldAddr rfl Try.underlying34 rfl Try.ty3 rfl rfl) (v' := ptr b2 0) rfl) ?_
  refine Gx.val rfl rfl rfl (val_load rfl Try.ty3 rfl rfl (cell_rec (k := 0) rfl rfl)) ?_
  refine Gx.val rfl rfl rfl (Val.cast (val_lss rfl rfl rfl) (v' := .bool false) rfl) ?_
  refine Gx.val rfl rfl rfl (val_move rfl rfl) ?_
  refine Gx.valg rfl rfl rfl rfl rfl (Val.cast (val_fieldAddr rfl Try.underlying34 rfl Try.ty3 rfl rfl) (v' := ptr b2 0) rfl) ?_
  refine Gx.valg rfl rfl rfl rfl rfl (val_load rfl Try.ty3 rfl rfl (cell_rec (k := 0) rfl rfl)) ?_
  refine Gx.valg rfl rfl rfl rfl rfl (Val.cast (val_gtr rfl rfl rfl) (v' := .bool false) rfl) ?_
  refine Gx.val rfl rfl rfl (val_pickF rfl rfl rfl) ?_
  refine Gx.val rfl rfl rfl (val_assign rfl rfl) ?_
  refine Gx.done ?_
  refine Gx.thenN ?_
  refine Gx.f rfl ?_
  refine Gx.seq ?_
  refine Gx.region ?_
  refine Gx.val rfl rfl rfl (val_move rfl rfl) ?_
  refine Gx.val rfl rfl rfl (Val.cast (val_fieldAddr rfl Try.underlying34 rfl Try.ty3 rfl rfl) (v' := ptr b2 1) rfl) ?_
  refine Gx.val rfl rfl rfl (val_load rfl Try.ty3 rfl rfl (cell_rec (k := 0) rfl rfl)) ?_
  refine Gx.val rfl rfl rfl (val_callV (vs := [.int .i64 ((i : Nat) : Int)]) (fs := []) (cs := [ptr b1 0]) rfl Try.fn13 rfl rfl (fun w H => is_world ((i : Nat) : Int) (H.at_ (k := 1) rfl).rec_.1 ((H.at_ (k := 1) rfl).cell 0 rfl) (H.at_ (k := 2) rfl))) ?_
  refine Gx.val rfl rfl rfl (val_not rfl rfl) ?_
  refine Gx.val rfl rfl rfl (val_move rfl rfl) ?_
  refine Gx.slot (t := 22) (v := .bool false) (look_boolF rfl (by rw [hi]; rfl)) ?_
  refine Gx.valg rfl rfl rfl rfl rfl (Val.cast (val_fieldAddr rfl Try.underlying34 rfl Try.ty3 rfl rfl) (v' := ptr b2 0) rfl) ?_
  refine Gx.valg rfl rfl rfl rfl rfl (val_load rfl Try.ty3 rfl rfl (cell_rec (k := 0) rfl rfl)) ?_
  refine Gx.valg rfl rfl rfl rfl rfl (Val.cast (val_eql rfl rfl rfl) (v' := .bool true) rfl) ?_
  refine Gx.valg rfl rfl rfl rfl rfl (val_move rfl rfl) ?_
  refine Gx.valg rfl rfl rfl rfl rfl (val_move rfl rfl) ?_
  refine Gx.valg rfl rfl rfl rfl rfl (Val.cast (val_fieldAddr rfl Try.underlying34 rfl Try.ty3 rfl rfl) (v' := ptr b2 2) rfl) ?_
  refine Gx.valg rfl rfl rfl rfl rfl (val_load rfl Try.ty3 rfl rfl (cell_rec (k := 0) rfl rfl)) ?_
  refine Gx.valg rfl rfl rfl rfl rfl (val_callV (vs := [.int .i64 ((f : Nat) : Int)]) (fs := []) (cs := [ptr b1 0]) rfl Try.fn13 rfl rfl (fun w H => is_world ((f : Nat) : Int) (H.at_ (k := 1) rfl).rec_.1 ((H.at_ (k := 1) rfl).cell 0 rfl) (H.at_ (k := 2) rfl))) ?_
  refine Gx.valg rfl rfl rfl rfl rfl (val_not rfl rfl) ?_
  refine Gx.valg rfl rfl rfl rfl rfl (val_move rfl rfl) ?_
  refine Gx.slot (t := 32) (v := .bool false) (look_boolF rfl (by rw [hf]; rfl)) ?_
  refine Gx.valg rfl rfl rfl rfl rfl (Val.cast (val_fieldAddr rfl Try.underlying34 rfl Try.ty3 rfl rfl) (v' := ptr b2 2) rfl) ?_
  refine Gx.valg rfl rfl rfl rfl rfl (val_load rfl Try.ty3 rfl rfl (cell_rec (k := 0) rfl rfl)) ?_
  refine Gx.valg rfl rfl rfl rfl rfl (Val.cast (val_fieldAddr rfl Try.underlying34 rfl Try.ty3 rfl rfl) (v' := ptr b2 1) rfl) ?_
  refine Gx.valg rfl rfl rfl rfl rfl (val_load rfl Try.ty3 rfl rfl (cell_rec (k := 0) rfl rfl)) ?_
  refine Gx.valg rfl rfl rfl rfl rfl (val_eql rfl rfl rfl) ?_
  refine Gx.valg rfl rfl rfl rfl rfl (val_pickF rfl rfl rfl) ?_
  refine Gx.valg rfl rfl rfl rfl rfl (val_pickT rfl rfl rfl) ?_
  refine Gx.val rfl rfl rfl (val_pickF rfl rfl rfl) ?_
  refine Gx.val rfl rfl rfl (val_assign rfl rfl) ?_
  refine Gx.done ?_
  refine Gx.thenN ?_
  refine Gx.decF rfl (by omega) ?_
  refine Gx.seq ?_
  refine Gx.region ?_
  refine Gx.val rfl rfl rfl (Val.cast (val_fieldAddr rfl Try.underlying34 rfl Try.ty3 rfl rfl) (v' := ptr b2 0) rfl) ?_
  refine Gx.val rfl rfl rfl (val_load rfl Try.ty3 rfl rfl (cell_rec (k := 0) rfl rfl)) ?_
  refine Gx.val rfl rfl rfl (Val.cast (val_eql rfl rfl rfl) (v' := .bool false) rfl) ?_
  refine Gx.val rfl rfl rfl (val_assign rfl rfl) ?_
  refine Gx.done ?_
  refine Gx.thenN ?_
  refine Gx.f rfl ?_
  refine Gx.seq ?_
  refine Gx.region ?_
  refine Gx.val rfl rfl rfl (Val.cast (val_fieldAddr rfl Try.underlying34 rfl Try.ty3 rfl rfl) (v' := ptr b2 0) rfl) ?_
  refine Gx.val rfl rfl rfl (val_load rfl Try.ty3 rfl rfl (cell_rec (k := 0) rfl rfl)) ?_
  refine Gx.val rfl rfl rfl (Val.cast (val_eql rfl rfl rfl) (v' := .bool true) rfl) ?_
  refine Gx.val rfl rfl rfl (val_assign rfl rfl) ?_
  refine Gx.done ?_
  refine Gx.thenN ?_
  refine Gx.t rfl ?_
  refine Gx.seq ?_
  refine Gx.region ?_
  refine Gx.val rfl rfl rfl (val_load rfl Try.ty39 rfl rfl (cell_rec (k := 1) rfl rfl)) ?_
  refine Gx.val rfl rfl rfl (Val.cast (val_fieldAddr rfl Try.underlying34 rfl Try.ty3 rfl rfl) (v' := ptr b2 1) rfl) ?_
  refine Gx.val rfl rfl rfl (val_load rfl Try.ty3 rfl rfl (cell_rec (k := 0) rfl rfl)) ?_
  refine Gx.val rfl rfl rfl (Val.cast (val_fieldAddr rfl Try.underlying34 rfl Try.ty3 rfl rfl) (v' := ptr b2 2) rfl) ?_
  refine Gx.val rfl rfl rfl (val_load rfl Try.ty3 rfl rfl (cell_rec (k := 0) rfl rfl)) ?_
  refine Gx.eff rfl rfl rfl (eff_call (vs := [ptr S 0, .int .i64 ((i : Nat) : Int), .int .i64 ((f : Nat) : Int)]) rfl Try.fn15 rfl (fun w H => D (H.at_ (k := 2) rfl))) ?_
  rintro _ l3 ⟨rfl, hl3⟩
  refine Gx.sepEq (l' := [worldH S L2 s2, Hp.rec_ b2 [.int .i64 2, .int .i64 ((i : Nat) : Int), .int .i64 ((f : Nat) : Int)], Hp.rec_ b1 [ptr S 0], R]) hl3 ?_
  refine Gx.val rfl rfl rfl (val_assign rfl rfl) ?_
  refine Gx.done ?_
  refine Gx.thenN ?_
  refine Gx.ret ?_
  refine Gx.blkR ?_
  refine Gx.thenR ?_
  refine Gx.drop 2 rfl ?_
  refine Gx.drop 1 rfl ?_
  refine Gx.ret1 Try.results11 rfl ?_
  exact ⟨rfl, sep1 _ _⟩

theorem step_leave {W w : World} {S L : Nat} {s : MS} {R : Hp} {i L2 : Nat} {o z : Int} {s2 : MS} (hi : isN s.ps.length ((i : Nat) : Int) = true)  (D : ∀ {W w : World} {R : Hp}, Sat W w (worldH S L s * R) → Calls Try.prog 16 #[ptr S 0, .int .i64 ((i : Nat) : Int)] w (Ret W fun v l => v = .int .i64 z ∧ sep l = worldH S L2 s2 * R)) (H : Sat W w (worldH S L s * R)) :
    Calls Try.prog 11 #[ptr S 0, .agg #[.int .i64 3, .int .i64 ((i : Nat) : Int), .int .i64 o]] w (Ret W fun v l => v = .int .i64 z ∧ sep l = worldH S L2 s2 * R) := by
  refine Gx.enter (l := [worldH S L s, R]) Try.func11 rfl Try.ntmps11 rfl (H.frame1) ?_
  refine Gx.know (m' := [(0, ptr S 0), (1, .agg #[.int .i64 3, .int .i64 ((i : Nat) : Int), .int .i64 o])]) (.cons rfl (.cons rfl .nil)) ?_
  refine Gx.seq ?_
  refine Gx.region ?_
  refine Gx.eff rfl rfl rfl (eff_box rfl rfl (vs := [ptr S 0]) rfl) ?_
  rintro _ _ ⟨b1, rfl, rfl⟩
  refine Gx.eff rfl rfl rfl (eff_box rfl rfl (vs := [.int .i64 3, .int .i64 ((i : Nat) : Int), .int .i64 o]) rfl) ?_
  rintro _ _ ⟨b2, rfl, rfl⟩
  refine Gx.val rfl rfl rfl (val_assign rfl rfl) ?_
  refine Gx.done ?_
  refine Gx.thenN ?_
  refine Gx.seq ?_
  refine Gx.region ?_
  refine Gx.val rfl rfl rfl (Val.cast (val_makeFunc (us := []) (vs := [ptr b1 0]) rfl rfl rfl) (v' := .func (.func 13) #[] #[ptr b1 0]) rfl) ?_
  refine Gx.val rfl rfl rfl (val_assign rfl rfl) ?_
  refine Gx.done ?_
  refine Gx.thenN ?_
  refine Gx.seq ?_
  refine Gx.block ?_
  refine Gx.seq ?_
  refine Gx.region ?_
  refine Gx.val rfl rfl rfl (Val.cast (val_fieldAddr rfl Try.underlying34 rfl Try.ty3 rfl rfl) (v' := ptr b2 0) rfl) ?_
  refine Gx.val rfl rfl rfl (val_load rfl Try.ty3 rfl rfl (cell_rec (k := 0) rfl rfl)) ?_
  refine Gx.val rfl rfl rfl (Val.cast (val_lss rfl rfl rfl) (v' := .bool false) rfl) ?_
  refine Gx.val rfl rfl rfl (val_move rfl rfl) ?_
  refine Gx.valg rfl rfl rfl rfl rfl (Val.cast (val_fieldAddr rfl Try.underlying34 rfl Try.ty3 rfl rfl) (v' := ptr b2 0) rfl) ?_
  refine Gx.valg rfl rfl rfl rfl rfl (val_load rfl Try.ty3 rfl rfl (cell_rec (k := 0) rfl rfl)) ?_
  refine Gx.valg rfl rfl rfl rfl rfl (Val.cast (val_gtr rfl rfl rfl) (v' := .bool false) rfl) ?_
  refine Gx.val rfl rfl rfl (val_pickF rfl rfl rfl) ?_
  refine Gx.val rfl rfl rfl (val_assign rfl rfl) ?_
  refine Gx.done ?_
  refine Gx.thenN ?_
  refine Gx.f rfl ?_
  refine Gx.seq ?_
  refine Gx.region ?_
  refine Gx.val rfl rfl rfl (val_move rfl rfl) ?_
  refine Gx.val rfl rfl rfl (Val.cast (val_fieldAddr rfl Try.underlying34 rfl Try.ty3 rfl rfl) (v' := ptr b2 1) rfl) ?_
  refine Gx.val rfl rfl rfl (val_load rfl Try.ty3 rfl rfl (cell_rec (k := 0) rfl rfl)) ?_
  refine Gx.val rfl rfl rfl (val_callV (vs := [.int .i64 ((i : Nat) : Int)]) (fs := []) (cs := [ptr b1 0]) rfl Try.fn13 rfl rfl (fun w H => is_world ((i : Nat) : Int) (H.at_ (k := 1) rfl).rec_.1 ((H.at_ (k := 1) rfl).cell 0 rfl) (H.at_ (k := 2) rfl))) ?_
  refine Gx.val rfl rfl rfl (val_not rfl rfl) ?_
  refine Gx.val rfl rfl rfl (val_move rfl rfl) ?_
  refine Gx.slot (t := 22) (v := .bool false) (look_boolF rfl (by rw [hi]; rfl)) ?_
  refine Gx.valg rfl rfl rfl rfl rfl (Val.cast (val_fieldAddr rfl Try.underlying34 rfl Try.ty3 rfl rfl) (v' := ptr b2 0) rfl) ?_
  refine Gx.valg rfl rfl rfl rfl rfl (val_load rfl Try.ty3 rfl rfl (cell_rec (k := 0) rfl rfl)) ?_
  refine Gx.valg rfl rfl rfl rfl rfl (Val.cast (val_eql rfl rfl rfl) (v' := .bool false) rfl) ?_
  refine Gx.valg rfl rfl rfl rfl rfl (val_move rfl rfl) ?_
  refine Gx.skipg rfl rfl rfl rfl rfl rfl ?_
  refine Gx.skipg rfl rfl rfl rfl rfl rfl ?_
  refine Gx.skipg rfl rfl rfl rfl rfl rfl ?_
  refine Gx.skipg rfl rfl rfl rfl rfl rfl ?_
  refine Gx.skipg rfl rfl rfl rfl rfl rfl ?_
  refine Gx.skipg rfl rfl rfl rfl rfl rfl ?_
  refine Gx.skipu rfl rfl rfl rfl rfl ?_
  refine Gx.skipu rfl rfl rfl rfl rfl ?_
  refine Gx.skipu rfl rfl rfl rfl rfl ?_
  refine Gx.skipu rfl rfl rfl rfl rfl ?_
  refine Gx.skipu rfl rfl rfl rfl rfl ?_
  refine Gx.skipg rfl rfl rfl rfl rfl rfl ?_
  refine Gx.valg rfl rfl rfl rfl rfl (val_pickF rfl rfl rfl) ?_
  refine Gx.val rfl rfl rfl (val_pickF rfl rfl rfl) ?_
  refine Gx.val rfl rfl rfl (val_assign rfl rfl) ?_
  refine Gx.done ?_
  refine Gx.thenN ?_
  refine Gx.f rfl ?_
  refine Gx.seq ?_
  refine Gx.region ?_
  refine Gx.val rfl rfl rfl (Val.cast (val_fieldAddr rfl Try.underlying34 rfl Try.ty3 rfl rfl) (v' := ptr b2 0) rfl) ?_
  refine Gx.val rfl rfl rfl (val_load rfl Try.ty3 rfl rfl (cell_rec (k := 0) rfl rfl)) ?_
  refine Gx.val rfl rfl rfl (Val.cast (val_eql rfl rfl rfl) (v' := .bool false) rfl) ?_
  refine Gx.val rfl rfl rfl (val_assign rfl rfl) ?_
  refine Gx.done ?_
  refine Gx.thenN ?_
  refine Gx.f rfl ?_
  refine Gx.seq ?_
  refine Gx.region ?_
  refine Gx.val rfl rfl rfl (Val.cast (val_fieldAddr rfl Try.underlying34 rfl Try.ty3 rfl rfl) (v' := ptr b2 0) rfl) ?_
  refine Gx.val rfl rfl rfl (val_load rfl Try.ty3 rfl rfl (cell_rec (k := 0) rfl rfl)) ?_
  refine Gx.val rfl rfl rfl (Val.cast (val_eql rfl rfl rfl) (v' := .bool false) rfl) ?_
  refine Gx.val rfl rfl rfl (val_assign rfl rfl) ?_
  refine Gx.done ?_
  refine Gx.thenN ?_
  refine Gx.f rfl ?_
  refine Gx.skip ?_
  refine Gx.blkN ?_
  refine Gx.thenN ?_
  refine Gx.seq ?_
  refine Gx.region ?_
  refine Gx.val rfl rfl rfl (val_load rfl Try.ty39 rfl rfl (cell_rec (k := 1) rfl rfl)) ?_
  refine Gx.val rfl rfl rfl (Val.cast (val_fieldAddr rfl Try.underlying34 rfl Try.ty3 rfl rfl) (v' := ptr b2 1) rfl) ?_
  refine Gx.val rfl rfl rfl (val_load rfl Try.ty3 rfl rfl (cell_rec (k := 0) rfl rfl)) ?_
  refine Gx.eff rfl rfl rfl (eff_call (vs := [ptr S 0, .int .i64 ((i : Nat) : Int)]) rfl Try.fn16 rfl (fun w H => D (H.at_ (k := 2) rfl))) ?_
  rintro _ l3 ⟨rfl, hl3⟩
  refine Gx.sepEq (l' := [worldH S L2 s2, Hp.rec_ b2 [.int .i64 3, .int .i64 ((i : Nat) : Int), .int .i64 o], Hp.rec_ b1 [ptr S 0], R]) hl3 ?_
  refine Gx.val rfl rfl rfl (val_assign rfl rfl) ?_
  refine Gx.done ?_
  refine Gx.thenN ?_
  refine Gx.ret ?_
  refine Gx.drop 2 rfl ?_
  refine Gx.drop 1 rfl ?_
  refine Gx.ret1 Try.results11 rfl ?_
  exact ⟨rfl, sep1 _ _⟩

abbrev mvV (c : Mv) : Value := .agg #[.int .i64 c.kind, .int .i64 c.who, .int .i64 c.frm]
theorem steps_same {W w : World} {S L : Nat} {s : MS} {c : Mv} {z : Int} {R : Hp} (h : stepM s c = (z, s)) (H : Calls Try.prog 11 #[ptr S 0, mvV c] w (Ret W fun v l => v = .int .i64 z ∧ sep l = worldH S L s * R)) :
    Calls Try.prog 11 #[ptr S 0, mvV c] w (Ret W fun v l => v = .int .i64 (stepM s c).1 ∧ sep l = worldH S (L + 300) (stepM s c).2 * R) :=
  H.mono fun e w' ⟨v, l, he, ⟨hv, hl⟩, H'⟩ => ⟨v, [worldH S (L + 300) s, R], he, ⟨by rw [h]; exact hv, by rw [h]; exact sep1 _ _⟩, (worldH.le (by omega) (H'.cast hl)).cast (sep1 _ _).symm⟩
theorem steps_to {W w : World} {S L L2 : Nat} {s s2 : MS} {c : Mv} {z : Int} {R : Hp} (h : stepM s c = (z, s2)) (hL : L2 ≤ L + 300) (H : Calls Try.prog 11 #[ptr S 0, mvV c] w (Ret W fun v l => v = .int .i64 z ∧ sep l = worldH S L2 s2 * R)) :
    Calls Try.prog 11 #[ptr S 0, mvV c] w (Ret W fun v l => v = .int .i64 (stepM s c).1 ∧ sep l = worldH S (L + 300) (stepM s c).2 * R) :=
  H.mono fun e w' ⟨v, l, he, ⟨hv, hl⟩, H'⟩ => ⟨v, [worldH S (L + 300) s2, R], he, ⟨by rw [h]; exact hv, by rw [h]; exact sep1 _ _⟩, (worldH.le hL (H'.cast hl)).cast (sep1 _ _).symm⟩
theorem askM_code {s : MS} {i : Nat} {p : Pq} (hp : s.ps[i]? = some p) : (p.how = 0 → (askM s i).1 = 0) ∧ (p.how ≠ 0 → askM s i = (6, s)) := by
  unfold askM; rw [hp]; dsimp only
  exact ⟨fun h => by rw [if_pos h], fun h => by rw [if_neg h]⟩
theorem leaveM_code {s : MS} {i : Nat} {p : Pq} (hp : s.ps[i]? = some p) : (p.how = 2 → (leaveM s i).1 = 0) ∧ (p.how ≠ 2 → leaveM s i = (6, s)) := by
  unfold leaveM; rw [hp]; dsimp only
  exact ⟨fun h => by rw [if_pos h], fun h => by rw [if_neg h]⟩
theorem step_any {W w : World} {S L m n : Nat} {s : MS} {R : Hp} (c : Mv) (hb : BdM m n s) (hn : n ≤ 6) (hm : m ≤ 250) (hL : L ≤ 40000) (H : Sat W w (worldH S L s * R)) :
    Calls Try.prog 11 #[ptr S 0, mvV c] w (Ret W fun v l => v = .int .i64 (stepM s c).1 ∧ sep l = worldH S (L + 300) (stepM s c).2 * R) := by
  have hln := hb.len
  have hin := hb.ins
  obtain ⟨kd, x, o⟩ := c
  by_cases hk : kd < 1 ∨ 3 < kd
  · exact steps_same (by unfold stepM; rw [if_pos hk]) (step_kind hk H)
  · by_cases ha : isN s.ps.length x = false ∨ (kd = 2 ∧ (isN s.ps.length o = false ∨ o = x))
    · exact steps_same (by unfold stepM; rw [if_neg hk, if_pos ha]) (step_arg hk ha H)
    · have hx : isN s.ps.length x = true := by
        cases e : isN s.ps.length x
        · exact absurd (.inl e) ha
        · rfl
      obtain ⟨i, rfl, hi⟩ := isN_yes hx
      obtain ⟨p, hp⟩ := get_of_lt (xs := s.ps) hi
      obtain ⟨b1, b2, b3, b4, b5⟩ := hb.ps i p hp
      rcases (show kd = 1 ∨ kd = 2 ∨ kd = 3 by omega) with rfl | rfl | rfl
      · have hst : stepM s ⟨1, i, o⟩ = askM s i := by unfold stepM; rw [if_neg hk, if_neg ha, if_pos rfl]; rfl
        obtain ⟨c1, c2⟩ := askM_code hp
        by_cases hw : p.how = 0
        · refine steps_to (z := 0) (L2 := L + s.ps.length) (hst.trans (Prod.ext (c1 hw) rfl)) (by omega) (step_ask hx (fun H => ask_yes hp (by omega) (by omega) (by omega) (by omega) (by omega) hw H) H)
        · refine steps_to (z := 6) (L2 := L) (hst.trans (Prod.ext (by rw [c2 hw]) rfl)) (by omega) (step_ask hx (fun H => ask_no hp (by omega) (by omega) (by omega) (by omega) (by omega) hw H) H)
      · have hf : isN s.ps.length o = true := by
          cases e : isN s.ps.length o
          · exact absurd (.inr ⟨rfl, .inl e⟩) ha
          · rfl
        obtain ⟨f, rfl, hfl⟩ := isN_yes hf
        have hne : f ≠ i := fun e => ha (.inr ⟨rfl, .inr (by rw [e])⟩)
        have hst : stepM s ⟨2, i, f⟩ = takeM s i f := by unfold stepM; rw [if_neg hk, if_neg ha, if_neg (by dsimp only; omega), if_pos rfl]; rfl
        obtain ⟨ik, hik⟩ : ∃ ik : Sm, ik.val = i := ⟨smN i, smN_val (by omega)⟩
        obtain ⟨fk, hfk⟩ : ∃ fk : Sm, fk.val = f := ⟨smN f, smN_val (by omega)⟩
        subst hik hfk
        have e1 := smN_self ik
        have e2 := smN_self fk
        cases hq : s.q (fk, ik) with
        | nil =>
          refine steps_to (z := 5) (L2 := L) (s2 := (takeM s ik.val fk.val).2) (hst.trans (Prod.ext (by unfold takeM; rw [e1, e2, hq]) rfl)) (by omega) (step_take hx hf hne (fun H => take_none hp (by omega) (by omega) (by omega) (by omega) (by omega) hq H) H)
        | cons y lr =>
          have hy : y ≤ m := hb.q (fk, ik) y (by rw [hq]; simp)
          have hc : (takeM s ik.val fk.val).1 = 0 := by
            unfold takeM; rw [e1, e2, hq]; dsimp only; rw [hp]; dsimp only
            split
            · rfl
            · split <;> rfl
          by_cases h0 : y = 0
          · exact steps_to (z := 0) (L2 := L + 1) (hst.trans (Prod.ext hc rfl)) (by omega) (step_take hx hf hne (fun H => take_yes hp (by omega) (by omega) (by omega) (by omega) (by omega) hq h0 H) H)
          · by_cases hd : p.how = 2 ∨ (p.how = 1 ∧ mineB p.key ik.val y fk.val = true)
            · exact steps_to (z := 0) (L2 := L + 1) (hst.trans (Prod.ext hc rfl)) (by omega) (step_take hx hf hne (fun H => take_wait hp (by omega) (by omega) (by omega) (by omega) (by omega) hq h0 (by omega) (by omega) (by omega) hd H) H)
            · exact steps_to (z := 0) (L2 := L + 1 + 1) (hst.trans (Prod.ext hc rfl)) (by omega) (step_take hx hf hne (fun H => take_answer hp (by omega) (by omega) (by omega) (by omega) (by omega) hq h0 (by omega) (by omega) hd H) H)
      · have hst : stepM s ⟨3, i, o⟩ = leaveM s i := by unfold stepM; rw [if_neg hk, if_neg ha, if_neg (by dsimp only; omega), if_neg (by dsimp only; omega)]; rfl
        obtain ⟨c1, c2⟩ := leaveM_code hp
        have hwt : ∀ j ∈ p.waits, j < 2048 := fun j hj => by have := b5 j hj; omega
        by_cases hw : p.how = 2
        · exact steps_to (z := 0) (L2 := L + p.waits.length) (hst.trans (Prod.ext (c1 hw) rfl)) (by omega) (step_leave hx (fun H => leave_yes hp (by omega) (by omega) (by omega) (by omega) (by omega) (by omega) hwt hw H) H)
        · exact steps_to (z := 6) (L2 := L) (hst.trans (Prod.ext (by rw [c2 hw]) rfl)) (by omega) (step_leave hx (fun H => leave_no hp (by omega) (by omega) (by omega) (by omega) (by omega) (by omega) hwt hw H) H)
end Go.Proofs.Ytgfileonpoghmaa
