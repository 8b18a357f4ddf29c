/- May needs be: by the program, and by the document. The walks. No condition. -/
import Derived.Test.YtplcflifofomjaaA1
namespace Go.Proofs.Ytplcflifofomjaa
open Go.RowKit
set_option linter.unusedVariables false
set_option linter.unusedSimpArgs false
set_option maxRecDepth 100000

structure SeenI (n : Int) (l : List Nd) (i : Nat) (ms : List (Nat × Nat)) : Prop where
  el : ∀ x ∈ l.take i, NdOk n x
  ds : (l.take i).Pairwise (fun x y => x.who ≠ y.who)
  yes : ∀ x ∈ l.take i, getM ms x.who.toNat = some 1
  no : ∀ k v, getM ms k = some v → ∃ x ∈ l.take i, x.who = ((k : Nat) : Int)
  len : ms.length ≤ i
theorem SeenI.zero (n : Int) (l : List Nd) : SeenI n l 0 [] := ⟨fun x hx => by simp at hx, by simp, fun x hx => by simp at hx, fun k v h => by simp [getM] at h, Nat.le_refl _⟩
theorem SeenI.one {n : Int} {l : List Nd} {i k v : Nat} {ms : List (Nat × Nat)} (h : SeenI n l i ms) (hk : getM ms k = some v) : v = 1 := by
  obtain ⟨x, hx, hw⟩ := h.no k v hk
  have := h.yes x hx
  rw [hw, Int.toNat_natCast, hk] at this; cases this; rfl
theorem mem_take_succ {α : Type} {l : List α} {i : Nat} {x y : α} (hx : l[i]? = some x) : y ∈ l.take (i + 1) ↔ y ∈ l.take i ∨ y = x := by
  rw [take_of hx, List.mem_append, List.mem_singleton]
theorem SeenI.next {n : Int} {l : List Nd} {i k : Nat} {x : Nd} {ms : List (Nat × Nat)} (h : SeenI n l i ms) (hx : l[i]? = some x) (hw : x.who = ((k : Nat) : Int)) (ok : NdOk n x) (hno : (getM ms k).getD 0 = 0) : SeenI n l (i + 1) (putM ms k ((getM ms k).getD 0 + 1)) := by
  have hnone : getM ms k = none := by
    cases e : getM ms k with
    | none => rfl
    | some v => have := h.one e; subst this; rw [e] at hno; simp at hno
  have hne : ∀ y ∈ l.take i, y.who ≠ x.who := fun y hy e => by
    have := h.yes y hy
    rw [e, hw, Int.toNat_natCast, hnone] at this; cases this
  refine ⟨fun y hy => ?_, ?_, fun y hy => ?_, fun q v hq => ?_, ?_⟩
  · rcases (mem_take_succ hx).1 hy with q | rfl
    · exact h.el y q
    · exact ok
  · rw [take_of hx, List.pairwise_append]
    exact ⟨h.ds, List.pairwise_singleton .., fun y hy z hz => by rw [List.mem_singleton] at hz; subst hz; exact hne y hy⟩
  · rw [getM_put, hnone]
    rcases (mem_take_succ hx).1 hy with q | rfl
    · have h1 := hne y q
      rw [if_neg (fun e => h1 (by have := (h.el y q).w0; rw [hw, e]; omega))]; exact h.yes y q
    · rw [hw, Int.toNat_natCast, if_pos rfl]; rfl
  · rw [getM_put] at hq
    split at hq
    · rename_i e; subst e; exact ⟨x, (mem_take_succ hx).2 (.inr rfl), hw⟩
    · obtain ⟨y, hy, h2⟩ := h.no q v hq
      exact ⟨y, (mem_take_succ hx).2 (.inl hy), h2⟩
  · rw [putM_length, hnone]; have := h.len; simp; omega
theorem isN_iff {n x : Int} : isN n x = true ↔ 0 ≤ x ∧ x < n := by unfold isN; exact decide_eq_true_iff
theorem lk_val (ms : List (Nat × Nat)) (m : Nat) : ((getM ms m).map natV).getD (Value.int .i64 0) = .int .i64 (((getM ms m).getD 0 : Nat) : Int) := by cases getM ms m <;> rfl
theorem check_any {W : World} {n : Int} {nv : Value} {l : List Nd} (h : NdS W nv l) : Calls Try.prog 17 #[.int .i64 n, nv] W fun e w' => ∃ v, e = .returned v ∧ (∃ c : Int, v = .int .i64 c ∧ (c = 0 ↔ OkN n l)) ∧ Below W.heap.size W w' := by
  have m1 := sls_bd h.sl
  refine calls_rel (R := fun v => ∃ c : Int, v = .int .i64 c ∧ (c = 0 ↔ OkN n l)) (Gx.enter (l := []) Try.func17 rfl Try.ntmps17 rfl (Sat.start W) ?_)
  refine Gx.know (m' := [(0, .int .i64 n), (1, nv)]) (.cons rfl (.cons rfl .nil)) ?_
  refine Gx.seq ?_
  refine Gx.region ?_
  refine Gx.eff rfl rfl rfl (eff_box rfl rfl (vs := [.int .i64 n]) rfl) ?_
  rintro _ _ ⟨b1, rfl, rfl⟩
  refine Gx.val rfl rfl rfl (val_assign rfl rfl) ?_
  refine Gx.done ?_
  refine Gx.thenN ?_
  refine Gx.seq ?_
  refine Gx.seq ?_
  refine Gx.region ?_
  refine Gx.val rfl rfl rfl (val_load rfl Try.ty3 rfl rfl (cell_rec (k := 0) rfl rfl)) ?_
  refine Gx.val rfl rfl rfl (val_lss rfl rfl rfl) ?_
  refine Gx.val rfl rfl rfl (val_move rfl rfl) ?_
  refine Gx.cases (t := 11) rfl (fun h2 => ?_) (fun h2 => ?_)
  · refine Gx.skipg rfl rfl rfl rfl rfl rfl ?_
    refine Gx.skipg rfl rfl rfl rfl rfl rfl ?_
    refine Gx.val rfl rfl rfl (val_pickT rfl rfl rfl) ?_
    refine Gx.val rfl rfl rfl (val_move rfl rfl) ?_
    refine Gx.skipg rfl rfl rfl rfl rfl rfl ?_
    refine Gx.skipg rfl rfl rfl rfl rfl rfl ?_
    refine Gx.skipg rfl rfl rfl rfl rfl rfl ?_
    refine Gx.skipg rfl rfl rfl rfl rfl rfl ?_
    refine Gx.val rfl rfl rfl (val_pickT rfl rfl rfl) ?_
    refine Gx.done ?_
    refine Gx.thenN ?_
    refine Gx.t rfl ?_
    refine Gx.seq ?_
    refine Gx.region ?_
    refine Gx.val rfl rfl rfl (val_assign rfl rfl) ?_
    refine Gx.done ?_
    refine Gx.thenN ?_
    refine Gx.ret ?_
    refine Gx.thenR ?_
    refine Gx.ret1 Try.results17 rfl ?_
    refine ⟨_, rfl, ⟨fun h => absurd h (by decide), fun hk => ?_⟩⟩
    exfalso
    have h1 := hk.n1; have h2 := hk.n12; have h3 := hk.len; omega
  · refine Gx.valg rfl rfl rfl rfl rfl (val_load rfl Try.ty3 rfl rfl (cell_rec (k := 0) rfl rfl)) ?_
    refine Gx.valg rfl rfl rfl rfl rfl (val_gtr rfl rfl rfl) ?_
    refine Gx.val rfl rfl rfl (val_pickF rfl rfl rfl) ?_
    refine Gx.val rfl rfl rfl (val_move rfl rfl) ?_
    refine Gx.cases (t := 15) rfl (fun h3 => ?_) (fun h3 => ?_)
    · refine Gx.skipg rfl rfl rfl rfl rfl rfl ?_
      refine Gx.skipg rfl rfl rfl rfl rfl rfl ?_
      refine Gx.skipg rfl rfl rfl rfl rfl rfl ?_
      refine Gx.skipg rfl rfl rfl rfl rfl rfl ?_
      refine Gx.val rfl rfl rfl (val_pickT rfl rfl rfl) ?_
      refine Gx.done ?_
      refine Gx.thenN ?_
      refine Gx.t rfl ?_
      refine Gx.seq ?_
      refine Gx.region ?_
      refine Gx.val rfl rfl rfl (val_assign rfl rfl) ?_
      refine Gx.done ?_
      refine Gx.thenN ?_
      refine Gx.ret ?_
      refine Gx.thenR ?_
      refine Gx.ret1 Try.results17 rfl ?_
      refine ⟨_, rfl, ⟨fun h => absurd h (by decide), fun hk => ?_⟩⟩
      exfalso
      have h1 := hk.n1; have h2 := hk.n12; have h3 := hk.len; omega
    · refine Gx.valg rfl rfl rfl rfl rfl (val_move rfl rfl) ?_
      refine Gx.valg rfl rfl rfl rfl rfl (val_len rfl Try.underlying22 rfl (len_base h.sl)) ?_
      refine Gx.valg rfl rfl rfl rfl rfl (val_load rfl Try.ty3 rfl rfl (cell_rec (k := 0) rfl rfl)) ?_
      refine Gx.valg rfl rfl rfl rfl rfl (val_gtr rfl rfl rfl) ?_
      refine Gx.val rfl rfl rfl (val_pickF rfl rfl rfl) ?_
      refine Gx.done ?_
      refine Gx.thenN ?_
      refine Gx.dec rfl (fun h4 => ?_) (fun h4 => ?_)
      · refine Gx.seq ?_
        refine Gx.region ?_
        refine Gx.val rfl rfl rfl (val_assign rfl rfl) ?_
        refine Gx.done ?_
        refine Gx.thenN ?_
        refine Gx.ret ?_
        refine Gx.thenR ?_
        refine Gx.ret1 Try.results17 rfl ?_
        refine ⟨_, rfl, ⟨fun h => absurd h (by decide), fun hk => ?_⟩⟩
        exfalso
        have h1 := hk.n1; have h2 := hk.n12; have h3 := hk.len; omega
      · refine Gx.skip ?_
        refine Gx.thenN ?_
        refine Gx.seq ?_
        have hn1 : 1 ≤ n ∧ n ≤ 12 ∧ (l.length : Int) ≤ n := by omega
        obtain ⟨hn1, hn12, hnl⟩ := hn1
        refine Gx.region ?_
        refine Gx.val rfl rfl rfl (Val.cast (val_makeFunc (us := []) (vs := [ptr b1 0]) rfl rfl rfl) (v' := .func (.func 24) #[] #[ptr b1 0]) rfl) ?_
        refine Gx.eff rfl rfl rfl (eff_alloc rfl Try.ty45 (vs := [.nilFunc]) rfl) ?_
        rintro _ _ ⟨b5, rfl, rfl⟩
        refine Gx.eff0 rfl rfl (eff_store rfl Try.ty45 rfl rfl (us := [.func (.func 24) #[] #[ptr b1 0]]) rfl rfl rfl (k := 0) rfl (rfl) (vs' := [.func (.func 24) #[] #[ptr b1 0]]) (rfl) (l' := [Hp.rec_ b5 [.func (.func 24) #[] #[ptr b1 0]], Hp.rec_ b1 [.int .i64 n]]) rfl) ?_
        rintro _ _ rfl
        refine Gx.done ?_
        refine Gx.thenN ?_
        refine Gx.seq ?_
        refine Gx.region ?_
        refine Gx.eff rfl rfl rfl (eff_makeMap 3 natL natV rfl) ?_
        rintro _ _ ⟨b6, rfl, rfl⟩
        refine Gx.val rfl rfl rfl (val_assign rfl rfl) ?_
        refine Gx.done ?_
        refine Gx.thenN ?_
        refine Gx.seq ?_
        refine Gx.seq ?_
        refine Gx.region ?_
        refine Gx.val rfl rfl rfl (val_move rfl rfl) ?_
        refine Gx.val rfl rfl rfl (val_len rfl Try.underlying22 rfl (len_base h.sl)) ?_
        refine Gx.val rfl rfl rfl (val_move rfl rfl) ?_
        refine Gx.done ?_
        refine Gx.thenN ?_
        refine Gx.block ?_
        refine Gx.loop (ι := Nat × (List (Nat × Nat))) (fun ξ => (ξ.1 ≤ l.length) ∧ (SeenI n l ξ.1 ξ.2)) (fun ξ => [(2, ptr b1 0), (5, ptr b5 0), (6, .map (some b6)), (23, nv), (24, .int .i64 ((l.length : Nat) : Int)), (25, .int .i64 ((ξ.1 : Nat) : Int))]) (fun ξ => [Hp.map Try.prog 3 natL natV b6 ξ.2, Hp.rec_ b5 [.func (.func 24) #[] #[ptr b1 0]], Hp.rec_ b1 [.int .i64 n]]) (fun ξ => l.length - ξ.1) (0, []) ⟨by first | omega | (dsimp only; omega), SeenI.zero n l⟩ ((.cons rfl (.cons rfl (.cons rfl (.cons rfl (.cons rfl (.cons rfl .nil))))))) rfl ?_
        rintro ⟨i, ms⟩ ⟨hi, hse⟩
        dsimp only at hi hse
        refine Gx.know (m' := [(2, ptr b1 0), (5, ptr b5 0), (6, .map (some b6)), (23, nv), (24, .int .i64 ((l.length : Nat) : Int)), (25, .int .i64 ((i : Nat) : Int))]) (.cons rfl (.cons rfl (.cons rfl (.cons rfl (.cons rfl (.cons rfl .nil)))))) (Gx.norm (l' := [Hp.map Try.prog 3 natL natV b6 ms, Hp.rec_ b5 [.func (.func 24) #[] #[ptr b1 0]], Hp.rec_ b1 [.int .i64 n]]) rfl ?_)
        refine Gx.seq ?_
        refine Gx.region ?_
        refine Gx.val rfl rfl rfl (val_lss rfl rfl rfl) ?_
        refine Gx.done ?_
        refine Gx.thenN ?_
        refine Gx.seq ?_
        refine Gx.dec rfl (fun h7 => ?_) (fun h7 => ?_)
        · refine Gx.skip ?_
          refine Gx.thenN ?_
          refine Gx.seq ?_
          refine Gx.block ?_
          refine Gx.seq ?_
          refine Gx.region ?_
          obtain ⟨x8, hx8⟩ := get_of_lt (xs := l) (k := i) (by omega)
          refine Gx.val rfl rfl rfl (val_ixa rfl Try.underlying22 Try.ty38 rfl rfl (j := i) (rfl) (reach_base h.sl hx8)) ?_
          refine Gx.val rfl rfl rfl (Val.cast (val_loadA rfl Try.ty38 rfl rfl rfl (cells_base h.sl hx8)) (v' := .agg #[.int .i64 x8.who, .bool x8.all, .slice x8.a x8.n x8.c]) rfl) ?_
          refine Gx.eff rfl rfl rfl (eff_alloc rfl Try.ty38 (vs := [.int .i64 0, .bool false, .slice none 0 0]) rfl) ?_
          rintro _ _ ⟨b9, rfl, rfl⟩
          refine Gx.eff0 rfl rfl (eff_store rfl Try.ty38 rfl rfl (us := [.int .i64 x8.who, .bool x8.all, .slice x8.a x8.n x8.c]) rfl rfl rfl (k := 0) rfl (rfl) (vs' := [.int .i64 x8.who, .bool x8.all, .slice x8.a x8.n x8.c]) (rfl) (l' := [Hp.rec_ b9 [.int .i64 x8.who, .bool x8.all, .slice x8.a x8.n x8.c], Hp.map Try.prog 3 natL natV b6 ms, Hp.rec_ b5 [.func (.func 24) #[] #[ptr b1 0]], Hp.rec_ b1 [.int .i64 n]]) rfl) ?_
          rintro _ _ rfl
          refine Gx.done ?_
          refine Gx.thenN ?_
          refine Gx.seq ?_
          refine Gx.block ?_
          refine Gx.seq ?_
          have hmem := List.mem_of_getElem? hx8
          have hfx := h.fr x8 hmem
          refine Gx.region ?_
          refine Gx.val rfl rfl rfl (Val.cast (val_fieldAddr rfl Try.underlying38 rfl Try.ty24 rfl rfl) (v' := ptr b9 2) rfl) ?_
          refine Gx.val rfl rfl rfl (val_load rfl Try.ty24 rfl rfl (cell_rec (k := 0) rfl rfl)) ?_
          refine Gx.val rfl rfl rfl (val_len rfl Try.underlying24 rfl (len_base hfx)) ?_
          refine Gx.val rfl rfl rfl (val_gtr rfl rfl rfl) ?_
          refine Gx.val rfl rfl rfl (val_assign rfl rfl) ?_
          refine Gx.done ?_
          refine Gx.thenN ?_
          refine Gx.dec rfl (fun h10 => ?_) (fun h10 => ?_)
          · refine Gx.seq ?_
            refine Gx.region ?_
            refine Gx.val rfl rfl rfl (val_assign rfl rfl) ?_
            refine Gx.done ?_
            refine Gx.thenN ?_
            refine Gx.ret ?_
            refine Gx.blkR ?_
            refine Gx.thenR ?_
            refine Gx.blkR ?_
            refine Gx.thenR ?_
            refine Gx.thenR ?_
            refine Gx.blkR ?_
            refine Gx.thenR ?_
            refine Gx.ret1 Try.results17 rfl ?_
            refine ⟨_, rfl, ⟨fun h => absurd h (by decide), fun hk => ?_⟩⟩
            exfalso
            have h1 := (hk.el x8 hmem).lt; omega
          · refine Gx.seq ?_
            refine Gx.region ?_
            refine Gx.val rfl rfl rfl (val_load rfl Try.ty45 rfl rfl (cell_rec (k := 2) rfl rfl)) ?_
            refine Gx.val rfl rfl rfl (Val.cast (val_fieldAddr rfl Try.underlying38 rfl Try.ty3 rfl rfl) (v' := ptr b9 0) rfl) ?_
            refine Gx.val rfl rfl rfl (val_load rfl Try.ty3 rfl rfl (cell_rec (k := 0) rfl rfl)) ?_
            refine Gx.val rfl rfl rfl (val_callV (vs := [.int .i64 x8.who]) (fs := []) (cs := [ptr b1 0]) rfl Try.fn24 rfl rfl (fun w H => is_any (H.at_ (k := 3) rfl).rec_.1 ((H.at_ (k := 3) rfl).cell 0 rfl))) ?_
            refine Gx.val rfl rfl rfl (val_not rfl rfl) ?_
            refine Gx.val rfl rfl rfl (val_move rfl rfl) ?_
            refine Gx.casesB (t := 40) rfl (fun h11 => ?_) (fun h11 => ?_)
            · refine Gx.skipg rfl rfl rfl rfl rfl rfl ?_
              refine Gx.skipg rfl rfl rfl rfl rfl rfl ?_
              refine Gx.skipg rfl rfl rfl rfl rfl rfl ?_
              refine Gx.skipg rfl rfl rfl rfl rfl rfl ?_
              refine Gx.val rfl rfl rfl (val_pickT rfl rfl rfl) ?_
              refine Gx.val rfl rfl rfl (val_assign rfl rfl) ?_
              refine Gx.done ?_
              refine Gx.thenN ?_
              refine Gx.t rfl ?_
              refine Gx.seq ?_
              refine Gx.region ?_
              refine Gx.val rfl rfl rfl (val_assign rfl rfl) ?_
              refine Gx.done ?_
              refine Gx.thenN ?_
              refine Gx.ret ?_
              refine Gx.blkR ?_
              refine Gx.thenR ?_
              refine Gx.blkR ?_
              refine Gx.thenR ?_
              refine Gx.thenR ?_
              refine Gx.blkR ?_
              refine Gx.thenR ?_
              refine Gx.ret1 Try.results17 rfl ?_
              refine ⟨_, rfl, ⟨fun h => absurd h (by decide), fun hk => ?_⟩⟩
              exfalso
              have h1 := hk.el x8 hmem
              have hq1 : isN n x8.who = true := isN_iff.2 ⟨h1.w0, h1.w1⟩
              have hq2 : (x8.fr.any fun k => !isN n k) = false := List.any_eq_false.2 fun k hk => by rw [isN_iff.2 (h1.fr k hk)]; decide
              simp_all
            · refine Gx.valg rfl rfl rfl rfl rfl (Val.cast (val_fieldAddr rfl Try.underlying38 rfl Try.ty24 rfl rfl) (v' := ptr b9 2) rfl) ?_
              refine Gx.valg rfl rfl rfl rfl rfl (val_load rfl Try.ty24 rfl rfl (cell_rec (k := 0) rfl rfl)) ?_
              refine Gx.valg rfl rfl rfl rfl rfl (Val.cast (val_makeFunc (us := []) (vs := [ptr b5 0]) rfl rfl rfl) (v' := .func (.func 25) #[] #[ptr b5 0]) rfl) ?_
              refine Gx.valg rfl rfl rfl rfl rfl (val_call (vs := [.slice x8.a x8.n x8.c, .func (.func 25) #[] #[ptr b5 0]]) rfl Try.fn21 rfl (fun w H => contains_any25 (q := fun k => !isN n k) (hfx.below H.below) (fun w' hb x hx => isnt_any (Nat.lt_of_lt_of_le (H.at_ (k := 2) rfl).rec_.1 hb.size) ((hb.cell (p := ⟨b5, 0, none⟩) (H.at_ (k := 2) rfl).rec_.1).trans ((H.at_ (k := 2) rfl).cell 0 rfl)) (Nat.lt_of_lt_of_le (H.at_ (k := 3) rfl).rec_.1 hb.size) ((hb.cell (p := ⟨b1, 0, none⟩) (H.at_ (k := 3) rfl).rec_.1).trans ((H.at_ (k := 3) rfl).cell 0 rfl))))) ?_
              refine Gx.val rfl rfl rfl (val_pickF rfl rfl rfl) ?_
              refine Gx.val rfl rfl rfl (val_assign rfl rfl) ?_
              refine Gx.done ?_
              refine Gx.thenN ?_
              refine Gx.bool rfl (fun h12 => ?_) (fun h12 => ?_)
              · refine Gx.seq ?_
                refine Gx.region ?_
                refine Gx.val rfl rfl rfl (val_assign rfl rfl) ?_
                refine Gx.done ?_
                refine Gx.thenN ?_
                refine Gx.ret ?_
                refine Gx.blkR ?_
                refine Gx.thenR ?_
                refine Gx.blkR ?_
                refine Gx.thenR ?_
                refine Gx.thenR ?_
                refine Gx.blkR ?_
                refine Gx.thenR ?_
                refine Gx.ret1 Try.results17 rfl ?_
                refine ⟨_, rfl, ⟨fun h => absurd h (by decide), fun hk => ?_⟩⟩
                exfalso
                have h1 := hk.el x8 hmem
                have hq1 : isN n x8.who = true := isN_iff.2 ⟨h1.w0, h1.w1⟩
                have hq2 : (x8.fr.any fun k => !isN n k) = false := List.any_eq_false.2 fun k hk => by rw [isN_iff.2 (h1.fr k hk)]; decide
                simp_all
              · refine Gx.skip ?_
                refine Gx.blkN ?_
                refine Gx.thenN ?_
                refine Gx.seq ?_
                have hok : NdOk n x8 := by
                  have hq1 : isN n x8.who = true := by simp_all
                  have hq2 : (x8.fr.any fun k => !isN n k) = false := by simp_all
                  refine ⟨by omega, (isN_iff.1 hq1).1, (isN_iff.1 hq1).2, fun k hk => ?_⟩
                  have h8 := List.any_eq_false.1 hq2 k hk
                  exact isN_iff.1 (by simpa using h8)
                obtain ⟨wq, hwq⟩ : ∃ wq : Nat, x8.who = (wq : Int) := ⟨x8.who.toNat, by have := hok.w0; omega⟩
                have hwn : wq < 12 := by have := hok.w1; omega
                obtain ⟨cw, hcw9⟩ : ∃ cw, cw = (getM ms wq).getD 0 := ⟨_, rfl⟩
                have hcw1 : cw ≤ 1 := by
                  rw [hcw9]; cases e : getM ms wq with
                  | none => simp
                  | some v => have := hse.one e; subst this; simp
                have hsl := hse.len
                refine Gx.norm (l' := [Hp.rec_ b9 [.int .i64 ((wq : Nat) : Int), .bool x8.all, .slice x8.a x8.n x8.c], Hp.map Try.prog 3 natL natV b6 ms, Hp.rec_ b5 [.func (.func 24) #[] #[ptr b1 0]], Hp.rec_ b1 [.int .i64 n]]) (by rw [hwq] <;> rfl) ?_
                refine Gx.region ?_
                refine Gx.val rfl rfl rfl (val_move rfl rfl) ?_
                refine Gx.val rfl rfl rfl (Val.cast (val_fieldAddr rfl Try.underlying38 rfl Try.ty3 rfl rfl) (v' := ptr b9 0) rfl) ?_
                refine Gx.val rfl rfl rfl (val_load rfl Try.ty3 rfl rfl (cell_rec (k := 0) rfl rfl)) ?_
                refine Gx.val rfl rfl rfl (val_lookup1 rfl Try.underlying48 Try.kN Try.ty3 rfl rfl (i := wq) (by omega) (k := 1) rfl (r := .int .i64 ((cw : Nat) : Int)) (by rw [hcw9]; exact lk_val ms wq)) ?_
                refine Gx.val rfl rfl rfl (val_add rfl rfl rfl (r := ((cw + 1 : Nat) : Int)) (w64 (by omega) (by omega))) ?_
                refine Gx.eff0 rfl rfl (eff_mapUpdate (vf := natV) rfl Try.underlying48 Try.kN natK rfl rfl rfl (i := wq) (r := (cw + 1)) (by omega) (k := 1) rfl (by unfold maxLen; omega) (l' := [Hp.rec_ b9 [.int .i64 ((wq : Nat) : Int), .bool x8.all, .slice x8.a x8.n x8.c], Hp.map Try.prog 3 natL natV b6 (putM ms wq (cw + 1)), Hp.rec_ b5 [.func (.func 24) #[] #[ptr b1 0]], Hp.rec_ b1 [.int .i64 n]]) rfl) ?_
                rintro _ _ rfl
                refine Gx.done ?_
                refine Gx.thenN ?_
                refine Gx.seq ?_
                refine Gx.region ?_
                refine Gx.val rfl rfl rfl (val_move rfl rfl) ?_
                refine Gx.val rfl rfl rfl (Val.cast (val_fieldAddr rfl Try.underlying38 rfl Try.ty3 rfl rfl) (v' := ptr b9 0) rfl) ?_
                refine Gx.val rfl rfl rfl (val_load rfl Try.ty3 rfl rfl (cell_rec (k := 0) rfl rfl)) ?_
                refine Gx.val rfl rfl rfl (val_lookup1 rfl Try.underlying48 Try.kN Try.ty3 rfl rfl (i := wq) (by omega) (k := 1) rfl (r := .int .i64 ((cw + 1 : Nat) : Int)) (by rw [getM_put, if_pos rfl]; rfl)) ?_
                refine Gx.val rfl rfl rfl (val_gtr rfl rfl rfl) ?_
                refine Gx.done ?_
                refine Gx.thenN ?_
                refine Gx.dec rfl (fun h13 => ?_) (fun h13 => ?_)
                · refine Gx.seq ?_
                  refine Gx.region ?_
                  refine Gx.val rfl rfl rfl (val_assign rfl rfl) ?_
                  refine Gx.done ?_
                  refine Gx.thenN ?_
                  refine Gx.ret ?_
                  refine Gx.blkR ?_
                  refine Gx.thenR ?_
                  refine Gx.thenR ?_
                  refine Gx.blkR ?_
                  refine Gx.thenR ?_
                  refine Gx.ret1 Try.results17 rfl ?_
                  refine ⟨_, rfl, ⟨fun h => absurd h (by decide), fun hk => ?_⟩⟩
                  exfalso
                  have h9 : getM ms wq ≠ none := fun e => by rw [e] at hcw9; simp at hcw9; omega
                  cases e9 : getM ms wq with
                  | none => exact h9 e9
                  | some v =>
                    obtain ⟨y, hy, hyw⟩ := hse.no wq v e9
                    obtain ⟨j, hj⟩ := List.getElem?_of_mem hy
                    rw [List.getElem?_take] at hj
                    split at hj
                    · obtain ⟨j1, j2⟩ := List.getElem?_eq_some_iff.1 hj
                      obtain ⟨j3, j4⟩ := List.getElem?_eq_some_iff.1 hx8
                      exact (List.pairwise_iff_getElem.1 hk.dist) j i j1 j3 (by assumption) (by rw [j2, j4, hyw, hwq])
                    · cases hj
                · refine Gx.skip ?_
                  refine Gx.blkN ?_
                  refine Gx.thenN ?_
                  have hcw : (getM ms wq).getD 0 = 0 := by omega
                  refine Gx.norm (l' := [Hp.rec_ b9 [.int .i64 ((wq : Nat) : Int), .bool x8.all, .slice x8.a x8.n x8.c], Hp.map Try.prog 3 natL natV b6 (putM ms wq ((getM ms wq).getD 0 + 1)), Hp.rec_ b5 [.func (.func 24) #[] #[ptr b1 0]], Hp.rec_ b1 [.int .i64 n]]) (by rw [← hcw9] <;> rfl) ?_
                  refine Gx.region ?_
                  refine Gx.val rfl rfl rfl (val_add rfl rfl rfl (r := ((i + 1 : Nat) : Int)) (w64 (by omega) (by omega))) ?_
                  refine Gx.val rfl rfl rfl (val_move rfl rfl) ?_
                  refine Gx.done ?_
                  refine Gx.thenN ?_
                  refine Gx.drop 0 rfl ?_
                  exact Gx.round (i + 1, putM ms wq ((getM ms wq).getD 0 + 1)) ⟨by first | omega | (dsimp only; omega), hse.next hx8 hwq hok hcw⟩ (by first | omega | (dsimp only; omega)) ((.cons rfl (.cons rfl (.cons rfl (.cons rfl (.cons rfl (.cons rfl .nil))))))) rfl
        · refine Gx.exit ?_
          refine Gx.thenE ?_
          refine Gx.thenE ?_
          refine Gx.blkE ?_
          refine Gx.thenN ?_
          refine Gx.seq ?_
          refine Gx.region ?_
          refine Gx.val rfl rfl rfl (val_assign rfl rfl) ?_
          refine Gx.done ?_
          refine Gx.thenN ?_
          refine Gx.ret ?_
          refine Gx.ret1 Try.results17 rfl ?_
          obtain rfl : i = l.length := by omega
          have h1 := hse.el; have h2 := hse.ds
          rw [List.take_length] at h1 h2
          exact ⟨0, rfl, ⟨fun _ => ⟨hn1, hn12, hnl, h1, h2⟩, fun _ => rfl⟩⟩

theorem needsCheck_any {W : World} {n : Int} {nv : Value} {l : List Nd} (h : NdS W nv l) : Calls Try.prog 22 #[.int .i64 n, nv] W fun e w' => ∃ v, e = .returned v ∧ (∃ c : Int, v = .int .i64 c ∧ (c = 0 ↔ OkN n l)) ∧ Below W.heap.size W w' := by
  have m1 := sls_bd h.sl
  refine calls_rel (R := fun v => ∃ c : Int, v = .int .i64 c ∧ (c = 0 ↔ OkN n l)) (Gx.enter (l := []) Try.func22 rfl Try.ntmps22 rfl (Sat.start W) ?_)
  refine Gx.know (m' := [(0, .int .i64 n), (1, nv)]) (.cons rfl (.cons rfl .nil)) ?_
  refine Gx.seq ?_
  refine Gx.region ?_
  refine Gx.val rfl rfl rfl (val_assign rfl rfl) ?_
  refine Gx.done ?_
  refine Gx.thenN ?_
  refine Gx.seq ?_
  refine Gx.seq ?_
  refine Gx.region ?_
  refine Gx.val rfl rfl rfl (val_move rfl rfl) ?_
  refine Gx.val rfl rfl rfl (val_lss rfl rfl rfl) ?_
  refine Gx.val rfl rfl rfl (val_move rfl rfl) ?_
  refine Gx.cases (t := 12) rfl (fun h1 => ?_) (fun h1 => ?_)
  · refine Gx.skipg rfl rfl rfl rfl rfl rfl ?_
    refine Gx.skipg rfl rfl rfl rfl rfl rfl ?_
    refine Gx.val rfl rfl rfl (val_pickT rfl rfl rfl) ?_
    refine Gx.val rfl rfl rfl (val_move rfl rfl) ?_
    refine Gx.skipg rfl rfl rfl rfl rfl rfl ?_
    refine Gx.skipg rfl rfl rfl rfl rfl rfl ?_
    refine Gx.skipg rfl rfl rfl rfl rfl rfl ?_
    refine Gx.skipg rfl rfl rfl rfl rfl rfl ?_
    refine Gx.val rfl rfl rfl (val_pickT rfl rfl rfl) ?_
    refine Gx.done ?_
    refine Gx.thenN ?_
    refine Gx.t rfl ?_
    refine Gx.seq ?_
    refine Gx.region ?_
    refine Gx.val rfl rfl rfl (val_assign rfl rfl) ?_
    refine Gx.done ?_
    refine Gx.thenN ?_
    refine Gx.ret ?_
    refine Gx.thenR ?_
    refine Gx.ret1 Try.results22 rfl ?_
    refine ⟨_, rfl, ⟨fun h => absurd h (by decide), fun hk8 => ?_⟩⟩
    exfalso
    have h1 := hk8.n1; have h2 := hk8.n12; have h3 := hk8.len; omega
  · refine Gx.valg rfl rfl rfl rfl rfl (val_move rfl rfl) ?_
    refine Gx.valg rfl rfl rfl rfl rfl (val_gtr rfl rfl rfl) ?_
    refine Gx.val rfl rfl rfl (val_pickF rfl rfl rfl) ?_
    refine Gx.val rfl rfl rfl (val_move rfl rfl) ?_
    refine Gx.cases (t := 16) rfl (fun h2 => ?_) (fun h2 => ?_)
    · refine Gx.skipg rfl rfl rfl rfl rfl rfl ?_
      refine Gx.skipg rfl rfl rfl rfl rfl rfl ?_
      refine Gx.skipg rfl rfl rfl rfl rfl rfl ?_
      refine Gx.skipg rfl rfl rfl rfl rfl rfl ?_
      refine Gx.val rfl rfl rfl (val_pickT rfl rfl rfl) ?_
      refine Gx.done ?_
      refine Gx.thenN ?_
      refine Gx.t rfl ?_
      refine Gx.seq ?_
      refine Gx.region ?_
      refine Gx.val rfl rfl rfl (val_assign rfl rfl) ?_
      refine Gx.done ?_
      refine Gx.thenN ?_
      refine Gx.ret ?_
      refine Gx.thenR ?_
      refine Gx.ret1 Try.results22 rfl ?_
      refine ⟨_, rfl, ⟨fun h => absurd h (by decide), fun hk8 => ?_⟩⟩
      exfalso
      have h1 := hk8.n1; have h2 := hk8.n12; have h3 := hk8.len; omega
    · refine Gx.valg rfl rfl rfl rfl rfl (val_move rfl rfl) ?_
      refine Gx.valg rfl rfl rfl rfl rfl (val_len rfl Try.underlying22 rfl (len_base h.sl)) ?_
      refine Gx.valg rfl rfl rfl rfl rfl (val_move rfl rfl) ?_
      refine Gx.valg rfl rfl rfl rfl rfl (val_gtr rfl rfl rfl) ?_
      refine Gx.val rfl rfl rfl (val_pickF rfl rfl rfl) ?_
      refine Gx.done ?_
      refine Gx.thenN ?_
      refine Gx.dec rfl (fun h3 => ?_) (fun h3 => ?_)
      · refine Gx.seq ?_
        refine Gx.region ?_
        refine Gx.val rfl rfl rfl (val_assign rfl rfl) ?_
        refine Gx.done ?_
        refine Gx.thenN ?_
        refine Gx.ret ?_
        refine Gx.thenR ?_
        refine Gx.ret1 Try.results22 rfl ?_
        refine ⟨_, rfl, ⟨fun h => absurd h (by decide), fun hk8 => ?_⟩⟩
        exfalso
        have h1 := hk8.n1; have h2 := hk8.n12; have h3 := hk8.len; omega
      · refine Gx.skip ?_
        refine Gx.thenN ?_
        refine Gx.seq ?_
        refine Gx.seq ?_
        have hn1 : 1 ≤ n ∧ n ≤ 12 ∧ (l.length : Int) ≤ n := by omega
        obtain ⟨hn1, hn12, hnl⟩ := hn1
        refine Gx.region ?_
        refine Gx.val rfl rfl rfl (val_move rfl rfl) ?_
        refine Gx.val rfl rfl rfl (val_len rfl Try.underlying22 rfl (len_base h.sl)) ?_
        refine Gx.val rfl rfl rfl (val_move rfl rfl) ?_
        refine Gx.done ?_
        refine Gx.thenN ?_
        refine Gx.block ?_
        refine Gx.loop (ι := Nat) (fun ξ => (ξ ≤ l.length) ∧ (∀ (q : Nat) (y : Nd), q < ξ → l[q]? = some y → NdOk n y) ∧ (∀ p q : Nat, p < q → q < ξ → ∀ y z, l[p]? = some y → l[q]? = some z → y.who ≠ z.who)) (fun ξ => [(0, .int .i64 n), (1, nv), (22, nv), (23, .int .i64 ((l.length : Nat) : Int)), (24, .int .i64 ((ξ : Nat) : Int))]) (fun ξ => []) (fun ξ => l.length - ξ) 0 ⟨by first | omega | (dsimp only; omega), fun q y hq => absurd hq (Nat.not_lt_zero _), fun p q _ hq => absurd hq (Nat.not_lt_zero _)⟩ ((.cons rfl (.cons rfl (.cons rfl (.cons rfl (.cons rfl .nil)))))) rfl ?_
        rintro i ⟨hi, hel, hds⟩
        refine Gx.know (m' := [(0, .int .i64 n), (1, nv), (22, nv), (23, .int .i64 ((l.length : Nat) : Int)), (24, .int .i64 ((i : Nat) : Int))]) (.cons rfl (.cons rfl (.cons rfl (.cons rfl (.cons rfl .nil))))) (Gx.norm (l' := []) rfl ?_)
        refine Gx.seq ?_
        refine Gx.region ?_
        refine Gx.val rfl rfl rfl (val_lss rfl rfl rfl) ?_
        refine Gx.done ?_
        refine Gx.thenN ?_
        refine Gx.seq ?_
        refine Gx.dec rfl (fun h4 => ?_) (fun h4 => ?_)
        · refine Gx.skip ?_
          refine Gx.thenN ?_
          refine Gx.seq ?_
          refine Gx.block ?_
          refine Gx.seq ?_
          refine Gx.region ?_
          refine Gx.val rfl rfl rfl (val_move rfl rfl) ?_
          obtain ⟨x5, hx5⟩ := get_of_lt (xs := l) (k := i) (by omega)
          refine Gx.val rfl rfl rfl (val_ixa rfl Try.underlying22 Try.ty38 rfl rfl (j := i) (rfl) (reach_base h.sl hx5)) ?_
          refine Gx.val rfl rfl rfl (Val.cast (val_loadA rfl Try.ty38 rfl rfl rfl (cells_base h.sl hx5)) (v' := .agg #[.int .i64 x5.who, .bool x5.all, .slice x5.a x5.n x5.c]) rfl) ?_
          refine Gx.eff rfl rfl rfl (eff_alloc rfl Try.ty38 (vs := [.int .i64 0, .bool false, .slice none 0 0]) rfl) ?_
          rintro _ _ ⟨b6, rfl, rfl⟩
          refine Gx.val rfl rfl rfl (val_assign rfl rfl) ?_
          refine Gx.eff0 rfl rfl (eff_store rfl Try.ty38 rfl rfl (us := [.int .i64 x5.who, .bool x5.all, .slice x5.a x5.n x5.c]) rfl rfl rfl (k := 0) rfl (rfl) (vs' := [.int .i64 x5.who, .bool x5.all, .slice x5.a x5.n x5.c]) (rfl) (l' := [Hp.rec_ b6 [.int .i64 x5.who, .bool x5.all, .slice x5.a x5.n x5.c]]) rfl) ?_
          rintro _ _ rfl
          refine Gx.done ?_
          refine Gx.thenN ?_
          refine Gx.seq ?_
          refine Gx.seq ?_
          have hmem := List.mem_of_getElem? hx5
          have hfx := h.fr x5 hmem
          refine Gx.region ?_
          refine Gx.val rfl rfl rfl (Val.cast (val_fieldAddr rfl Try.underlying38 rfl Try.ty24 rfl rfl) (v' := ptr b6 2) rfl) ?_
          refine Gx.val rfl rfl rfl (val_load rfl Try.ty24 rfl rfl (cell_rec (k := 0) rfl rfl)) ?_
          refine Gx.val rfl rfl rfl (val_len rfl Try.underlying24 rfl (len_base hfx)) ?_
          refine Gx.val rfl rfl rfl (val_gtr rfl rfl rfl) ?_
          refine Gx.done ?_
          refine Gx.thenN ?_
          refine Gx.dec rfl (fun h7 => ?_) (fun h7 => ?_)
          · refine Gx.seq ?_
            refine Gx.region ?_
            refine Gx.val rfl rfl rfl (val_assign rfl rfl) ?_
            refine Gx.done ?_
            refine Gx.thenN ?_
            refine Gx.ret ?_
            refine Gx.thenR ?_
            refine Gx.blkR ?_
            refine Gx.thenR ?_
            refine Gx.thenR ?_
            refine Gx.blkR ?_
            refine Gx.thenR ?_
            refine Gx.ret1 Try.results22 rfl ?_
            refine ⟨_, rfl, ⟨fun h => absurd h (by decide), fun hk8 => ?_⟩⟩
            exfalso
            have h1 := (hk8.el x5 hmem).lt; omega
          · refine Gx.skip ?_
            refine Gx.thenN ?_
            refine Gx.seq ?_
            refine Gx.seq ?_
            refine Gx.region ?_
            refine Gx.val rfl rfl rfl (Val.cast (val_fieldAddr rfl Try.underlying38 rfl Try.ty3 rfl rfl) (v' := ptr b6 0) rfl) ?_
            refine Gx.val rfl rfl rfl (val_load rfl Try.ty3 rfl rfl (cell_rec (k := 0) rfl rfl)) ?_
            refine Gx.val rfl rfl rfl (val_lss rfl rfl rfl) ?_
            refine Gx.val rfl rfl rfl (val_move rfl rfl) ?_
            refine Gx.cases (t := 36) rfl (fun h8 => ?_) (fun h8 => ?_)
            · refine Gx.skipg rfl rfl rfl rfl rfl rfl ?_
              refine Gx.skipg rfl rfl rfl rfl rfl rfl ?_
              refine Gx.skipg rfl rfl rfl rfl rfl rfl ?_
              refine Gx.skipg rfl rfl rfl rfl rfl rfl ?_
              refine Gx.val rfl rfl rfl (val_pickT rfl rfl rfl) ?_
              refine Gx.done ?_
              refine Gx.thenN ?_
              refine Gx.t rfl ?_
              refine Gx.seq ?_
              refine Gx.region ?_
              refine Gx.val rfl rfl rfl (val_assign rfl rfl) ?_
              refine Gx.done ?_
              refine Gx.thenN ?_
              refine Gx.ret ?_
              refine Gx.thenR ?_
              refine Gx.blkR ?_
              refine Gx.thenR ?_
              refine Gx.thenR ?_
              refine Gx.blkR ?_
              refine Gx.thenR ?_
              refine Gx.ret1 Try.results22 rfl ?_
              refine ⟨_, rfl, ⟨fun h => absurd h (by decide), fun hk8 => ?_⟩⟩
              exfalso
              have h1 := (hk8.el x5 hmem).w0; have h2 := (hk8.el x5 hmem).w1; omega
            · refine Gx.valg rfl rfl rfl rfl rfl (Val.cast (val_fieldAddr rfl Try.underlying38 rfl Try.ty3 rfl rfl) (v' := ptr b6 0) rfl) ?_
              refine Gx.valg rfl rfl rfl rfl rfl (val_load rfl Try.ty3 rfl rfl (cell_rec (k := 0) rfl rfl)) ?_
              refine Gx.valg rfl rfl rfl rfl rfl (val_move rfl rfl) ?_
              refine Gx.valg rfl rfl rfl rfl rfl (val_geq rfl rfl rfl) ?_
              refine Gx.val rfl rfl rfl (val_pickF rfl rfl rfl) ?_
              refine Gx.done ?_
              refine Gx.thenN ?_
              refine Gx.dec rfl (fun h9 => ?_) (fun h9 => ?_)
              · refine Gx.seq ?_
                refine Gx.region ?_
                refine Gx.val rfl rfl rfl (val_assign rfl rfl) ?_
                refine Gx.done ?_
                refine Gx.thenN ?_
                refine Gx.ret ?_
                refine Gx.thenR ?_
                refine Gx.blkR ?_
                refine Gx.thenR ?_
                refine Gx.thenR ?_
                refine Gx.blkR ?_
                refine Gx.thenR ?_
                refine Gx.ret1 Try.results22 rfl ?_
                refine ⟨_, rfl, ⟨fun h => absurd h (by decide), fun hk8 => ?_⟩⟩
                exfalso
                have h1 := (hk8.el x5 hmem).w0; have h2 := (hk8.el x5 hmem).w1; omega
              · refine Gx.skip ?_
                refine Gx.thenN ?_
                refine Gx.seq ?_
                refine Gx.seq ?_
                refine Gx.region ?_
                refine Gx.val rfl rfl rfl (Val.cast (val_fieldAddr rfl Try.underlying38 rfl Try.ty24 rfl rfl) (v' := ptr b6 2) rfl) ?_
                refine Gx.val rfl rfl rfl (val_load rfl Try.ty24 rfl rfl (cell_rec (k := 0) rfl rfl)) ?_
                refine Gx.val rfl rfl rfl (val_len rfl Try.underlying24 rfl (len_base hfx)) ?_
                refine Gx.val rfl rfl rfl (val_move rfl rfl) ?_
                refine Gx.done ?_
                refine Gx.thenN ?_
                refine Gx.block ?_
                refine Gx.loop (ι := Nat) (fun ξ => (ξ ≤ x5.fr.length) ∧ (∀ (q : Nat) (y : Int), q < ξ → x5.fr[q]? = some y → 0 ≤ y ∧ y < n)) (fun ξ => [(0, .int .i64 n), (1, nv), (5, .int .i64 ((i : Nat) : Int)), (6, ptr b6 0), (22, nv), (23, .int .i64 ((l.length : Nat) : Int)), (24, .int .i64 ((i : Nat) : Int)), (43, .slice x5.a x5.n x5.c), (44, .int .i64 ((x5.fr.length : Nat) : Int)), (45, .int .i64 ((ξ : Nat) : Int))]) (fun ξ => [Hp.rec_ b6 [.int .i64 x5.who, .bool x5.all, .slice x5.a x5.n x5.c]]) (fun ξ => x5.fr.length - ξ) 0 ⟨by first | omega | (dsimp only; omega), fun q y hq => absurd hq (Nat.not_lt_zero _)⟩ ((.cons rfl (.cons rfl (.cons rfl (.cons rfl (.cons rfl (.cons rfl (.cons rfl (.cons rfl (.cons rfl (.cons rfl .nil))))))))))) rfl ?_
                rintro k ⟨hk, hfr⟩
                refine Gx.know (m' := [(0, .int .i64 n), (1, nv), (5, .int .i64 ((i : Nat) : Int)), (6, ptr b6 0), (22, nv), (23, .int .i64 ((l.length : Nat) : Int)), (24, .int .i64 ((i : Nat) : Int)), (43, .slice x5.a x5.n x5.c), (44, .int .i64 ((x5.fr.length : Nat) : Int)), (45, .int .i64 ((k : Nat) : Int))]) (.cons rfl (.cons rfl (.cons rfl (.cons rfl (.cons rfl (.cons rfl (.cons rfl (.cons rfl (.cons rfl (.cons rfl .nil)))))))))) (Gx.norm (l' := [Hp.rec_ b6 [.int .i64 x5.who, .bool x5.all, .slice x5.a x5.n x5.c]]) rfl ?_)
                refine Gx.seq ?_
                refine Gx.region ?_
                refine Gx.val rfl rfl rfl (val_lss rfl rfl rfl) ?_
                refine Gx.done ?_
                refine Gx.thenN ?_
                refine Gx.seq ?_
                refine Gx.dec rfl (fun h10 => ?_) (fun h10 => ?_)
                · refine Gx.skip ?_
                  refine Gx.thenN ?_
                  refine Gx.seq ?_
                  refine Gx.block ?_
                  refine Gx.seq ?_
                  refine Gx.region ?_
                  obtain ⟨x11, hx11⟩ := get_of_lt (xs := x5.fr) (k := k) (by omega)
                  refine Gx.val rfl rfl rfl (val_ixa rfl Try.underlying24 Try.ty3 rfl rfl (j := k) (rfl) (reach_base hfx hx11)) ?_
                  refine Gx.val rfl rfl rfl (val_load rfl Try.ty3 rfl rfl (cell_base (i := 0) hfx hx11 rfl)) ?_
                  refine Gx.val rfl rfl rfl (val_assign rfl rfl) ?_
                  refine Gx.done ?_
                  refine Gx.thenN ?_
                  refine Gx.seq ?_
                  refine Gx.region ?_
                  refine Gx.val rfl rfl rfl (val_move rfl rfl) ?_
                  refine Gx.val rfl rfl rfl (val_lss rfl rfl rfl) ?_
                  refine Gx.val rfl rfl rfl (val_move rfl rfl) ?_
                  refine Gx.cases (t := 51) rfl (fun h12 => ?_) (fun h12 => ?_)
                  · refine Gx.skipg rfl rfl rfl rfl rfl rfl ?_
                    refine Gx.skipg rfl rfl rfl rfl rfl rfl ?_
                    refine Gx.skipg rfl rfl rfl rfl rfl rfl ?_
                    refine Gx.val rfl rfl rfl (val_pickT rfl rfl rfl) ?_
                    refine Gx.done ?_
                    refine Gx.thenN ?_
                    refine Gx.t rfl ?_
                    refine Gx.seq ?_
                    refine Gx.region ?_
                    refine Gx.val rfl rfl rfl (val_assign rfl rfl) ?_
                    refine Gx.done ?_
                    refine Gx.thenN ?_
                    refine Gx.ret ?_
                    refine Gx.blkR ?_
                    refine Gx.thenR ?_
                    refine Gx.thenR ?_
                    refine Gx.blkR ?_
                    refine Gx.thenR ?_
                    refine Gx.blkR ?_
                    refine Gx.thenR ?_
                    refine Gx.thenR ?_
                    refine Gx.blkR ?_
                    refine Gx.thenR ?_
                    refine Gx.ret1 Try.results22 rfl ?_
                    refine ⟨_, rfl, ⟨fun h => absurd h (by decide), fun hk8 => ?_⟩⟩
                    exfalso
                    have h1 := (hk8.el x5 hmem).fr x11 (List.mem_of_getElem? hx11); omega
                  · refine Gx.valg rfl rfl rfl rfl rfl (val_move rfl rfl) ?_
                    refine Gx.valg rfl rfl rfl rfl rfl (val_move rfl rfl) ?_
                    refine Gx.valg rfl rfl rfl rfl rfl (val_geq rfl rfl rfl) ?_
                    refine Gx.val rfl rfl rfl (val_pickF rfl rfl rfl) ?_
                    refine Gx.done ?_
                    refine Gx.thenN ?_
                    refine Gx.dec rfl (fun h13 => ?_) (fun h13 => ?_)
                    · refine Gx.seq ?_
                      refine Gx.region ?_
                      refine Gx.val rfl rfl rfl (val_assign rfl rfl) ?_
                      refine Gx.done ?_
                      refine Gx.thenN ?_
                      refine Gx.ret ?_
                      refine Gx.blkR ?_
                      refine Gx.thenR ?_
                      refine Gx.thenR ?_
                      refine Gx.blkR ?_
                      refine Gx.thenR ?_
                      refine Gx.blkR ?_
                      refine Gx.thenR ?_
                      refine Gx.thenR ?_
                      refine Gx.blkR ?_
                      refine Gx.thenR ?_
                      refine Gx.ret1 Try.results22 rfl ?_
                      refine ⟨_, rfl, ⟨fun h => absurd h (by decide), fun hk8 => ?_⟩⟩
                      exfalso
                      have h1 := (hk8.el x5 hmem).fr x11 (List.mem_of_getElem? hx11); omega
                    · refine Gx.skip ?_
                      refine Gx.blkN ?_
                      refine Gx.thenN ?_
                      refine Gx.region ?_
                      refine Gx.val rfl rfl rfl (val_add rfl rfl rfl (r := ((k + 1 : Nat) : Int)) (w64 (by omega) (by omega))) ?_
                      refine Gx.val rfl rfl rfl (val_move rfl rfl) ?_
                      refine Gx.done ?_
                      refine Gx.thenN ?_
                      exact Gx.round (k + 1) ⟨by first | omega | (dsimp only; omega), fun q y hq hy => by rcases Nat.lt_or_eq_of_le (Nat.le_of_lt_succ hq) with z | rfl; (exact hfr q y z hy); (rw [hx11] at hy; cases hy; omega)⟩ (by first | omega | (dsimp only; omega)) ((.cons rfl (.cons rfl (.cons rfl (.cons rfl (.cons rfl (.cons rfl (.cons rfl (.cons rfl (.cons rfl (.cons rfl .nil))))))))))) rfl
                · refine Gx.exit ?_
                  refine Gx.thenE ?_
                  refine Gx.thenE ?_
                  refine Gx.blkE ?_
                  refine Gx.thenN ?_
                  refine Gx.seq ?_
                  refine Gx.region ?_
                  refine Gx.val rfl rfl rfl (val_assign rfl rfl) ?_
                  refine Gx.done ?_
                  refine Gx.thenN ?_
                  refine Gx.block ?_
                  obtain rfl : k = x5.fr.length := by omega
                  have hok : NdOk n x5 := ⟨by omega, by omega, by omega, fun y hy => by obtain ⟨q, hq⟩ := List.getElem?_of_mem hy; exact hfr q y (List.getElem?_eq_some_iff.1 hq).1 hq⟩
                  refine Gx.loop (ι := Nat) (fun ξ => (ξ ≤ i) ∧ (∀ (p : Nat) (y : Nd), p < ξ → l[p]? = some y → y.who ≠ x5.who)) (fun ξ => [(0, .int .i64 n), (1, nv), (5, .int .i64 ((i : Nat) : Int)), (6, ptr b6 0), (22, nv), (23, .int .i64 ((l.length : Nat) : Int)), (24, .int .i64 ((i : Nat) : Int)), (9, .int .i64 ((ξ : Nat) : Int))]) (fun ξ => [Hp.rec_ b6 [.int .i64 x5.who, .bool x5.all, .slice x5.a x5.n x5.c]]) (fun ξ => i - ξ) 0 ⟨by first | omega | (dsimp only; omega), fun p y hq => absurd hq (Nat.not_lt_zero _)⟩ ((.cons rfl (.cons rfl (.cons rfl (.cons rfl (.cons rfl (.cons rfl (.cons rfl (.cons rfl .nil))))))))) rfl ?_
                  rintro j ⟨hj, hdj⟩
                  refine Gx.know (m' := [(0, .int .i64 n), (1, nv), (5, .int .i64 ((i : Nat) : Int)), (6, ptr b6 0), (22, nv), (23, .int .i64 ((l.length : Nat) : Int)), (24, .int .i64 ((i : Nat) : Int)), (9, .int .i64 ((j : Nat) : Int))]) (.cons rfl (.cons rfl (.cons rfl (.cons rfl (.cons rfl (.cons rfl (.cons rfl (.cons rfl .nil)))))))) (Gx.norm (l' := [Hp.rec_ b6 [.int .i64 x5.who, .bool x5.all, .slice x5.a x5.n x5.c]]) rfl ?_)
                  refine Gx.seq ?_
                  refine Gx.seq ?_
                  refine Gx.region ?_
                  refine Gx.val rfl rfl rfl (val_move rfl rfl) ?_
                  refine Gx.val rfl rfl rfl (val_move rfl rfl) ?_
                  refine Gx.val rfl rfl rfl (val_lss rfl rfl rfl) ?_
                  refine Gx.done ?_
                  refine Gx.thenN ?_
                  refine Gx.dec rfl (fun h14 => ?_) (fun h14 => ?_)
                  · refine Gx.skip ?_
                    refine Gx.thenN ?_
                    refine Gx.seq ?_
                    refine Gx.block ?_
                    refine Gx.seq ?_
                    refine Gx.regionQ Try.mixed (by kernel_rfl) ?_
                    refine Gq.val rfl rfl rfl (val_move rfl rfl) ?_
                    refine Gq.val rfl rfl rfl (val_move rfl rfl) ?_
                    obtain ⟨x15, hx15⟩ := get_of_lt (xs := l) (k := j) (by omega)
                    refine Gq.val rfl rfl rfl (val_ixa rfl Try.underlying22 Try.ty38 rfl rfl (j := j) (rfl) (reach_base h.sl hx15)) ?_
                    refine Gq.val rfl rfl rfl (Val.cast (val_fieldAddr rfl Try.underlying38 rfl Try.ty3 rfl rfl) (v' := ptr (sB nv) (sO nv + j * 3)) rfl) ?_
                    refine Gq.val rfl rfl rfl (val_load rfl Try.ty3 rfl rfl (cell_base (i := 0) h.sl hx15 rfl)) ?_
                    refine Gq.val rfl rfl rfl (Val.cast (val_fieldAddr rfl Try.underlying38 rfl Try.ty3 rfl rfl) (v' := ptr b6 0) rfl) ?_
                    refine Gq.val rfl rfl rfl (val_load rfl Try.ty3 rfl rfl (cell_rec (k := 0) rfl rfl)) ?_
                    refine Gq.val rfl rfl rfl (val_eql rfl rfl rfl) ?_
                    refine Gq.done ?_
                    refine Gx.thenN ?_
                    refine Gx.dec rfl (fun h16 => ?_) (fun h16 => ?_)
                    · refine Gx.seq ?_
                      refine Gx.region ?_
                      refine Gx.val rfl rfl rfl (val_assign rfl rfl) ?_
                      refine Gx.done ?_
                      refine Gx.thenN ?_
                      refine Gx.ret ?_
                      refine Gx.blkR ?_
                      refine Gx.thenR ?_
                      refine Gx.thenR ?_
                      refine Gx.blkR ?_
                      refine Gx.blkR ?_
                      refine Gx.thenR ?_
                      refine Gx.thenR ?_
                      refine Gx.blkR ?_
                      refine Gx.thenR ?_
                      refine Gx.ret1 Try.results22 rfl ?_
                      refine ⟨_, rfl, ⟨fun h => absurd h (by decide), fun hk8 => ?_⟩⟩
                      exfalso
                      obtain ⟨j1, j2⟩ := List.getElem?_eq_some_iff.1 hx15
                      obtain ⟨j3, j4⟩ := List.getElem?_eq_some_iff.1 hx5
                      exact (List.pairwise_iff_getElem.1 hk8.dist) j i j1 j3 (by omega) (by rw [j2, j4]; omega)
                    · refine Gx.skip ?_
                      refine Gx.blkN ?_
                      refine Gx.thenN ?_
                      refine Gx.region ?_
                      refine Gx.val rfl rfl rfl (val_move rfl rfl) ?_
                      refine Gx.val rfl rfl rfl (val_add rfl rfl rfl (r := ((j + 1 : Nat) : Int)) (w64 (by omega) (by omega))) ?_
                      refine Gx.val rfl rfl rfl (val_assign rfl rfl) ?_
                      refine Gx.done ?_
                      refine Gx.thenN ?_
                      exact Gx.round (j + 1) ⟨by first | omega | (dsimp only; omega), fun p y hq hy => by rcases Nat.lt_or_eq_of_le (Nat.le_of_lt_succ hq) with z | rfl; (exact hdj p y z hy); (rw [hx15] at hy; cases hy; omega)⟩ (by first | omega | (dsimp only; omega)) ((.cons rfl (.cons rfl (.cons rfl (.cons rfl (.cons rfl (.cons rfl (.cons rfl (.cons rfl .nil))))))))) rfl
                  · refine Gx.exit ?_
                    refine Gx.thenE ?_
                    refine Gx.thenE ?_
                    refine Gx.blkE ?_
                    refine Gx.blkN ?_
                    refine Gx.thenN ?_
                    refine Gx.region ?_
                    refine Gx.val rfl rfl rfl (val_add rfl rfl rfl (r := ((i + 1 : Nat) : Int)) (w64 (by omega) (by omega))) ?_
                    refine Gx.val rfl rfl rfl (val_move rfl rfl) ?_
                    refine Gx.done ?_
                    refine Gx.thenN ?_
                    refine Gx.drop 0 rfl ?_
                    exact Gx.round (i + 1) ⟨by first | omega | (dsimp only; omega), fun q y hq hy => by rcases Nat.lt_or_eq_of_le (Nat.le_of_lt_succ hq) with z | rfl; (exact hel q y z hy); (rw [hx5] at hy; cases hy; exact hok), fun p q hp hq y z hy hz => by rcases Nat.lt_or_eq_of_le (Nat.le_of_lt_succ hq) with u | rfl; (exact hds p q hp u y z hy hz); (rw [hx5] at hz; cases hz; exact hdj p y (by omega) hy)⟩ (by first | omega | (dsimp only; omega)) ((.cons rfl (.cons rfl (.cons rfl (.cons rfl (.cons rfl .nil)))))) rfl
        · refine Gx.exit ?_
          refine Gx.thenE ?_
          refine Gx.thenE ?_
          refine Gx.blkE ?_
          refine Gx.thenN ?_
          refine Gx.seq ?_
          refine Gx.region ?_
          refine Gx.val rfl rfl rfl (val_assign rfl rfl) ?_
          refine Gx.done ?_
          refine Gx.thenN ?_
          refine Gx.ret ?_
          refine Gx.ret1 Try.results22 rfl ?_
          obtain rfl : i = l.length := by omega
          exact ⟨0, rfl, ⟨fun _ => ⟨hn1, hn12, hnl, fun y hy => by (obtain ⟨q, hq⟩ := List.getElem?_of_mem hy; exact hel q y (List.getElem?_eq_some_iff.1 hq).1 hq), List.pairwise_iff_getElem.2 fun p q hp hq hpq => hds p q hpq hq _ _ (List.getElem?_eq_getElem hp) (List.getElem?_eq_getElem hq)⟩, fun _ => rfl⟩⟩

end Go.Proofs.Ytplcflifofomjaa
