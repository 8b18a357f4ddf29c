/- Who is stuck. The walk. No condition. -/
import Derived.Test.YtplcflifofomjaaA3
namespace Go.Proofs.Ytplcflifofomjaa
open Go.RowKit
set_option linter.unusedVariables false
set_option linter.unusedSimpArgs false
set_option maxRecDepth 100000

theorem check_ok {W : World} {n : Int} {nv : Value} {l : List Nd} (h : NdS W nv l) (hk : OkN n l) : Calls Try.prog 17 #[.int .i64 n, nv] W fun e w' => e = .returned (.int .i64 0) ∧ Below W.heap.size W w' :=
  (check_any h).mono fun e w' ⟨v, he, ⟨c, hv, hc⟩, hb⟩ => ⟨by rw [he, hv, hc.2 hk], hb⟩
theorem needs_ok {W : World} {n : Int} {nv : Value} {l : List Nd} (h : NdS W nv l) (hk : OkN n l) : Calls Try.prog 22 #[.int .i64 n, nv] W fun e w' => e = .returned (.int .i64 0) ∧ Below W.heap.size W w' :=
  (needsCheck_any h).mono fun e w' ⟨v, he, ⟨c, hv, hc⟩, hb⟩ => ⟨by rw [he, hv, hc.2 hk], hb⟩
theorem check_no {W : World} {n : Int} {nv : Value} {l : List Nd} (h : NdS W nv l) (hk : ¬ OkN n l) : Calls Try.prog 17 #[.int .i64 n, nv] W fun e w' => ∃ v, e = .returned v ∧ (∃ c : Int, v = .int .i64 c ∧ c ≠ 0) ∧ Below W.heap.size W w' :=
  (check_any h).mono fun e w' ⟨v, he, ⟨c, hv, hc⟩, hb⟩ => ⟨v, he, ⟨c, hv, fun e => hk (hc.1 e)⟩, hb⟩
theorem needs_no {W : World} {n : Int} {nv : Value} {l : List Nd} (h : NdS W nv l) (hk : ¬ OkN n l) : Calls Try.prog 22 #[.int .i64 n, nv] W fun e w' => ∃ v, e = .returned v ∧ (∃ c : Int, v = .int .i64 c ∧ c ≠ 0) ∧ Below W.heap.size W w' :=
  (needsCheck_any h).mono fun e w' ⟨v, he, ⟨c, hv, hc⟩, hb⟩ => ⟨v, he, ⟨c, hv, fun e => hk (hc.1 e)⟩, hb⟩
theorem free_any {W : World} {b : Nat} {fv : Value} {f : List Bool} {k : Int} (hb : b < W.heap.size) (hbc : W.cell? ⟨b, 0, none⟩ = some fv) (hf : SlS FB 1 W fv f) (h0 : 0 ≤ k) (h1 : k < f.length) : Calls Try.prog 19 #[.int .i64 k, ptr b 0] W fun e w' => e = .returned (.bool ((f.getD k.toNat false))) ∧ Below W.heap.size W w' := by
  refine calls_pure (Gx.enter (l := []) Try.func19 rfl Try.ntmps19 rfl (Sat.start W) ?_)
  refine Gx.know (m' := [(0, .int .i64 k), (1, ptr b 0)]) (.cons rfl (.cons rfl .nil)) ?_
  refine Gx.seq ?_
  refine Gx.region ?_
  refine Gx.val rfl rfl rfl (val_assign rfl rfl) ?_
  refine Gx.done ?_
  refine Gx.thenN ?_
  refine Gx.seq ?_
  refine Gx.region ?_
  refine Gx.val rfl rfl rfl (val_load rfl Try.ty36 rfl rfl (cell_old hb hbc)) ?_
  refine Gx.val rfl rfl rfl (val_move rfl rfl) ?_
  obtain ⟨x1, hx1⟩ := get_of_lt (xs := f) (k := k.toNat) (by omega)
  refine Gx.val rfl rfl rfl (val_ixa rfl Try.underlying36 Try.ty4 rfl rfl (j := k.toNat) (by omega) (reach_base hf hx1)) ?_
  refine Gx.val rfl rfl rfl (val_load rfl Try.ty4 rfl rfl (cell_base (i := 0) hf hx1 rfl)) ?_
  refine Gx.val rfl rfl rfl (val_assign rfl rfl) ?_
  refine Gx.done ?_
  refine Gx.thenN ?_
  refine Gx.ret ?_
  refine Gx.ret1 Try.results19 rfl ?_
  exact congrArg Value.bool (by rw [getD_of hx1])

theorem not_any {W : World} {b : Nat} {fv : Value} {f : List Bool} {k : Int} (hb : b < W.heap.size) (hbc : W.cell? ⟨b, 0, none⟩ = some fv) (hf : SlS FB 1 W fv f) (h0 : 0 ≤ k) (h1 : k < f.length) : Calls Try.prog 20 #[.int .i64 k, ptr b 0] W fun e w' => e = .returned (.bool (!(f.getD k.toNat false))) ∧ Below W.heap.size W w' := by
  refine calls_pure (Gx.enter (l := []) Try.func20 rfl Try.ntmps20 rfl (Sat.start W) ?_)
  refine Gx.know (m' := [(0, .int .i64 k), (1, ptr b 0)]) (.cons rfl (.cons rfl .nil)) ?_
  refine Gx.seq ?_
  refine Gx.region ?_
  refine Gx.val rfl rfl rfl (val_assign rfl rfl) ?_
  refine Gx.done ?_
  refine Gx.thenN ?_
  refine Gx.seq ?_
  refine Gx.region ?_
  refine Gx.val rfl rfl rfl (val_load rfl Try.ty36 rfl rfl (cell_old hb hbc)) ?_
  refine Gx.val rfl rfl rfl (val_move rfl rfl) ?_
  obtain ⟨x1, hx1⟩ := get_of_lt (xs := f) (k := k.toNat) (by omega)
  refine Gx.val rfl rfl rfl (val_ixa rfl Try.underlying36 Try.ty4 rfl rfl (j := k.toNat) (by omega) (reach_base hf hx1)) ?_
  refine Gx.val rfl rfl rfl (val_load rfl Try.ty4 rfl rfl (cell_base (i := 0) hf hx1 rfl)) ?_
  refine Gx.val rfl rfl rfl (val_not rfl rfl) ?_
  refine Gx.val rfl rfl rfl (val_assign rfl rfl) ?_
  refine Gx.done ?_
  refine Gx.thenN ?_
  refine Gx.ret ?_
  refine Gx.ret1 Try.results20 rfl ?_
  exact congrArg Value.bool (by rw [getD_of hx1])

theorem stuck_no {W : World} {n : Int} {nv : Value} {l : List Nd} (h : NdS W nv l) (hk : ¬ OkN n l) : Calls Try.prog 7 #[.int .i64 n, nv] W fun e w' => ∃ v, e = .returned v ∧ (∃ c : Int, v = .tuple #[.slice none 0 0, .int .i64 c] ∧ c ≠ 0) ∧ Below W.heap.size W w' := by
  refine calls_rel (R := fun v => ∃ c : Int, v = .tuple #[.slice none 0 0, .int .i64 c] ∧ c ≠ 0) (Gx.enter (l := []) Try.func7 rfl Try.ntmps7 rfl (Sat.start W) ?_)
  refine Gx.know (m' := [(0, .int .i64 n), (1, nv)]) (.cons rfl (.cons rfl .nil)) ?_
  refine Gx.seq ?_
  refine Gx.region ?_
  refine Gx.val rfl rfl rfl (val_assign rfl rfl) ?_
  refine Gx.val rfl rfl rfl (val_assign rfl rfl) ?_
  refine Gx.done ?_
  refine Gx.thenN ?_
  refine Gx.seq ?_
  refine Gx.seq ?_
  refine Gx.region ?_
  refine Gx.val rfl rfl rfl (val_move rfl rfl) ?_
  refine Gx.val rfl rfl rfl (val_move rfl rfl) ?_
  refine Gx.eff rfl rfl rfl (eff_callE (vs := [.int .i64 n, nv]) rfl Try.fn17 rfl (R := fun v => ∃ c : Int, v = .int .i64 c ∧ c ≠ 0) (fun w H => check_no (h.below H.below) hk)) ?_
  rintro _ _ ⟨⟨c, rfl, hc⟩, rfl⟩
  refine Gx.val rfl rfl rfl (val_assign rfl rfl) ?_
  refine Gx.done ?_
  refine Gx.thenN ?_
  refine Gx.seq ?_
  refine Gx.region ?_
  refine Gx.val rfl rfl rfl (val_move rfl rfl) ?_
  refine Gx.val rfl rfl rfl (val_neq rfl rfl rfl) ?_
  refine Gx.done ?_
  refine Gx.thenN ?_
  refine Gx.decT rfl (by exact hc) ?_
  refine Gx.seq ?_
  refine Gx.region ?_
  refine Gx.val rfl rfl rfl (val_move rfl rfl) ?_
  refine Gx.val rfl rfl rfl (val_assign rfl rfl) ?_
  refine Gx.val rfl rfl rfl (val_assign rfl rfl) ?_
  refine Gx.done ?_
  refine Gx.thenN ?_
  refine Gx.ret ?_
  refine Gx.thenR ?_
  refine Gx.ret2 Try.results7 rfl rfl ?_
  exact ⟨c, rfl, hc⟩

theorem stuck_ok {W : World} {n : Nat} {nv : Value} {l : List Nd} (h : NdS W nv l) (hk : OkN (n : Int) l) : Calls Try.prog 7 #[.int .i64 ((n : Nat) : Int), nv] W fun e w' => ∃ v, e = .returned v ∧ (∃ sv : Value, v = .tuple #[sv, .int .i64 0] ∧ SlS FN 1 w' sv (stuckN n l)) ∧ Below W.heap.size W w' := by
  have m1 := sls_bd h.sl
  have hn1 := hk.n1
  have hn12 := hk.n12
  refine calls_some (S := fun v l' => ∃ sv : Value, v = .tuple #[sv, .int .i64 0] ∧ l' = [Hp.own FN 1 sv (stuckN n l)]) (Gx.enter (l := []) Try.func7 rfl Try.ntmps7 rfl (Sat.start W) ?_) ?_
  refine Gx.know (m' := [(0, .int .i64 ((n : Nat) : Int)), (1, nv)]) (.cons rfl (.cons rfl .nil)) ?_
  refine Gx.seq ?_
  refine Gx.region ?_
  refine Gx.val rfl rfl rfl (val_assign rfl rfl) ?_
  refine Gx.val rfl rfl rfl (val_assign rfl rfl) ?_
  refine Gx.done ?_
  refine Gx.thenN ?_
  refine Gx.seq ?_
  refine Gx.seq ?_
  refine Gx.region ?_
  refine Gx.val rfl rfl rfl (val_move rfl rfl) ?_
  refine Gx.val rfl rfl rfl (val_move rfl rfl) ?_
  refine Gx.val rfl rfl rfl (val_call (vs := [.int .i64 ((n : Nat) : Int), nv]) rfl Try.fn17 rfl (fun w H => check_ok (h.below H.below) hk)) ?_
  refine Gx.val rfl rfl rfl (val_assign rfl rfl) ?_
  refine Gx.done ?_
  refine Gx.thenN ?_
  refine Gx.seq ?_
  refine Gx.region ?_
  refine Gx.val rfl rfl rfl (val_move rfl rfl) ?_
  refine Gx.val rfl rfl rfl (Val.cast (val_neq rfl rfl rfl) (v' := .bool false) rfl) ?_
  refine Gx.done ?_
  refine Gx.thenN ?_
  refine Gx.f rfl ?_
  refine Gx.skip ?_
  refine Gx.thenN ?_
  refine Gx.seq ?_
  refine Gx.region ?_
  refine Gx.eff rfl rfl rfl (eff_buildSlice rfl (qs := [(0, .bool true)]) rfl rfl (cs := #[.bool true]) (vs := [.bool true]) (E := 4) rfl (fun w => by first | (go_simp; done) | (go_simp; rfl))) ?_
  rintro _ _ ⟨b1, rfl, rfl⟩
  refine Gx.val rfl rfl rfl (val_move rfl rfl) ?_
  refine Gx.part (k := 0) rfl (q := Hp.own FB 1 (.slice (some ⟨b1, 0, none⟩) 1 1) ([true])) (own_of_rec (f := FB) (xs := [true]) FB_len rfl) ?_
  refine Gx.norm (l' := [Hp.own FB 1 (.slice (some ⟨b1, 0, none⟩) 1 1) ([true])]) rfl ?_
  refine Gx.eff rfl rfl rfl (eff_callN (vs := [.slice (some ⟨b1, 0, none⟩) 1 1, .int .i64 ((n : Nat) : Int)]) rfl Try.fn18 rfl (fun w H => repeat_any ((H.at_ (k := 0) rfl).sls (by simp)) (by omega) (by omega))) ?_
  rintro fv _ ⟨_, ⟨hifv, rfl⟩, rfl⟩
  refine Gx.norm (l' := [Hp.own FB 1 fv (List.replicate n true), Hp.own FB 1 (.slice (some ⟨b1, 0, none⟩) 1 1) ([true])]) rfl ?_
  refine Gx.eff rfl rfl rfl (eff_alloc rfl Try.ty36 (vs := [.slice none 0 0]) rfl) ?_
  rintro _ _ ⟨b2, rfl, rfl⟩
  refine Gx.eff0 rfl rfl (eff_store rfl Try.ty36 rfl rfl (us := [fv]) hifv.cellsL rfl hifv.all (k := 0) rfl (rfl) (vs' := [fv]) (rfl) (l' := [Hp.rec_ b2 [fv], Hp.own FB 1 fv (List.replicate n true), Hp.own FB 1 (.slice (some ⟨b1, 0, none⟩) 1 1) ([true])]) rfl) ?_
  rintro _ _ rfl
  refine Gx.done ?_
  refine Gx.thenN ?_
  refine Gx.seq ?_
  refine Gx.seq ?_
  refine Gx.region ?_
  refine Gx.val rfl rfl rfl (val_move rfl rfl) ?_
  refine Gx.val rfl rfl rfl (val_len rfl Try.underlying22 rfl (len_base h.sl)) ?_
  refine Gx.val rfl rfl rfl (val_move rfl rfl) ?_
  refine Gx.done ?_
  refine Gx.thenN ?_
  refine Gx.block ?_
  refine Gx.drop 2 rfl ?_
  refine Gx.front 0 rfl ?_
  refine Gx.front 1 rfl ?_
  refine Gx.loop (ι := Nat) (fun ξ => (ξ ≤ l.length)) (fun ξ => [(0, .int .i64 ((n : Nat) : Int)), (1, nv), (7, ptr b2 0), (26, nv), (27, .int .i64 ((l.length : Nat) : Int)), (28, .int .i64 ((ξ : Nat) : Int))]) (fun ξ => [Hp.own FB 1 fv (f0N (l.take ξ) (List.replicate n true)), Hp.rec_ b2 [fv]]) (fun ξ => l.length - ξ) 0 (by first | omega | (dsimp only; omega)) ((.cons rfl (.cons rfl (.cons rfl (.cons rfl (.cons rfl (.cons rfl .nil))))))) rfl ?_
  rintro i hi
  refine Gx.know (m' := [(0, .int .i64 ((n : Nat) : Int)), (1, nv), (7, ptr b2 0), (26, nv), (27, .int .i64 ((l.length : Nat) : Int)), (28, .int .i64 ((i : Nat) : Int))]) (.cons rfl (.cons rfl (.cons rfl (.cons rfl (.cons rfl (.cons rfl .nil)))))) (Gx.norm (l' := [Hp.own FB 1 fv (f0N (l.take i) (List.replicate n true)), Hp.rec_ b2 [fv]]) rfl ?_)
  have hfl : (f0N (l.take i) (List.replicate n true)).length = n := by rw [f0N_len, List.length_replicate]
  refine Gx.seq ?_
  refine Gx.region ?_
  refine Gx.val rfl rfl rfl (val_lss rfl rfl rfl) ?_
  refine Gx.done ?_
  refine Gx.thenN ?_
  refine Gx.seq ?_
  refine Gx.dec rfl (fun h3 => ?_) (fun h3 => ?_)
  · refine Gx.skip ?_
    refine Gx.thenN ?_
    refine Gx.seq ?_
    refine Gx.block ?_
    refine Gx.seq ?_
    refine Gx.region ?_
    obtain ⟨x4, hx4⟩ := get_of_lt (xs := l) (k := i) (by omega)
    refine Gx.val rfl rfl rfl (val_ixa rfl Try.underlying22 Try.ty38 rfl rfl (j := i) (rfl) (reach_base h.sl hx4)) ?_
    refine Gx.val rfl rfl rfl (Val.cast (val_loadA rfl Try.ty38 rfl rfl rfl (cells_base h.sl hx4)) (v' := .agg #[.int .i64 x4.who, .bool x4.all, .slice x4.a x4.n x4.c]) rfl) ?_
    refine Gx.eff rfl rfl rfl (eff_alloc rfl Try.ty38 (vs := [.int .i64 0, .bool false, .slice none 0 0]) rfl) ?_
    rintro _ _ ⟨b5, rfl, rfl⟩
    refine Gx.eff0 rfl rfl (eff_store rfl Try.ty38 rfl rfl (us := [.int .i64 x4.who, .bool x4.all, .slice x4.a x4.n x4.c]) rfl rfl rfl (k := 0) rfl (rfl) (vs' := [.int .i64 x4.who, .bool x4.all, .slice x4.a x4.n x4.c]) (rfl) (l' := [Hp.rec_ b5 [.int .i64 x4.who, .bool x4.all, .slice x4.a x4.n x4.c], Hp.own FB 1 fv (f0N (l.take i) (List.replicate n true)), Hp.rec_ b2 [fv]]) rfl) ?_
    rintro _ _ rfl
    refine Gx.done ?_
    refine Gx.thenN ?_
    have hmem := List.mem_of_getElem? hx4
    have hxk := hk.el x4 hmem
    have hw0 := hxk.w0
    have hw1 := hxk.w1
    refine Gx.region ?_
    refine Gx.val rfl rfl rfl (val_load rfl Try.ty36 rfl rfl (cell_rec (k := 2) rfl rfl)) ?_
    refine Gx.val rfl rfl rfl (Val.cast (val_fieldAddr rfl Try.underlying38 rfl Try.ty3 rfl rfl) (v' := ptr b5 0) rfl) ?_
    refine Gx.val rfl rfl rfl (val_load rfl Try.ty3 rfl rfl (cell_rec (k := 0) rfl rfl)) ?_
    obtain ⟨x6, hx6⟩ := get_of_lt (xs := (f0N (l.take i) (List.replicate n true))) (k := x4.who.toNat) (by omega)
    refine Gx.val rfl rfl rfl (val_ixa rfl Try.underlying36 Try.ty4 rfl rfl (j := x4.who.toNat) (by omega) (reach_own (k := 1) rfl hx6)) ?_
    refine Gx.eff0 rfl rfl (eff_storeElA false rfl Try.ty4 rfl rfl rfl FB_one (k := 1) rfl FB_len hx6 (l' := [Hp.rec_ b5 [.int .i64 x4.who, .bool x4.all, .slice x4.a x4.n x4.c], Hp.own FB 1 fv (((f0N (l.take i) (List.replicate n true))).set x4.who.toNat false), Hp.rec_ b2 [fv]]) rfl) ?_
    rintro _ _ rfl
    refine Gx.done ?_
    refine Gx.blkN ?_
    refine Gx.thenN ?_
    refine Gx.region ?_
    refine Gx.val rfl rfl rfl (val_add rfl rfl rfl (r := ((i + 1 : Nat) : Int)) (w64 (by omega) (by omega))) ?_
    refine Gx.val rfl rfl rfl (val_move rfl rfl) ?_
    refine Gx.done ?_
    refine Gx.thenN ?_
    refine Gx.drop 0 rfl ?_
    refine Gx.norm (l' := [Hp.own FB 1 fv (f0N (l.take (i + 1)) (List.replicate n true)), Hp.rec_ b2 [fv]]) (by rw [f0N_snoc hx4] <;> rfl) ?_
    exact Gx.round (i + 1) (by first | omega | (dsimp only; omega)) (by first | omega | (dsimp only; omega)) ((.cons rfl (.cons rfl (.cons rfl (.cons rfl (.cons rfl (.cons rfl .nil))))))) rfl
  · refine Gx.exit ?_
    refine Gx.thenE ?_
    refine Gx.thenE ?_
    refine Gx.blkE ?_
    refine Gx.thenN ?_
    refine Gx.seq ?_
    obtain rfl : i = l.length := by omega
    refine Gx.norm (l' := [Hp.own FB 1 fv (f0N l (List.replicate n true)), Hp.rec_ b2 [fv]]) (by rw [List.take_length] <;> rfl) ?_
    refine Gx.region ?_
    refine Gx.val rfl rfl rfl (Val.cast (val_makeFunc (us := []) (vs := [ptr b2 0]) rfl rfl rfl) (v' := .func (.func 19) #[] #[ptr b2 0]) rfl) ?_
    refine Gx.val rfl rfl rfl (val_assign rfl rfl) ?_
    refine Gx.done ?_
    refine Gx.thenN ?_
    refine Gx.seq ?_
    refine Gx.region ?_
    refine Gx.val rfl rfl rfl (Val.cast (val_makeFunc (us := []) (vs := [ptr b2 0]) rfl rfl rfl) (v' := .func (.func 20) #[] #[ptr b2 0]) rfl) ?_
    refine Gx.val rfl rfl rfl (val_assign rfl rfl) ?_
    refine Gx.done ?_
    refine Gx.thenN ?_
    refine Gx.seq ?_
    refine Gx.seq ?_
    refine Gx.region ?_
    refine Gx.val rfl rfl rfl (val_move rfl rfl) ?_
    refine Gx.val rfl rfl rfl (val_move rfl rfl) ?_
    refine Gx.done ?_
    refine Gx.thenN ?_
    refine Gx.block ?_
    refine Gx.loop (ι := Nat) (fun ξ => (ξ ≤ n)) (fun ξ => [(0, .int .i64 ((n : Nat) : Int)), (1, nv), (7, ptr b2 0), (10, .func (.func 19) #[] #[ptr b2 0]), (11, .func (.func 20) #[] #[ptr b2 0]), (39, .int .i64 ((n : Nat) : Int)), (40, .int .i64 ((ξ : Nat) : Int))]) (fun ξ => [Hp.own FB 1 fv (roundN l ξ (f0N l (List.replicate n true))), Hp.rec_ b2 [fv]]) (fun ξ => n - ξ) 0 (by first | omega | (dsimp only; omega)) ((.cons rfl (.cons rfl (.cons rfl (.cons rfl (.cons rfl (.cons rfl (.cons rfl .nil)))))))) rfl ?_
    rintro r hr
    refine Gx.know (m' := [(0, .int .i64 ((n : Nat) : Int)), (1, nv), (7, ptr b2 0), (10, .func (.func 19) #[] #[ptr b2 0]), (11, .func (.func 20) #[] #[ptr b2 0]), (39, .int .i64 ((n : Nat) : Int)), (40, .int .i64 ((r : Nat) : Int))]) (.cons rfl (.cons rfl (.cons rfl (.cons rfl (.cons rfl (.cons rfl (.cons rfl .nil))))))) (Gx.norm (l' := [Hp.own FB 1 fv (roundN l r (f0N l (List.replicate n true))), Hp.rec_ b2 [fv]]) rfl ?_)
    refine Gx.seq ?_
    refine Gx.region ?_
    refine Gx.val rfl rfl rfl (val_lss rfl rfl rfl) ?_
    refine Gx.done ?_
    refine Gx.thenN ?_
    refine Gx.seq ?_
    refine Gx.dec rfl (fun h7 => ?_) (fun h7 => ?_)
    · refine Gx.skip ?_
      refine Gx.thenN ?_
      refine Gx.seq ?_
      refine Gx.block ?_
      refine Gx.seq ?_
      refine Gx.region ?_
      refine Gx.val rfl rfl rfl (val_move rfl rfl) ?_
      refine Gx.val rfl rfl rfl (val_len rfl Try.underlying22 rfl (len_base h.sl)) ?_
      refine Gx.val rfl rfl rfl (val_move rfl rfl) ?_
      refine Gx.done ?_
      refine Gx.thenN ?_
      refine Gx.block ?_
      refine Gx.loop (ι := Nat) (fun ξ => (ξ ≤ l.length)) (fun ξ => [(0, .int .i64 ((n : Nat) : Int)), (1, nv), (7, ptr b2 0), (10, .func (.func 19) #[] #[ptr b2 0]), (11, .func (.func 20) #[] #[ptr b2 0]), (39, .int .i64 ((n : Nat) : Int)), (40, .int .i64 ((r : Nat) : Int)), (42, nv), (43, .int .i64 ((l.length : Nat) : Int)), (44, .int .i64 ((ξ : Nat) : Int))]) (fun ξ => [Hp.own FB 1 fv (passN (l.take ξ) (roundN l r (f0N l (List.replicate n true)))), Hp.rec_ b2 [fv]]) (fun ξ => l.length - ξ) 0 (by first | omega | (dsimp only; omega)) ((.cons rfl (.cons rfl (.cons rfl (.cons rfl (.cons rfl (.cons rfl (.cons rfl (.cons rfl (.cons rfl (.cons rfl .nil))))))))))) rfl ?_
      rintro i hi
      refine Gx.know (m' := [(0, .int .i64 ((n : Nat) : Int)), (1, nv), (7, ptr b2 0), (10, .func (.func 19) #[] #[ptr b2 0]), (11, .func (.func 20) #[] #[ptr b2 0]), (39, .int .i64 ((n : Nat) : Int)), (40, .int .i64 ((r : Nat) : Int)), (42, nv), (43, .int .i64 ((l.length : Nat) : Int)), (44, .int .i64 ((i : Nat) : Int))]) (.cons rfl (.cons rfl (.cons rfl (.cons rfl (.cons rfl (.cons rfl (.cons rfl (.cons rfl (.cons rfl (.cons rfl .nil)))))))))) (Gx.norm (l' := [Hp.own FB 1 fv (passN (l.take i) (roundN l r (f0N l (List.replicate n true)))), Hp.rec_ b2 [fv]]) rfl ?_)
      obtain ⟨ff, hff⟩ : ∃ ff, ff = passN (l.take i) (roundN l r (f0N l (List.replicate n true))) := ⟨_, rfl⟩
      have hfl : ff.length = n := by rw [hff, passN_len, roundN_len, f0N_len, List.length_replicate]
      refine Gx.norm (l' := [Hp.own FB 1 fv ff, Hp.rec_ b2 [fv]]) (by rw [hff] <;> rfl) ?_
      refine Gx.seq ?_
      refine Gx.region ?_
      refine Gx.val rfl rfl rfl (val_lss rfl rfl rfl) ?_
      refine Gx.done ?_
      refine Gx.thenN ?_
      refine Gx.seq ?_
      refine Gx.dec rfl (fun h8 => ?_) (fun h8 => ?_)
      · refine Gx.skip ?_
        refine Gx.thenN ?_
        refine Gx.seq ?_
        refine Gx.block ?_
        refine Gx.seq ?_
        refine Gx.region ?_
        obtain ⟨x9, hx9⟩ := get_of_lt (xs := l) (k := i) (by omega)
        refine Gx.val rfl rfl rfl (val_ixa rfl Try.underlying22 Try.ty38 rfl rfl (j := i) (rfl) (reach_base h.sl hx9)) ?_
        refine Gx.val rfl rfl rfl (Val.cast (val_loadA rfl Try.ty38 rfl rfl rfl (cells_base h.sl hx9)) (v' := .agg #[.int .i64 x9.who, .bool x9.all, .slice x9.a x9.n x9.c]) rfl) ?_
        refine Gx.eff rfl rfl rfl (eff_alloc rfl Try.ty38 (vs := [.int .i64 0, .bool false, .slice none 0 0]) rfl) ?_
        rintro _ _ ⟨b10, rfl, rfl⟩
        refine Gx.eff0 rfl rfl (eff_store rfl Try.ty38 rfl rfl (us := [.int .i64 x9.who, .bool x9.all, .slice x9.a x9.n x9.c]) rfl rfl rfl (k := 0) rfl (rfl) (vs' := [.int .i64 x9.who, .bool x9.all, .slice x9.a x9.n x9.c]) (rfl) (l' := [Hp.rec_ b10 [.int .i64 x9.who, .bool x9.all, .slice x9.a x9.n x9.c], Hp.own FB 1 fv ff, Hp.rec_ b2 [fv]]) rfl) ?_
        rintro _ _ rfl
        refine Gx.done ?_
        refine Gx.thenN ?_
        refine Gx.seq ?_
        have hmem := List.mem_of_getElem? hx9
        have hxk := hk.el x9 hmem
        have hw0 := hxk.w0
        have hw1 := hxk.w1
        have hfx := h.fr x9 hmem
        refine Gx.region ?_
        refine Gx.val rfl rfl rfl (Val.cast (val_fieldAddr rfl Try.underlying38 rfl Try.ty4 rfl rfl) (v' := ptr b10 1) rfl) ?_
        refine Gx.val rfl rfl rfl (val_load rfl Try.ty4 rfl rfl (cell_rec (k := 0) rfl rfl)) ?_
        refine Gx.val rfl rfl rfl (val_move rfl rfl) ?_
        refine Gx.casesB (t := 50) rfl (fun h11 => ?_) (fun h11 => ?_)
        · refine Gx.valg rfl rfl rfl rfl rfl (Val.cast (val_fieldAddr rfl Try.underlying38 rfl Try.ty24 rfl rfl) (v' := ptr b10 2) rfl) ?_
          refine Gx.valg rfl rfl rfl rfl rfl (val_load rfl Try.ty24 rfl rfl (cell_rec (k := 0) rfl rfl)) ?_
          refine Gx.valg rfl rfl rfl rfl rfl (val_move rfl rfl) ?_
          refine Gx.valg rfl rfl rfl rfl rfl (val_call (vs := [.slice x9.a x9.n x9.c, .func (.func 20) #[] #[ptr b2 0]]) rfl Try.fn21 rfl (fun w H => contains_any20 (q := fun k => !(ff.getD k.toNat false)) (hfx.below H.below) (fun w' hb k hk9 => not_any (Nat.lt_of_lt_of_le (H.at_ (k := 2) rfl).rec_.1 hb.size) ((hb.cell (p := ⟨b2, 0, none⟩) (H.at_ (k := 2) rfl).rec_.1).trans ((H.at_ (k := 2) rfl).cell 0 rfl)) (((H.at_ (k := 1) rfl).sls (by omega)).below hb) (hxk.fr k hk9).1 (by rw [hfl]; exact (hxk.fr k hk9).2)))) ?_
          refine Gx.valg rfl rfl rfl rfl rfl (val_not rfl rfl) ?_
          refine Gx.val rfl rfl rfl (val_pickT rfl rfl rfl) ?_
          refine Gx.val rfl rfl rfl (val_move rfl rfl) ?_
          refine Gx.casesB (t := 57) rfl (fun h12 => ?_) (fun h12 => ?_)
          · refine Gx.skipg rfl rfl rfl rfl rfl rfl ?_
            refine Gx.skipg rfl rfl rfl rfl rfl rfl ?_
            refine Gx.skipg rfl rfl rfl rfl rfl rfl ?_
            refine Gx.skipg rfl rfl rfl rfl rfl rfl ?_
            refine Gx.skipu rfl rfl rfl rfl rfl ?_
            refine Gx.skipu rfl rfl rfl rfl rfl ?_
            refine Gx.skipu rfl rfl rfl rfl rfl ?_
            refine Gx.skipu rfl rfl rfl rfl rfl ?_
            refine Gx.skipg rfl rfl rfl rfl rfl rfl ?_
            refine Gx.val rfl rfl rfl (val_pickT rfl rfl rfl) ?_
            refine Gx.done ?_
            refine Gx.thenN ?_
            refine Gx.t rfl ?_
            refine Gx.region ?_
            refine Gx.val rfl rfl rfl (val_load rfl Try.ty36 rfl rfl (cell_rec (k := 2) rfl rfl)) ?_
            refine Gx.val rfl rfl rfl (Val.cast (val_fieldAddr rfl Try.underlying38 rfl Try.ty3 rfl rfl) (v' := ptr b10 0) rfl) ?_
            refine Gx.val rfl rfl rfl (val_load rfl Try.ty3 rfl rfl (cell_rec (k := 0) rfl rfl)) ?_
            obtain ⟨x13, hx13⟩ := get_of_lt (xs := ff) (k := x9.who.toNat) (by omega)
            refine Gx.val rfl rfl rfl (val_ixa rfl Try.underlying36 Try.ty4 rfl rfl (j := x9.who.toNat) (by omega) (reach_own (k := 1) rfl hx13)) ?_
            refine Gx.eff0 rfl rfl (eff_storeElA true rfl Try.ty4 rfl rfl rfl FB_one (k := 1) rfl FB_len hx13 (l' := [Hp.rec_ b10 [.int .i64 x9.who, .bool x9.all, .slice x9.a x9.n x9.c], Hp.own FB 1 fv (ff.set x9.who.toNat true), Hp.rec_ b2 [fv]]) rfl) ?_
            rintro _ _ rfl
            refine Gx.done ?_
            refine Gx.blkN ?_
            refine Gx.thenN ?_
            refine Gx.region ?_
            refine Gx.val rfl rfl rfl (val_add rfl rfl rfl (r := ((i + 1 : Nat) : Int)) (w64 (by omega) (by omega))) ?_
            refine Gx.val rfl rfl rfl (val_move rfl rfl) ?_
            refine Gx.done ?_
            refine Gx.thenN ?_
            refine Gx.drop 0 rfl ?_
            have hcn : condN ff x9 = true := by unfold condN; simp_all
            refine Gx.norm (l' := [Hp.own FB 1 fv (passN (l.take (i + 1)) (roundN l r (f0N l (List.replicate n true)))), Hp.rec_ b2 [fv]]) (by rw [passN_snoc hx9, ← hff]; unfold stepN; rw [if_pos hcn] <;> rfl) ?_
            exact Gx.round (i + 1) (by first | omega | (dsimp only; omega)) (by first | omega | (dsimp only; omega)) ((.cons rfl (.cons rfl (.cons rfl (.cons rfl (.cons rfl (.cons rfl (.cons rfl (.cons rfl (.cons rfl (.cons rfl .nil))))))))))) rfl
          · refine Gx.valg rfl rfl rfl rfl rfl (Val.cast (val_fieldAddr rfl Try.underlying38 rfl Try.ty4 rfl rfl) (v' := ptr b10 1) rfl) ?_
            refine Gx.valg rfl rfl rfl rfl rfl (val_load rfl Try.ty4 rfl rfl (cell_rec (k := 0) rfl rfl)) ?_
            refine Gx.valg rfl rfl rfl rfl rfl (val_not rfl rfl) ?_
            refine Gx.valg rfl rfl rfl rfl rfl (val_move rfl rfl) ?_
            refine Gx.slot (t := 61) (v := .bool false) (look_boolF rfl (by simp [h11])) ?_
            refine Gx.skipg rfl rfl rfl rfl rfl rfl ?_
            refine Gx.skipg rfl rfl rfl rfl rfl rfl ?_
            refine Gx.skipg rfl rfl rfl rfl rfl rfl ?_
            refine Gx.skipg rfl rfl rfl rfl rfl rfl ?_
            refine Gx.valg rfl rfl rfl rfl rfl (val_pickF rfl rfl rfl) ?_
            refine Gx.val rfl rfl rfl (val_pickF rfl rfl rfl) ?_
            refine Gx.done ?_
            refine Gx.thenN ?_
            refine Gx.f rfl ?_
            refine Gx.skip ?_
            refine Gx.blkN ?_
            refine Gx.thenN ?_
            refine Gx.region ?_
            refine Gx.val rfl rfl rfl (val_add rfl rfl rfl (r := ((i + 1 : Nat) : Int)) (w64 (by omega) (by omega))) ?_
            refine Gx.val rfl rfl rfl (val_move rfl rfl) ?_
            refine Gx.done ?_
            refine Gx.thenN ?_
            refine Gx.drop 0 rfl ?_
            have hcn : condN ff x9 = false := by unfold condN; simp_all
            refine Gx.norm (l' := [Hp.own FB 1 fv (passN (l.take (i + 1)) (roundN l r (f0N l (List.replicate n true)))), Hp.rec_ b2 [fv]]) (by rw [passN_snoc hx9, ← hff]; unfold stepN; rw [if_neg (by rw [hcn]; decide)] <;> rfl) ?_
            exact Gx.round (i + 1) (by first | omega | (dsimp only; omega)) (by first | omega | (dsimp only; omega)) ((.cons rfl (.cons rfl (.cons rfl (.cons rfl (.cons rfl (.cons rfl (.cons rfl (.cons rfl (.cons rfl (.cons rfl .nil))))))))))) rfl
        · refine Gx.skipg rfl rfl rfl rfl rfl rfl ?_
          refine Gx.skipg rfl rfl rfl rfl rfl rfl ?_
          refine Gx.skipg rfl rfl rfl rfl rfl rfl ?_
          refine Gx.skipg rfl rfl rfl rfl rfl rfl ?_
          refine Gx.skipg rfl rfl rfl rfl rfl rfl ?_
          refine Gx.val rfl rfl rfl (val_pickF rfl rfl rfl) ?_
          refine Gx.val rfl rfl rfl (val_move rfl rfl) ?_
          refine Gx.valg rfl rfl rfl rfl rfl (Val.cast (val_fieldAddr rfl Try.underlying38 rfl Try.ty4 rfl rfl) (v' := ptr b10 1) rfl) ?_
          refine Gx.valg rfl rfl rfl rfl rfl (val_load rfl Try.ty4 rfl rfl (cell_rec (k := 0) rfl rfl)) ?_
          refine Gx.valg rfl rfl rfl rfl rfl (val_not rfl rfl) ?_
          refine Gx.valg rfl rfl rfl rfl rfl (val_move rfl rfl) ?_
          refine Gx.slot (t := 61) (v := .bool true) (look_boolT rfl (by simp [h11])) ?_
          refine Gx.valg rfl rfl rfl rfl rfl (Val.cast (val_fieldAddr rfl Try.underlying38 rfl Try.ty24 rfl rfl) (v' := ptr b10 2) rfl) ?_
          refine Gx.valg rfl rfl rfl rfl rfl (val_load rfl Try.ty24 rfl rfl (cell_rec (k := 0) rfl rfl)) ?_
          refine Gx.valg rfl rfl rfl rfl rfl (val_move rfl rfl) ?_
          refine Gx.valg rfl rfl rfl rfl rfl (val_call (vs := [.slice x9.a x9.n x9.c, .func (.func 19) #[] #[ptr b2 0]]) rfl Try.fn21 rfl (fun w H => contains_any19 (q := fun k => ff.getD k.toNat false) (hfx.below H.below) (fun w' hb k hk9 => free_any (Nat.lt_of_lt_of_le (H.at_ (k := 2) rfl).rec_.1 hb.size) ((hb.cell (p := ⟨b2, 0, none⟩) (H.at_ (k := 2) rfl).rec_.1).trans ((H.at_ (k := 2) rfl).cell 0 rfl)) (((H.at_ (k := 1) rfl).sls (by omega)).below hb) (hxk.fr k hk9).1 (by rw [hfl]; exact (hxk.fr k hk9).2)))) ?_
          refine Gx.valg rfl rfl rfl rfl rfl (val_pickT rfl rfl rfl) ?_
          refine Gx.val rfl rfl rfl (val_pickF rfl rfl rfl) ?_
          refine Gx.done ?_
          refine Gx.thenN ?_
          refine Gx.bool rfl (fun h14 => ?_) (fun h14 => ?_)
          · refine Gx.region ?_
            refine Gx.val rfl rfl rfl (val_load rfl Try.ty36 rfl rfl (cell_rec (k := 2) rfl rfl)) ?_
            refine Gx.val rfl rfl rfl (Val.cast (val_fieldAddr rfl Try.underlying38 rfl Try.ty3 rfl rfl) (v' := ptr b10 0) rfl) ?_
            refine Gx.val rfl rfl rfl (val_load rfl Try.ty3 rfl rfl (cell_rec (k := 0) rfl rfl)) ?_
            obtain ⟨x15, hx15⟩ := get_of_lt (xs := ff) (k := x9.who.toNat) (by omega)
            refine Gx.val rfl rfl rfl (val_ixa rfl Try.underlying36 Try.ty4 rfl rfl (j := x9.who.toNat) (by omega) (reach_own (k := 1) rfl hx15)) ?_
            refine Gx.eff0 rfl rfl (eff_storeElA true rfl Try.ty4 rfl rfl rfl FB_one (k := 1) rfl FB_len hx15 (l' := [Hp.rec_ b10 [.int .i64 x9.who, .bool x9.all, .slice x9.a x9.n x9.c], Hp.own FB 1 fv (ff.set x9.who.toNat true), Hp.rec_ b2 [fv]]) rfl) ?_
            rintro _ _ rfl
            refine Gx.done ?_
            refine Gx.blkN ?_
            refine Gx.thenN ?_
            refine Gx.region ?_
            refine Gx.val rfl rfl rfl (val_add rfl rfl rfl (r := ((i + 1 : Nat) : Int)) (w64 (by omega) (by omega))) ?_
            refine Gx.val rfl rfl rfl (val_move rfl rfl) ?_
            refine Gx.done ?_
            refine Gx.thenN ?_
            refine Gx.drop 0 rfl ?_
            have hcn : condN ff x9 = true := by unfold condN; simp_all
            refine Gx.norm (l' := [Hp.own FB 1 fv (passN (l.take (i + 1)) (roundN l r (f0N l (List.replicate n true)))), Hp.rec_ b2 [fv]]) (by rw [passN_snoc hx9, ← hff]; unfold stepN; rw [if_pos hcn] <;> rfl) ?_
            exact Gx.round (i + 1) (by first | omega | (dsimp only; omega)) (by first | omega | (dsimp only; omega)) ((.cons rfl (.cons rfl (.cons rfl (.cons rfl (.cons rfl (.cons rfl (.cons rfl (.cons rfl (.cons rfl (.cons rfl .nil))))))))))) rfl
          · refine Gx.skip ?_
            refine Gx.blkN ?_
            refine Gx.thenN ?_
            refine Gx.region ?_
            refine Gx.val rfl rfl rfl (val_add rfl rfl rfl (r := ((i + 1 : Nat) : Int)) (w64 (by omega) (by omega))) ?_
            refine Gx.val rfl rfl rfl (val_move rfl rfl) ?_
            refine Gx.done ?_
            refine Gx.thenN ?_
            refine Gx.drop 0 rfl ?_
            have hcn : condN ff x9 = false := by unfold condN; simp_all
            refine Gx.norm (l' := [Hp.own FB 1 fv (passN (l.take (i + 1)) (roundN l r (f0N l (List.replicate n true)))), Hp.rec_ b2 [fv]]) (by rw [passN_snoc hx9, ← hff]; unfold stepN; rw [if_neg (by rw [hcn]; decide)] <;> rfl) ?_
            exact Gx.round (i + 1) (by first | omega | (dsimp only; omega)) (by first | omega | (dsimp only; omega)) ((.cons rfl (.cons rfl (.cons rfl (.cons rfl (.cons rfl (.cons rfl (.cons rfl (.cons rfl (.cons rfl (.cons rfl .nil))))))))))) rfl
      · refine Gx.exit ?_
        refine Gx.thenE ?_
        refine Gx.thenE ?_
        refine Gx.blkE ?_
        refine Gx.blkN ?_
        refine Gx.thenN ?_
        obtain rfl : i = l.length := by omega
        refine Gx.norm (l' := [Hp.own FB 1 fv (roundN l (r + 1) (f0N l (List.replicate n true))), Hp.rec_ b2 [fv]]) (by rw [hff, List.take_length] <;> rfl) ?_
        refine Gx.region ?_
        refine Gx.val rfl rfl rfl (val_add rfl rfl rfl (r := ((r + 1 : Nat) : Int)) (w64 (by omega) (by omega))) ?_
        refine Gx.val rfl rfl rfl (val_move rfl rfl) ?_
        refine Gx.done ?_
        refine Gx.thenN ?_
        exact Gx.round (r + 1) (by first | omega | (dsimp only; omega)) (by first | omega | (dsimp only; omega)) ((.cons rfl (.cons rfl (.cons rfl (.cons rfl (.cons rfl (.cons rfl (.cons rfl .nil)))))))) rfl
    · refine Gx.exit ?_
      refine Gx.thenE ?_
      refine Gx.thenE ?_
      refine Gx.blkE ?_
      refine Gx.thenN ?_
      refine Gx.seq ?_
      obtain rfl : n = r := by omega
      obtain ⟨ff, hff⟩ : ∃ ff, ff = freeN n l := ⟨_, rfl⟩
      have hfl : ff.length = n := by rw [hff]; unfold freeN; rw [roundN_len, f0N_len, List.length_replicate]
      refine Gx.norm (l' := [Hp.own FB 1 fv ff, Hp.rec_ b2 [fv]]) (by rw [hff] <;> rfl) ?_
      refine Gx.ownNil FN 1 ?_
      refine Gx.region ?_
      refine Gx.val rfl rfl rfl (val_assign rfl rfl) ?_
      refine Gx.done ?_
      refine Gx.thenN ?_
      refine Gx.seq ?_
      refine Gx.seq ?_
      refine Gx.region ?_
      refine Gx.val rfl rfl rfl (val_load rfl Try.ty36 rfl rfl (cell_rec (k := 2) rfl rfl)) ?_
      refine Gx.val rfl rfl rfl (val_len rfl Try.underlying36 rfl (len_own (k := 1) rfl)) ?_
      refine Gx.val rfl rfl rfl (val_move rfl rfl) ?_
      refine Gx.done ?_
      refine Gx.thenN ?_
      refine Gx.block ?_
      refine Gx.loop (ι := Nat × Value) (fun ξ => (ξ.1 ≤ n) ∧ (IsS ξ.2)) (fun ξ => [(7, ptr b2 0), (74, fv), (75, .int .i64 ((ff.length : Nat) : Int)), (76, .int .i64 ((ξ.1 : Nat) : Int)), (14, ξ.2)]) (fun ξ => [Hp.own FN 1 ξ.2 (stkU ff ξ.1), Hp.own FB 1 fv ff, Hp.rec_ b2 [fv]]) (fun ξ => n - ξ.1) (0, (.slice none 0 0)) ⟨by first | omega | (dsimp only; omega), ⟨none, 0, 0, rfl⟩⟩ ((.cons rfl (.cons rfl (.cons rfl (.cons rfl (.cons rfl .nil)))))) rfl ?_
      rintro ⟨k, lv⟩ ⟨hk9, hil⟩
      dsimp only at hk9 hil
      refine Gx.know (m' := [(7, ptr b2 0), (74, fv), (75, .int .i64 ((ff.length : Nat) : Int)), (76, .int .i64 ((k : Nat) : Int)), (14, lv)]) (.cons rfl (.cons rfl (.cons rfl (.cons rfl (.cons rfl .nil))))) (Gx.norm (l' := [Hp.own FN 1 lv (stkU ff k), Hp.own FB 1 fv ff, Hp.rec_ b2 [fv]]) rfl ?_)
      have hsl := stkU_le ff k
      refine Gx.seq ?_
      refine Gx.region ?_
      refine Gx.val rfl rfl rfl (val_lss rfl rfl rfl) ?_
      refine Gx.done ?_
      refine Gx.thenN ?_
      refine Gx.seq ?_
      refine Gx.dec rfl (fun h16 => ?_) (fun h16 => ?_)
      · refine Gx.skip ?_
        refine Gx.thenN ?_
        refine Gx.seq ?_
        refine Gx.block ?_
        refine Gx.seq ?_
        refine Gx.region ?_
        refine Gx.val rfl rfl rfl (val_move rfl rfl) ?_
        obtain ⟨x17, hx17⟩ := get_of_lt (xs := ff) (k := k) (by omega)
        refine Gx.val rfl rfl rfl (val_ixa rfl Try.underlying36 Try.ty4 rfl rfl (j := k) (rfl) (reach_own (k := 1) rfl hx17)) ?_
        refine Gx.val rfl rfl rfl (val_load rfl Try.ty4 rfl rfl (cell_own (i := 0) (k := 1) rfl hx17 rfl)) ?_
        refine Gx.val rfl rfl rfl (val_assign rfl rfl) ?_
        refine Gx.val rfl rfl rfl (val_assign rfl rfl) ?_
        refine Gx.done ?_
        refine Gx.thenN ?_
        refine Gx.seq ?_
        refine Gx.region ?_
        refine Gx.val rfl rfl rfl (val_move rfl rfl) ?_
        refine Gx.val rfl rfl rfl (val_not rfl rfl) ?_
        refine Gx.done ?_
        refine Gx.thenN ?_
        refine Gx.bool rfl (fun h18 => ?_) (fun h18 => ?_)
        · refine Gx.region ?_
          refine Gx.val rfl rfl rfl (val_move rfl rfl) ?_
          refine Gx.val rfl rfl rfl (val_move rfl rfl) ?_
          refine Gx.eff rfl rfl rfl (eff_buildSlice rfl (qs := [(0, .int .i64 ((k : Nat) : Int))]) rfl rfl (cs := #[.int .i64 ((k : Nat) : Int)]) (vs := [.int .i64 ((k : Nat) : Int)]) (E := 3) rfl (fun w => by first | (go_simp; done) | (go_simp; rfl))) ?_
          rintro _ _ ⟨b19, rfl, rfl⟩
          refine Gx.eff rfl rfl rfl (eff_push (r := k) rfl Try.eN FN_len FN_one rfl rfl (k := 0) rfl rfl (k' := 0) rfl (by omega) (by omega)) ?_
          rintro v20 _ ⟨hiv20, rfl⟩
          refine Gx.norm (l' := [Hp.own FN 1 v20 ((stkU ff k) ++ [k]), Hp.own FB 1 fv ff, Hp.rec_ b2 [fv]]) rfl ?_
          refine Gx.val rfl rfl rfl (val_assign rfl rfl) ?_
          refine Gx.done ?_
          refine Gx.blkN ?_
          refine Gx.thenN ?_
          refine Gx.region ?_
          refine Gx.val rfl rfl rfl (val_add rfl rfl rfl (r := ((k + 1 : Nat) : Int)) (w64 (by omega) (by omega))) ?_
          refine Gx.val rfl rfl rfl (val_move rfl rfl) ?_
          refine Gx.done ?_
          refine Gx.thenN ?_
          have hgd : ff.getD k false = x17 := getD_of hx17
          refine Gx.norm (l' := [Hp.own FN 1 v20 (stkU ff (k + 1)), Hp.own FB 1 fv ff, Hp.rec_ b2 [fv]]) (by rw [stkU, hgd]; simp_all) ?_
          exact Gx.round (k + 1, v20) ⟨by first | omega | (dsimp only; omega), hiv20⟩ (by first | omega | (dsimp only; omega)) ((.cons rfl (.cons rfl (.cons rfl (.cons rfl (.cons rfl .nil)))))) rfl
        · refine Gx.skip ?_
          refine Gx.blkN ?_
          refine Gx.thenN ?_
          refine Gx.region ?_
          refine Gx.val rfl rfl rfl (val_add rfl rfl rfl (r := ((k + 1 : Nat) : Int)) (w64 (by omega) (by omega))) ?_
          refine Gx.val rfl rfl rfl (val_move rfl rfl) ?_
          refine Gx.done ?_
          refine Gx.thenN ?_
          have hgd : ff.getD k false = x17 := getD_of hx17
          refine Gx.norm (l' := [Hp.own FN 1 lv (stkU ff (k + 1)), Hp.own FB 1 fv ff, Hp.rec_ b2 [fv]]) (by rw [stkU, hgd]; simp_all) ?_
          exact Gx.round (k + 1, lv) ⟨by first | omega | (dsimp only; omega), hil⟩ (by first | omega | (dsimp only; omega)) ((.cons rfl (.cons rfl (.cons rfl (.cons rfl (.cons rfl .nil)))))) rfl
      · refine Gx.exit ?_
        refine Gx.thenE ?_
        refine Gx.thenE ?_
        refine Gx.blkE ?_
        refine Gx.thenN ?_
        refine Gx.seq ?_
        refine Gx.region ?_
        refine Gx.val rfl rfl rfl (val_move rfl rfl) ?_
        refine Gx.val rfl rfl rfl (val_assign rfl rfl) ?_
        refine Gx.val rfl rfl rfl (val_assign rfl rfl) ?_
        refine Gx.done ?_
        refine Gx.thenN ?_
        refine Gx.ret ?_
        refine Gx.drop 2 rfl ?_
        refine Gx.drop 1 rfl ?_
        refine Gx.ret2 Try.results7 rfl rfl ?_
        obtain rfl : k = n := by omega
        subst hff
        exact ⟨_, rfl, rfl⟩
  rintro v l' w ⟨sv, rfl, rfl⟩ H
  have := stkU_le (freeN n l) n
  exact ⟨sv, rfl, (H.at_ (k := 0) rfl).sls (by unfold stuckN; omega)⟩
end Go.Proofs.Ytplcflifofomjaa
