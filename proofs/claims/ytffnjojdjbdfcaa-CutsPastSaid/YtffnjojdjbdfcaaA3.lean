/- A search in a sorted list; how many stand up to an event; what is missing in a cut. The walks. No condition. -/
import Derived.Test.YtffnjojdjbdfcaaD1
namespace Go.Proofs.Ytffnjojdjbdfcaa
open Go.RowKit
set_option linter.unusedVariables false
set_option linter.unusedSimpArgs false
set_option maxRecDepth 100000

theorem u64_wrap {a : Nat} (h : a < 9223372036854775808) : IntKind.u64.wrap (a : Int) = (a : Int) := by
  simp [IntKind.wrap, IntKind.bits, IntKind.signed]; omega
theorem shr_half (a : Nat) : (a : Int).fdiv (2 ^ 1) = ((a / 2 : Nat) : Int) := by
  rw [Int.fdiv_eq_ediv_of_nonneg _ (by decide)]; omega
structure WOk (W : World) (n : Nat) (l : List En) (wb : Nat) (hv ofv : Value) (rows : List Rw) : Prop where
  hb : wb < W.heap.size
  c0 : W.cell? ⟨wb, 0, none⟩ = some hv
  c1 : W.cell? ⟨wb, 1, none⟩ = some ofv
  hs : SlS FEn 3 W hv l
  hr : SlS FW 1 W ofv rows
  rl : rows.length = n
  row : ∀ (p : Nat) (r : Rw), rows[p]? = some r → r.xs = ofL l p l.length ∧ SlS FN 1 W (.slice r.a r.n r.c) r.xs
theorem WOk.below {W W' : World} {n : Nat} {l : List En} {wb : Nat} {hv ofv : Value} {rows : List Rw} (h : WOk W n l wb hv ofv rows) (b : Below W.heap.size W W') : WOk W' n l wb hv ofv rows :=
  ⟨Nat.lt_of_lt_of_le h.hb b.size, (b.cell (p := ⟨wb, 0, none⟩) h.hb).trans h.c0, (b.cell (p := ⟨wb, 1, none⟩) h.hb).trans h.c1, h.hs.below b, h.hr.below b, h.rl, fun p r hr => ⟨(h.row p r hr).1, (h.row p r hr).2.below b⟩⟩
theorem of_sorted (l : List En) (p k : Nat) : (ofL l p k).Pairwise (· < ·) := List.Pairwise.filter _ List.pairwise_lt_range
theorem nan36 (a : Int) (W : World) : Calls Try.prog 36 #[.int .i64 a] W fun e w' => e = .returned (.bool false) ∧ Below W.heap.size W w' := by
  refine calls_pure (Gx.enter (l := []) Try.func36 rfl Try.ntmps36 rfl (Sat.start W) ?_)
  refine Gx.know (m' := [(0, .int .i64 a)]) (.cons rfl .nil) ?_
  refine Gx.seq ?_
  refine Gx.region ?_
  refine Gx.val rfl rfl rfl (val_assign rfl rfl) ?_
  refine Gx.done ?_
  refine Gx.thenN ?_
  refine Gx.seq ?_
  refine Gx.region ?_
  refine Gx.val rfl rfl rfl (val_move rfl rfl) ?_
  refine Gx.val rfl rfl rfl (val_move rfl rfl) ?_
  refine Gx.val rfl rfl rfl (val_neq rfl rfl rfl) ?_
  refine Gx.val rfl rfl rfl (val_assign rfl rfl) ?_
  refine Gx.done ?_
  refine Gx.thenN ?_
  refine Gx.ret ?_
  refine Gx.ret1 Try.results36 rfl ?_
  exact congrArg Value.bool (by simp)

theorem nan37 (a : Int) (W : World) : Calls Try.prog 37 #[.int .i64 a] W fun e w' => e = .returned (.bool false) ∧ Below W.heap.size W w' := by
  refine calls_pure (Gx.enter (l := []) Try.func37 rfl Try.ntmps37 rfl (Sat.start W) ?_)
  refine Gx.know (m' := [(0, .int .i64 a)]) (.cons rfl .nil) ?_
  refine Gx.seq ?_
  refine Gx.region ?_
  refine Gx.val rfl rfl rfl (val_assign rfl rfl) ?_
  refine Gx.done ?_
  refine Gx.thenN ?_
  refine Gx.seq ?_
  refine Gx.region ?_
  refine Gx.val rfl rfl rfl (val_move rfl rfl) ?_
  refine Gx.val rfl rfl rfl (val_move rfl rfl) ?_
  refine Gx.val rfl rfl rfl (val_neq rfl rfl rfl) ?_
  refine Gx.val rfl rfl rfl (val_assign rfl rfl) ?_
  refine Gx.done ?_
  refine Gx.thenN ?_
  refine Gx.ret ?_
  refine Gx.ret1 Try.results37 rfl ?_
  exact congrArg Value.bool (by simp)

theorem less_any (a b : Int) (W : World) : Calls Try.prog 35 #[.int .i64 a, .int .i64 b] W fun e w' => e = .returned (.bool (decide (a < b))) ∧ Below W.heap.size W w' := by
  refine calls_pure (Gx.enter (l := []) Try.func35 rfl Try.ntmps35 rfl (Sat.start W) ?_)
  refine Gx.know (m' := [(0, .int .i64 a), (1, .int .i64 b)]) (.cons rfl (.cons rfl .nil)) ?_
  refine Gx.seq ?_
  refine Gx.region ?_
  refine Gx.val rfl rfl rfl (val_assign rfl rfl) ?_
  refine Gx.done ?_
  refine Gx.thenN ?_
  refine Gx.seq ?_
  refine Gx.region ?_
  refine Gx.val rfl rfl rfl (val_move rfl rfl) ?_
  refine Gx.val rfl rfl rfl (val_call (vs := [.int .i64 a]) rfl Try.fn37 rfl (fun w H => nan37 a _)) ?_
  refine Gx.val rfl rfl rfl (val_move rfl rfl) ?_
  refine Gx.skipg rfl rfl rfl rfl rfl rfl ?_
  refine Gx.skipg rfl rfl rfl rfl rfl rfl ?_
  refine Gx.skipg rfl rfl rfl rfl rfl rfl ?_
  refine Gx.val rfl rfl rfl (val_pickF rfl rfl rfl) ?_
  refine Gx.val rfl rfl rfl (val_move rfl rfl) ?_
  refine Gx.valg rfl rfl rfl rfl rfl (val_move rfl rfl) ?_
  refine Gx.valg rfl rfl rfl rfl rfl (val_move rfl rfl) ?_
  refine Gx.valg rfl rfl rfl rfl rfl (val_lss rfl rfl rfl) ?_
  refine Gx.val rfl rfl rfl (val_pickF rfl rfl rfl) ?_
  refine Gx.val rfl rfl rfl (val_assign rfl rfl) ?_
  refine Gx.done ?_
  refine Gx.thenN ?_
  refine Gx.ret ?_
  refine Gx.ret1 Try.results35 rfl ?_
  rfl

theorem sorted_lt {xs : List Nat} (hst : xs.Pairwise (· < ·)) {a b x y : Nat} (ha : xs[a]? = some x) (hb : xs[b]? = some y) (h : a < b) : x < y := by
  obtain ⟨h1, rfl⟩ := List.getElem?_eq_some_iff.1 ha
  obtain ⟨h2, rfl⟩ := List.getElem?_eq_some_iff.1 hb
  exact List.pairwise_iff_getElem.1 hst a b h1 h2 h
theorem sorted_le {xs : List Nat} (hst : xs.Pairwise (· < ·)) {a b x y : Nat} (ha : xs[a]? = some x) (hb : xs[b]? = some y) (h : a ≤ b) : x ≤ y := by
  rcases Nat.lt_or_eq_of_le h with h | rfl
  · exact Nat.le_of_lt (sorted_lt hst ha hb h)
  · cases ha.symm.trans hb; exact Nat.le_refl _
theorem bs_any {W : World} {va : Value} {xs : List Nat} {k z : Nat} (ha : SlS FN 1 W va xs) (hst : xs.Pairwise (· < ·)) (hz : xs[k]? = some z) : Calls Try.prog 33 #[va, .int .i64 ((z : Nat) : Int)] W fun e w' => e = .returned (.tuple #[.int .i64 ((k : Nat) : Int), .bool true]) ∧ Below W.heap.size W w' := by
  have m1 := sls_bd ha
  have hkl := (List.getElem?_eq_some_iff.1 hz).1
  refine calls_pure (Gx.enter (l := []) Try.func33 rfl Try.ntmps33 rfl (Sat.start W) ?_)
  refine Gx.know (m' := [(0, va), (1, .int .i64 ((z : Nat) : Int))]) (.cons rfl (.cons rfl .nil)) ?_
  refine Gx.seq ?_
  refine Gx.region ?_
  refine Gx.val rfl rfl rfl (val_assign rfl rfl) ?_
  refine Gx.val rfl rfl rfl (val_assign rfl rfl) ?_
  refine Gx.done ?_
  refine Gx.thenN ?_
  refine Gx.seq ?_
  refine Gx.region ?_
  refine Gx.val rfl rfl rfl (val_move rfl rfl) ?_
  refine Gx.val rfl rfl rfl (val_len rfl Try.underlying23 rfl (len_base ha)) ?_
  refine Gx.val rfl rfl rfl (val_assign rfl rfl) ?_
  refine Gx.done ?_
  refine Gx.thenN ?_
  refine Gx.seq ?_
  refine Gx.region ?_
  refine Gx.val rfl rfl rfl (val_move rfl rfl) ?_
  refine Gx.val rfl rfl rfl (val_assign rfl rfl) ?_
  refine Gx.val rfl rfl rfl (val_assign rfl rfl) ?_
  refine Gx.done ?_
  refine Gx.thenN ?_
  refine Gx.seq ?_
  refine Gx.block ?_
  refine Gx.loop (ι := Nat × Nat) (fun ξ => (ξ.1 ≤ k) ∧ (k ≤ ξ.2) ∧ (ξ.2 ≤ xs.length)) (fun ξ => [(0, va), (1, .int .i64 ((z : Nat) : Int)), (6, .int .i64 ((xs.length : Nat) : Int)), (7, .int .i64 ((ξ.1 : Nat) : Int)), (8, .int .i64 ((ξ.2 : Nat) : Int))]) (fun ξ => []) (fun ξ => ξ.2 - ξ.1) (0, xs.length) ⟨by first | omega | (dsimp only; omega), by first | omega | (dsimp only; omega), by first | omega | (dsimp only; omega)⟩ ((.cons rfl (.cons rfl (.cons rfl (.cons rfl (.cons rfl .nil)))))) rfl ?_
  rintro ⟨i, j⟩ ⟨hi, hj, hjl⟩
  dsimp only at hi hj hjl
  refine Gx.know (m' := [(0, va), (1, .int .i64 ((z : Nat) : Int)), (6, .int .i64 ((xs.length : Nat) : Int)), (7, .int .i64 ((i : Nat) : Int)), (8, .int .i64 ((j : Nat) : Int))]) (.cons rfl (.cons rfl (.cons rfl (.cons rfl (.cons rfl .nil))))) (Gx.norm (l' := []) rfl ?_)
  refine Gx.seq ?_
  refine Gx.seq ?_
  refine Gx.region ?_
  refine Gx.val rfl rfl rfl (val_move rfl rfl) ?_
  refine Gx.val rfl rfl rfl (val_move rfl rfl) ?_
  refine Gx.val rfl rfl rfl (val_lss rfl rfl rfl) ?_
  refine Gx.done ?_
  refine Gx.thenN ?_
  refine Gx.dec rfl (fun h1 => ?_) (fun h1 => ?_)
  · refine Gx.skip ?_
    refine Gx.thenN ?_
    refine Gx.block ?_
    refine Gx.seq ?_
    refine Gx.region ?_
    refine Gx.val rfl rfl rfl (val_move rfl rfl) ?_
    refine Gx.val rfl rfl rfl (val_move rfl rfl) ?_
    refine Gx.val rfl rfl rfl (val_add rfl rfl rfl (r := ((i + j : Nat) : Int)) (w64 (by omega) (by omega))) ?_
    refine Gx.val rfl rfl rfl (val_conv rfl Try.underlying3 Try.underlying65 rfl (r := ((i + j : Nat) : Int)) (u64_wrap (by omega))) ?_
    refine Gx.val rfl rfl rfl (val_shr (b := 1) rfl rfl rfl rfl (by decide) (shr_half (i + j))) ?_
    refine Gx.val rfl rfl rfl (val_conv rfl Try.underlying65 Try.underlying3 rfl (r := (((i + j) / 2 : Nat) : Int)) (w64 rfl (by omega))) ?_
    refine Gx.val rfl rfl rfl (val_assign rfl rfl) ?_
    refine Gx.done ?_
    refine Gx.thenN ?_
    refine Gx.seq ?_
    refine Gx.region ?_
    refine Gx.val rfl rfl rfl (val_move rfl rfl) ?_
    refine Gx.val rfl rfl rfl (val_move rfl rfl) ?_
    obtain ⟨x2, hx2⟩ := get_of_lt (xs := xs) (k := (i + j) / 2) (by omega)
    refine Gx.val rfl rfl rfl (val_ixa rfl Try.underlying23 Try.ty3 rfl rfl (j := (i + j) / 2) (rfl) (reach_base ha hx2)) ?_
    refine Gx.val rfl rfl rfl (val_load rfl Try.ty3 rfl rfl (cell_base (i := 0) ha hx2 rfl)) ?_
    refine Gx.val rfl rfl rfl (val_move rfl rfl) ?_
    refine Gx.val rfl rfl rfl (val_call (vs := [.int .i64 ((x2 : Nat) : Int), .int .i64 ((z : Nat) : Int)]) rfl Try.fn35 rfl (fun w H => less_any ((x2 : Nat) : Int) ((z : Nat) : Int) _)) ?_
    refine Gx.done ?_
    refine Gx.thenN ?_
    refine Gx.dec rfl (fun h3 => ?_) (fun h3 => ?_)
    · refine Gx.region ?_
      refine Gx.val rfl rfl rfl (val_move rfl rfl) ?_
      refine Gx.val rfl rfl rfl (val_add rfl rfl rfl (r := (((i + j) / 2 + 1 : Nat) : Int)) (w64 (by omega) (by omega))) ?_
      refine Gx.val rfl rfl rfl (val_assign rfl rfl) ?_
      refine Gx.done ?_
      refine Gx.blkN ?_
      refine Gx.thenN ?_
      exact Gx.round ((i + j) / 2 + 1, j) ⟨Nat.succ_le_of_lt (Nat.lt_of_not_le fun q => by have := sorted_le hst hz hx2 q; omega), hj, hjl⟩ (by first | omega | (dsimp only; omega)) ((.cons rfl (.cons rfl (.cons rfl (.cons rfl (.cons rfl .nil)))))) rfl
    · refine Gx.region ?_
      refine Gx.val rfl rfl rfl (val_move rfl rfl) ?_
      refine Gx.val rfl rfl rfl (val_assign rfl rfl) ?_
      refine Gx.done ?_
      refine Gx.blkN ?_
      refine Gx.thenN ?_
      exact Gx.round (i, (i + j) / 2) ⟨hi, Nat.le_of_not_lt fun q => by have := sorted_lt hst hx2 hz q; omega, by dsimp only; omega⟩ (by first | omega | (dsimp only; omega)) ((.cons rfl (.cons rfl (.cons rfl (.cons rfl (.cons rfl .nil)))))) rfl
  · refine Gx.exit ?_
    refine Gx.thenE ?_
    refine Gx.thenE ?_
    refine Gx.blkE ?_
    refine Gx.thenN ?_
    refine Gx.seq ?_
    have ek : i = k := by omega
    subst ek
    refine Gx.region ?_
    refine Gx.val rfl rfl rfl (val_move rfl rfl) ?_
    refine Gx.val rfl rfl rfl (val_move rfl rfl) ?_
    refine Gx.val rfl rfl rfl (val_move rfl rfl) ?_
    refine Gx.val rfl rfl rfl (val_lss rfl rfl rfl) ?_
    refine Gx.val rfl rfl rfl (val_move rfl rfl) ?_
    refine Gx.slot (t := 35) (v := .bool true) (look_decT rfl (by omega)) ?_
    refine Gx.valg rfl rfl rfl rfl rfl (val_move rfl rfl) ?_
    refine Gx.valg rfl rfl rfl rfl rfl (val_move rfl rfl) ?_
    refine Gx.valg rfl rfl rfl rfl rfl (val_ixa rfl Try.underlying23 Try.ty3 rfl rfl (j := i) (rfl) (reach_base ha hz)) ?_
    refine Gx.valg rfl rfl rfl rfl rfl (val_load rfl Try.ty3 rfl rfl (cell_base (i := 0) ha hz rfl)) ?_
    refine Gx.valg rfl rfl rfl rfl rfl (val_move rfl rfl) ?_
    refine Gx.valg rfl rfl rfl rfl rfl (val_eql rfl rfl rfl) ?_
    refine Gx.valg rfl rfl rfl rfl rfl (val_move rfl rfl) ?_
    refine Gx.slot (t := 42) (v := .bool true) (look_decT rfl (by omega)) ?_
    refine Gx.skipg rfl rfl rfl rfl rfl rfl ?_
    refine Gx.skipg rfl rfl rfl rfl rfl rfl ?_
    refine Gx.skipg rfl rfl rfl rfl rfl rfl ?_
    refine Gx.skipg rfl rfl rfl rfl rfl rfl ?_
    refine Gx.skipg rfl rfl rfl rfl rfl rfl ?_
    refine Gx.skipg rfl rfl rfl rfl rfl rfl ?_
    refine Gx.skipu rfl rfl rfl rfl rfl ?_
    refine Gx.skipu rfl rfl rfl rfl rfl ?_
    refine Gx.skipg rfl rfl rfl rfl rfl rfl ?_
    refine Gx.valg rfl rfl rfl rfl rfl (val_pickT rfl rfl rfl) ?_
    refine Gx.val rfl rfl rfl (val_pickT rfl rfl rfl) ?_
    refine Gx.val rfl rfl rfl (val_assign rfl rfl) ?_
    refine Gx.val rfl rfl rfl (val_assign rfl rfl) ?_
    refine Gx.done ?_
    refine Gx.thenN ?_
    refine Gx.ret ?_
    refine Gx.ret2 Try.results33 rfl rfl ?_
    rfl

theorem rank_any {W : World} {n wb : Nat} {l : List En} {hv ofv : Value} {rows : List Rw} (hok : OkC n l) (hw : WOk W n l wb hv ofv rows) {i : Nat} {z : Int} {e : En} (hz : z = (i : Int)) (he : l[i]? = some e) :
    Calls Try.prog 29 #[ptr wb 0, .int .i64 z] W fun e' w' => e' = .returned (.int .i64 ((cntL l e.who i + 1 : Nat) : Int)) ∧ Below W.heap.size W w' := by
  have hb0 := hok.all i e he
  have hil := (List.getElem?_eq_some_iff.1 he).1
  have hfew := hok.few
  have hcl := cnt_le l e.who i
  obtain ⟨r, hr0⟩ := get_of_lt (xs := rows) (k := e.who) (by rw [hw.rl]; exact hb0.2.1)
  have hrow := hw.row _ _ hr0
  have hrl := hw.rl
  refine calls_pure (Gx.enter (l := []) Try.func29 rfl Try.ntmps29 rfl (Sat.start W) ?_)
  refine Gx.know (m' := [(0, ptr wb 0), (1, .int .i64 z)]) (.cons rfl (.cons rfl .nil)) ?_
  refine Gx.seq ?_
  refine Gx.region ?_
  refine Gx.val rfl rfl rfl (val_assign rfl rfl) ?_
  refine Gx.done ?_
  refine Gx.thenN ?_
  refine Gx.seq ?_
  refine Gx.regionQ Try.mixed (by kernel_rfl) ?_
  refine Gq.val rfl rfl rfl (val_move rfl rfl) ?_
  refine Gq.val rfl rfl rfl (val_nilCheck rfl rfl) ?_
  refine Gq.val rfl rfl rfl (Val.cast (val_fieldAddr rfl Try.underlying54 rfl Try.ty37 rfl rfl) (v' := ptr wb 1) rfl) ?_
  refine Gq.val rfl rfl rfl (val_load rfl Try.ty37 rfl rfl (cell_old hw.hb hw.c1)) ?_
  refine Gq.val rfl rfl rfl (val_move rfl rfl) ?_
  refine Gq.val rfl rfl rfl (val_nilCheck rfl rfl) ?_
  refine Gq.val rfl rfl rfl (Val.cast (val_fieldAddr rfl Try.underlying54 rfl Try.ty22 rfl rfl) (v' := ptr wb 0) rfl) ?_
  refine Gq.val rfl rfl rfl (val_load rfl Try.ty22 rfl rfl (cell_old hw.hb hw.c0)) ?_
  refine Gq.val rfl rfl rfl (val_move rfl rfl) ?_
  refine Gq.val rfl rfl rfl (val_ixa rfl Try.underlying22 Try.ty36 rfl rfl (j := i) (hz) (reach_base hw.hs he)) ?_
  refine Gq.val rfl rfl rfl (Val.cast (val_fieldAddr rfl Try.underlying36 rfl Try.ty3 rfl rfl) (v' := ptr (sB hv) (sO hv + i * 3 + 1)) rfl) ?_
  refine Gq.val rfl rfl rfl (val_load rfl Try.ty3 rfl rfl (cell_base (i := 1) hw.hs he rfl)) ?_
  refine Gq.val rfl rfl rfl (val_ixa rfl Try.underlying37 Try.ty23 rfl rfl (j := e.who) (rfl) (reach_base hw.hr hr0)) ?_
  refine Gq.val rfl rfl rfl (val_load rfl Try.ty23 rfl rfl (cell_base (i := 0) hw.hr hr0 rfl)) ?_
  refine Gq.val rfl rfl rfl (val_move rfl rfl) ?_
  refine Gq.val rfl rfl rfl (val_call (vs := [.slice r.a r.n r.c, .int .i64 z]) rfl Try.fn33 rfl (fun w H => by rw [hz]; exact bs_any (hrow.2.below H.below) (by rw [hrow.1]; exact of_sorted ..) (by rw [hrow.1]; exact of_get (Nat.le_refl _) (List.getElem?_eq_some_iff.1 he).1 he rfl))) ?_
  refine Gq.val rfl rfl rfl (val_move rfl rfl) ?_
  refine Gq.val rfl rfl rfl (val_extract rfl rfl rfl) ?_
  refine Gq.val rfl rfl rfl (val_extract rfl rfl rfl) ?_
  refine Gq.val rfl rfl rfl (val_assign rfl rfl) ?_
  refine Gq.val rfl rfl rfl (val_assign rfl rfl) ?_
  refine Gq.done ?_
  refine Gx.thenN ?_
  refine Gx.seq ?_
  refine Gx.region ?_
  refine Gx.val rfl rfl rfl (val_move rfl rfl) ?_
  refine Gx.val rfl rfl rfl (val_add rfl rfl rfl (r := ((cntL l e.who i + 1 : Nat) : Int)) (w64 (by omega) (by omega))) ?_
  refine Gx.val rfl rfl rfl (val_assign rfl rfl) ?_
  refine Gx.done ?_
  refine Gx.thenN ?_
  refine Gx.ret ?_
  refine Gx.ret1 Try.results29 rfl ?_
  rfl

def MisR (l : List En) (c : List Nat) (z : Int) : Prop := (z = -1 ∧ Whole l c) ∨ ∃ (i : Nat) (e : En), z = (i : Int) ∧ l[i]? = some e ∧ e.kind = 3 ∧ inC l c i ∧ ¬ inC l c e.src.toNat
theorem tk {α : Type} {l : List α} {k q : Nat} {x : α} (h : (l.take k)[q]? = some x) : l[q]? = some x := by
  rw [List.getElem?_take] at h; split at h
  · exact h
  · cases h
theorem missing_any {W : World} {n wb : Nat} {l : List En} {hv ofv cv : Value} {rows : List Rw} {c : List Nat} (hok : OkC n l) (hw : WOk W n l wb hv ofv rows) (hcut : Cut n l c) (hc : SlS FN 1 W cv c) :
    Calls Try.prog 22 #[ptr wb 0, cv] W fun e' w' => ∃ v, e' = .returned v ∧ (∃ z : Int, v = .int .i64 z ∧ MisR l c z) ∧ Below W.heap.size W w' := by
  have m1 := sls_bd hc
  have hfew := hok.few
  refine calls_rel (R := fun v => ∃ z : Int, v = .int .i64 z ∧ MisR l c z) (Gx.enter (l := []) Try.func22 rfl Try.ntmps22 rfl (Sat.start W) ?_)
  refine Gx.know (m' := [(0, ptr wb 0), (1, cv)]) (.cons rfl (.cons rfl .nil)) ?_
  refine Gx.seq ?_
  refine Gx.region ?_
  refine Gx.val rfl rfl rfl (val_assign rfl rfl) ?_
  refine Gx.done ?_
  refine Gx.thenN ?_
  refine Gx.seq ?_
  refine Gx.seq ?_
  refine Gx.region ?_
  refine Gx.val rfl rfl rfl (val_move rfl rfl) ?_
  refine Gx.val rfl rfl rfl (val_len rfl Try.underlying23 rfl (len_base hc)) ?_
  refine Gx.val rfl rfl rfl (val_move rfl rfl) ?_
  refine Gx.done ?_
  refine Gx.thenN ?_
  refine Gx.block ?_
  refine Gx.loop (ι := Nat) (fun ξ => (ξ ≤ c.length) ∧ (∀ (i : Nat) (e : En), l[i]? = some e → e.who < ξ → e.kind = 3 → inC l c i → inC l c e.src.toNat)) (fun ξ => [(0, ptr wb 0), (1, cv), (10, cv), (11, .int .i64 ((c.length : Nat) : Int)), (12, .int .i64 ((ξ : Nat) : Int))]) (fun ξ => []) (fun ξ => c.length - ξ) 0 ⟨by first | omega | (dsimp only; omega), fun i e _ h => by omega⟩ ((.cons rfl (.cons rfl (.cons rfl (.cons rfl (.cons rfl .nil)))))) rfl ?_
  rintro p ⟨hp, hd⟩
  refine Gx.know (m' := [(0, ptr wb 0), (1, cv), (10, cv), (11, .int .i64 ((c.length : Nat) : Int)), (12, .int .i64 ((p : Nat) : Int))]) (.cons rfl (.cons rfl (.cons rfl (.cons rfl (.cons rfl .nil))))) (Gx.norm (l' := []) rfl ?_)
  refine Gx.seq ?_
  refine Gx.region ?_
  refine Gx.val rfl rfl rfl (val_lss rfl rfl rfl) ?_
  refine Gx.done ?_
  refine Gx.thenN ?_
  refine Gx.seq ?_
  refine Gx.dec rfl (fun h1 => ?_) (fun h1 => ?_)
  · refine Gx.skip ?_
    refine Gx.thenN ?_
    refine Gx.seq ?_
    refine Gx.block ?_
    refine Gx.seq ?_
    refine Gx.region ?_
    refine Gx.val rfl rfl rfl (val_move rfl rfl) ?_
    obtain ⟨x2, hx2⟩ := get_of_lt (xs := c) (k := p) (by omega)
    refine Gx.val rfl rfl rfl (val_ixa rfl Try.underlying23 Try.ty3 rfl rfl (j := p) (rfl) (reach_base hc hx2)) ?_
    refine Gx.val rfl rfl rfl (val_load rfl Try.ty3 rfl rfl (cell_base (i := 0) hc hx2 rfl)) ?_
    refine Gx.val rfl rfl rfl (val_assign rfl rfl) ?_
    refine Gx.val rfl rfl rfl (val_assign rfl rfl) ?_
    refine Gx.done ?_
    refine Gx.thenN ?_
    refine Gx.seq ?_
    have hcle := hcut.le _ _ hx2
    obtain ⟨r, hr0⟩ := get_of_lt (xs := rows) (k := p) (by rw [hw.rl, ← hcut.len]; omega)
    have hrow := hw.row _ _ hr0
    have hrl2 : r.xs.length = cntL l p l.length := by rw [hrow.1, of_len (Nat.le_refl _)]
    have hrl := hw.rl
    refine Gx.region ?_
    refine Gx.val rfl rfl rfl (val_move rfl rfl) ?_
    refine Gx.val rfl rfl rfl (val_nilCheck rfl rfl) ?_
    refine Gx.val rfl rfl rfl (Val.cast (val_fieldAddr rfl Try.underlying54 rfl Try.ty37 rfl rfl) (v' := ptr wb 1) rfl) ?_
    refine Gx.val rfl rfl rfl (val_load rfl Try.ty37 rfl rfl (cell_old hw.hb hw.c1)) ?_
    refine Gx.val rfl rfl rfl (val_move rfl rfl) ?_
    refine Gx.val rfl rfl rfl (val_ixa rfl Try.underlying37 Try.ty23 rfl rfl (j := p) (rfl) (reach_base hw.hr hr0)) ?_
    refine Gx.val rfl rfl rfl (val_load rfl Try.ty23 rfl rfl (cell_base (i := 0) hw.hr hr0 rfl)) ?_
    refine Gx.val rfl rfl rfl (val_move rfl rfl) ?_
    have hcut3 : SlS FN 1 W (sCut 1 0 x2 (.slice r.a r.n r.c)) (r.xs.take x2) := (hrow.2).cut (lo := 0) (hi := x2) (by omega) (by omega)
    refine Gx.val rfl rfl rfl (val_cutTo (up := x2) rfl Try.underlying23 Try.ty3 rfl hrow.2 rfl (rfl) (by omega)) ?_
    refine Gx.val rfl rfl rfl (val_len rfl Try.underlying23 rfl (len_base hcut3)) ?_
    refine Gx.val rfl rfl rfl (val_move rfl rfl) ?_
    refine Gx.done ?_
    refine Gx.thenN ?_
    refine Gx.block ?_
    refine Gx.loop (ι := Nat) (fun ξ => (ξ ≤ (r.xs.take x2).length) ∧ (∀ (q' i : Nat), q' < ξ → (r.xs.take x2)[q']? = some i → ∀ e, l[i]? = some e → e.kind = 3 → inC l c e.src.toNat)) (fun ξ => [(0, ptr wb 0), (1, cv), (10, cv), (11, .int .i64 ((c.length : Nat) : Int)), (12, .int .i64 ((p : Nat) : Int)), (5, .int .i64 ((p : Nat) : Int)), (6, .int .i64 ((x2 : Nat) : Int)), (25, sCut 1 0 x2 (.slice r.a r.n r.c)), (26, .int .i64 (((r.xs.take x2).length : Nat) : Int)), (27, .int .i64 ((ξ : Nat) : Int))]) (fun ξ => []) (fun ξ => (r.xs.take x2).length - ξ) 0 ⟨by first | omega | (dsimp only; omega), fun q' i h => by omega⟩ ((.cons rfl (.cons rfl (.cons rfl (.cons rfl (.cons rfl (.cons rfl (.cons rfl (.cons rfl (.cons rfl (.cons rfl .nil))))))))))) rfl ?_
    rintro q ⟨hqk, hq⟩
    refine Gx.know (m' := [(0, ptr wb 0), (1, cv), (10, cv), (11, .int .i64 ((c.length : Nat) : Int)), (12, .int .i64 ((p : Nat) : Int)), (5, .int .i64 ((p : Nat) : Int)), (6, .int .i64 ((x2 : Nat) : Int)), (25, sCut 1 0 x2 (.slice r.a r.n r.c)), (26, .int .i64 (((r.xs.take x2).length : Nat) : Int)), (27, .int .i64 ((q : Nat) : Int))]) (.cons rfl (.cons rfl (.cons rfl (.cons rfl (.cons rfl (.cons rfl (.cons rfl (.cons rfl (.cons rfl (.cons rfl .nil)))))))))) (Gx.norm (l' := []) rfl ?_)
    have htl : (r.xs.take x2).length ≤ 60 := by rw [List.length_take]; have := cnt_le l p l.length; omega
    refine Gx.seq ?_
    refine Gx.region ?_
    refine Gx.val rfl rfl rfl (val_lss rfl rfl rfl) ?_
    refine Gx.done ?_
    refine Gx.thenN ?_
    refine Gx.seq ?_
    refine Gx.dec rfl (fun h4 => ?_) (fun h4 => ?_)
    · refine Gx.skip ?_
      refine Gx.thenN ?_
      refine Gx.seq ?_
      refine Gx.block ?_
      refine Gx.seq ?_
      refine Gx.region ?_
      obtain ⟨x5, hx5⟩ := get_of_lt (xs := (r.xs.take x2)) (k := q) (by omega)
      refine Gx.val rfl rfl rfl (val_ixa rfl Try.underlying23 Try.ty3 rfl rfl (j := q) (rfl) (reach_base hcut3 hx5)) ?_
      refine Gx.val rfl rfl rfl (val_load rfl Try.ty3 rfl rfl (cell_base (i := 0) hcut3 hx5 rfl)) ?_
      refine Gx.val rfl rfl rfl (val_assign rfl rfl) ?_
      refine Gx.done ?_
      refine Gx.thenN ?_
      refine Gx.seq ?_
      have hiv := of_inv (Nat.le_refl _) (show (ofL l p l.length)[q]? = some x5 by rw [← hrow.1]; exact tk hx5)
      obtain ⟨hil, ⟨ev, hev, hevw⟩, hcq⟩ := hiv
      have hall := hok.all _ _ hev
      refine Gx.region ?_
      refine Gx.val rfl rfl rfl (val_move rfl rfl) ?_
      refine Gx.val rfl rfl rfl (val_nilCheck rfl rfl) ?_
      refine Gx.val rfl rfl rfl (Val.cast (val_fieldAddr rfl Try.underlying54 rfl Try.ty22 rfl rfl) (v' := ptr wb 0) rfl) ?_
      refine Gx.val rfl rfl rfl (val_load rfl Try.ty22 rfl rfl (cell_old hw.hb hw.c0)) ?_
      refine Gx.val rfl rfl rfl (val_move rfl rfl) ?_
      refine Gx.val rfl rfl rfl (val_ixa rfl Try.underlying22 Try.ty36 rfl rfl (j := x5) (rfl) (reach_base hw.hs hev)) ?_
      refine Gx.val rfl rfl rfl (Val.cast (val_loadA rfl Try.ty36 rfl rfl rfl (cells_base hw.hs hev)) (v' := .agg #[.int .i64 ev.kind, .int .i64 ((ev.who : Nat) : Int), .int .i64 ev.src]) rfl) ?_
      refine Gx.eff rfl rfl rfl (eff_alloc rfl Try.ty36 (vs := [.int .i64 0, .int .i64 0, .int .i64 0]) rfl) ?_
      rintro _ _ ⟨b6, rfl, rfl⟩
      refine Gx.eff0 rfl rfl (eff_store rfl Try.ty36 rfl rfl (us := [.int .i64 ev.kind, .int .i64 ((ev.who : Nat) : Int), .int .i64 ev.src]) rfl rfl rfl (k := 0) rfl (rfl) (vs' := [.int .i64 ev.kind, .int .i64 ((ev.who : Nat) : Int), .int .i64 ev.src]) (rfl) (l' := [Hp.rec_ b6 [.int .i64 ev.kind, .int .i64 ((ev.who : Nat) : Int), .int .i64 ev.src]]) rfl) ?_
      rintro _ _ rfl
      refine Gx.done ?_
      refine Gx.thenN ?_
      refine Gx.seq ?_
      refine Gx.regionQ Try.mixed (by kernel_rfl) ?_
      refine Gq.val rfl rfl rfl (Val.cast (val_fieldAddr rfl Try.underlying36 rfl Try.ty3 rfl rfl) (v' := ptr b6 0) rfl) ?_
      refine Gq.val rfl rfl rfl (val_load rfl Try.ty3 rfl rfl (cell_rec (k := 0) rfl rfl)) ?_
      refine Gq.val rfl rfl rfl (val_eql rfl rfl rfl) ?_
      refine Gq.val rfl rfl rfl (val_move rfl rfl) ?_
      refine Gq.cases (t := 41) rfl (fun h7 => ?_) (fun h7 => ?_)
      · obtain ⟨hsr0, hsr1, s, hs0⟩ := hall.2.2 (by omega)
        have hsall := hok.all _ _ hs0
        obtain ⟨cs, hcs⟩ := get_of_lt (xs := c) (k := s.who) (by rw [hcut.len]; exact hsall.2.1)
        refine Gq.valg rfl rfl rfl rfl rfl (val_move rfl rfl) ?_
        refine Gq.valg rfl rfl rfl rfl rfl (Val.cast (val_fieldAddr rfl Try.underlying36 rfl Try.ty3 rfl rfl) (v' := ptr b6 2) rfl) ?_
        refine Gq.valg rfl rfl rfl rfl rfl (val_load rfl Try.ty3 rfl rfl (cell_rec (k := 0) rfl rfl)) ?_
        refine Gq.valg rfl rfl rfl rfl rfl (val_call (vs := [ptr wb 0, .int .i64 ev.src]) rfl Try.fn29 rfl (fun w H => rank_any hok (hw.below H.below) (i := ev.src.toNat) (by omega) hs0)) ?_
        refine Gq.valg rfl rfl rfl rfl rfl (val_move rfl rfl) ?_
        refine Gq.valg rfl rfl rfl rfl rfl (val_move rfl rfl) ?_
        refine Gq.valg rfl rfl rfl rfl rfl (val_nilCheck rfl rfl) ?_
        refine Gq.valg rfl rfl rfl rfl rfl (Val.cast (val_fieldAddr rfl Try.underlying54 rfl Try.ty22 rfl rfl) (v' := ptr wb 0) rfl) ?_
        refine Gq.valg rfl rfl rfl rfl rfl (val_load rfl Try.ty22 rfl rfl (cell_old hw.hb hw.c0)) ?_
        refine Gq.valg rfl rfl rfl rfl rfl (Val.cast (val_fieldAddr rfl Try.underlying36 rfl Try.ty3 rfl rfl) (v' := ptr b6 2) rfl) ?_
        refine Gq.valg rfl rfl rfl rfl rfl (val_load rfl Try.ty3 rfl rfl (cell_rec (k := 0) rfl rfl)) ?_
        refine Gq.valg rfl rfl rfl rfl rfl (val_ixa rfl Try.underlying22 Try.ty36 rfl rfl (j := ev.src.toNat) (by omega) (reach_base hw.hs hs0)) ?_
        refine Gq.valg rfl rfl rfl rfl rfl (Val.cast (val_fieldAddr rfl Try.underlying36 rfl Try.ty3 rfl rfl) (v' := ptr (sB hv) (sO hv + ev.src.toNat * 3 + 1)) rfl) ?_
        refine Gq.valg rfl rfl rfl rfl rfl (val_load rfl Try.ty3 rfl rfl (cell_base (i := 1) hw.hs hs0 rfl)) ?_
        refine Gq.valg rfl rfl rfl rfl rfl (val_ixa rfl Try.underlying23 Try.ty3 rfl rfl (j := s.who) (rfl) (reach_base hc hcs)) ?_
        refine Gq.valg rfl rfl rfl rfl rfl (val_load rfl Try.ty3 rfl rfl (cell_base (i := 0) hc hcs rfl)) ?_
        refine Gq.valg rfl rfl rfl rfl rfl (val_gtr rfl rfl rfl) ?_
        refine Gq.val rfl rfl rfl (val_pickT rfl rfl rfl) ?_
        refine Gq.done ?_
        refine Gx.thenN ?_
        refine Gx.dec rfl (fun h8 => ?_) (fun h8 => ?_)
        · refine Gx.seq ?_
          refine Gx.region ?_
          refine Gx.val rfl rfl rfl (val_move rfl rfl) ?_
          refine Gx.val rfl rfl rfl (val_assign rfl rfl) ?_
          refine Gx.done ?_
          refine Gx.thenN ?_
          refine Gx.ret ?_
          refine Gx.blkR ?_
          refine Gx.thenR ?_
          refine Gx.thenR ?_
          refine Gx.blkR ?_
          refine Gx.blkR ?_
          refine Gx.thenR ?_
          refine Gx.thenR ?_
          refine Gx.blkR ?_
          refine Gx.thenR ?_
          refine Gx.ret1 Try.results22 rfl ?_
          refine ⟨_, rfl, .inr ⟨x5, ev, rfl, hev, by omega, ⟨ev, hev, ?_⟩, fun hin => ?_⟩⟩
          · have h9 := (List.getElem?_eq_some_iff.1 hx5).1
            rw [List.length_take] at h9
            rw [hevw, hcq, List.getD_eq_getElem?_getD, hx2]; simp; omega
          · obtain ⟨s', hs', hlt⟩ := hin
            cases hs0.symm.trans hs'
            rw [List.getD_eq_getElem?_getD, hcs] at hlt
            simp at hlt; omega
        · refine Gx.skip ?_
          refine Gx.blkN ?_
          refine Gx.thenN ?_
          refine Gx.region ?_
          refine Gx.val rfl rfl rfl (val_add rfl rfl rfl (r := ((q + 1 : Nat) : Int)) (w64 (by omega) (by omega))) ?_
          refine Gx.val rfl rfl rfl (val_move rfl rfl) ?_
          refine Gx.done ?_
          refine Gx.thenN ?_
          refine Gx.drop 0 rfl ?_
          exact Gx.round (q + 1) ⟨by first | omega | (dsimp only; omega), fun q' i hq' hi e he hk => by rcases Nat.lt_or_eq_of_le (Nat.le_of_lt_succ hq') with h | rfl; (exact hq q' i h hi e he hk); (cases hx5.symm.trans hi; cases hev.symm.trans he; first | (exfalso; omega) | (exact ⟨s, hs0, by rw [List.getD_eq_getElem?_getD, hcs]; simp; omega⟩))⟩ (by first | omega | (dsimp only; omega)) ((.cons rfl (.cons rfl (.cons rfl (.cons rfl (.cons rfl (.cons rfl (.cons rfl (.cons rfl (.cons rfl (.cons rfl .nil))))))))))) rfl
      · refine Gq.skipg rfl rfl rfl rfl rfl rfl ?_
        refine Gq.skipg rfl rfl rfl rfl rfl rfl ?_
        refine Gq.skipg rfl rfl rfl rfl rfl rfl ?_
        refine Gq.skipg rfl rfl rfl rfl rfl rfl ?_
        refine Gq.skipg rfl rfl rfl rfl rfl rfl ?_
        refine Gq.skipg rfl rfl rfl rfl rfl rfl ?_
        refine Gq.skipg rfl rfl rfl rfl rfl rfl ?_
        refine Gq.skipg rfl rfl rfl rfl rfl rfl ?_
        refine Gq.skipg rfl rfl rfl rfl rfl rfl ?_
        refine Gq.skipg rfl rfl rfl rfl rfl rfl ?_
        refine Gq.skipg rfl rfl rfl rfl rfl rfl ?_
        refine Gq.skipg rfl rfl rfl rfl rfl rfl ?_
        refine Gq.skipg rfl rfl rfl rfl rfl rfl ?_
        refine Gq.skipg rfl rfl rfl rfl rfl rfl ?_
        refine Gq.skipg rfl rfl rfl rfl rfl rfl ?_
        refine Gq.skipg rfl rfl rfl rfl rfl rfl ?_
        refine Gq.skipg rfl rfl rfl rfl rfl rfl ?_
        refine Gq.val rfl rfl rfl (val_pickF rfl rfl rfl) ?_
        refine Gq.done ?_
        refine Gx.thenN ?_
        refine Gx.f rfl ?_
        refine Gx.skip ?_
        refine Gx.blkN ?_
        refine Gx.thenN ?_
        refine Gx.region ?_
        refine Gx.val rfl rfl rfl (val_add rfl rfl rfl (r := ((q + 1 : Nat) : Int)) (w64 (by omega) (by omega))) ?_
        refine Gx.val rfl rfl rfl (val_move rfl rfl) ?_
        refine Gx.done ?_
        refine Gx.thenN ?_
        refine Gx.drop 0 rfl ?_
        exact Gx.round (q + 1) ⟨by first | omega | (dsimp only; omega), fun q' i hq' hi e he hk => by rcases Nat.lt_or_eq_of_le (Nat.le_of_lt_succ hq') with h | rfl; (exact hq q' i h hi e he hk); (cases hx5.symm.trans hi; cases hev.symm.trans he; first | (exfalso; omega) | (exact ⟨s, hs0, by rw [List.getD_eq_getElem?_getD, hcs]; simp; omega⟩))⟩ (by first | omega | (dsimp only; omega)) ((.cons rfl (.cons rfl (.cons rfl (.cons rfl (.cons rfl (.cons rfl (.cons rfl (.cons rfl (.cons rfl (.cons rfl .nil))))))))))) rfl
    · refine Gx.exit ?_
      refine Gx.thenE ?_
      refine Gx.thenE ?_
      refine Gx.blkE ?_
      refine Gx.blkN ?_
      refine Gx.thenN ?_
      refine Gx.region ?_
      refine Gx.val rfl rfl rfl (val_add rfl rfl rfl (r := ((p + 1 : Nat) : Int)) (w64 (by omega) (by omega))) ?_
      refine Gx.val rfl rfl rfl (val_move rfl rfl) ?_
      refine Gx.done ?_
      refine Gx.thenN ?_
      exact Gx.round (p + 1) ⟨by first | omega | (dsimp only; omega), fun i e hi hp' hk hin => by
            by_cases hpe : e.who = p
            · obtain ⟨e', he', hlt⟩ := hin
              cases hi.symm.trans he'
              have hg := of_get (p := p) (Nat.le_refl _) (List.getElem?_eq_some_iff.1 hi).1 hi hpe
              rw [hpe, List.getD_eq_getElem?_getD, hx2] at hlt
              simp at hlt
              refine hq (cntL l p i) i (by rw [List.length_take] at *; have := (List.getElem?_eq_some_iff.1 hg).1; rw [← hrow.1] at this; omega) ?_ e hi hk
              rw [List.getElem?_take, if_pos hlt, hrow.1]; exact hg
            · exact hd i e hi (by omega) hk hin⟩ (by first | omega | (dsimp only; omega)) ((.cons rfl (.cons rfl (.cons rfl (.cons rfl (.cons rfl .nil)))))) rfl
  · refine Gx.exit ?_
    refine Gx.thenE ?_
    refine Gx.thenE ?_
    refine Gx.blkE ?_
    refine Gx.thenN ?_
    refine Gx.seq ?_
    refine Gx.region ?_
    refine Gx.val rfl rfl rfl (val_assign rfl rfl) ?_
    refine Gx.done ?_
    refine Gx.thenN ?_
    refine Gx.ret ?_
    refine Gx.ret1 Try.results22 rfl ?_
    exact ⟨_, rfl, .inl ⟨rfl, fun i e hi hk hin => hd i e hi (by have := (hok.all _ _ hi).2.1; have := hcut.len; omega) hk hin⟩⟩

end Go.Proofs.Ytffnjojdjbdfcaa
