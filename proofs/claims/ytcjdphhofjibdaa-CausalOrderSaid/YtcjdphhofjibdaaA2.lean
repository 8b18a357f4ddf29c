/- May a message be heard; the first that may; a copy. The walks. No condition. -/
import Derived.Test.YtcjdphhofjibdaaA1
namespace Go.Proofs.Ytcjdphhofjibdaa
open Go.RowKit
set_option linter.unusedVariables false
set_option linter.unusedSimpArgs false
set_option maxRecDepth 100000

structure RdyW (W : World) (S pb : Nat) (av cv : Value) (mms : List Mm) (cnt : List Nat) : Prop where
  hs : S < W.heap.size
  hsc : W.cell? ⟨S, 0, none⟩ = some av
  all : SlS FA 2 W av mms
  need : ∀ (k : Nat) (m : Mm), mms[k]? = some m → SlS FN 1 W (.slice m.a m.n m.c) m.need
  hp : pb < W.heap.size
  hpc : W.cell? ⟨pb, 1, none⟩ = some cv
  sc : SlS FN 1 W cv cnt
  nl : ∀ m ∈ mms, m.need.length ≤ cnt.length
theorem RdyW.below {W w : World} {S pb : Nat} {av cv : Value} {mms : List Mm} {cnt : List Nat} (h : RdyW W S pb av cv mms cnt) (hb : Below W.heap.size W w) : RdyW w S pb av cv mms cnt :=
  ⟨Nat.lt_of_lt_of_le h.hs hb.size, (hb.cell (p := ⟨S, 0, none⟩) h.hs).trans h.hsc, h.all.below hb, fun k m hm => (h.need k m hm).below hb, Nat.lt_of_lt_of_le h.hp hb.size, (hb.cell (p := ⟨pb, 1, none⟩) h.hp).trans h.hpc, h.sc.below hb, h.nl⟩
theorem rdy_eq {all : List Ms} {cnt : List Nat} {m : Nat} {a : Ms} (h : all[m]? = some a) : rdy all cnt m = true ↔ ∀ q, q < a.need.length → a.need.getD q 0 ≤ cnt.getD q 0 := by
  unfold rdy; rw [h]; simp only [List.all_eq_true, List.mem_range, decide_eq_true_eq]
theorem getD_of {xs : List Nat} {k x : Nat} (h : xs[k]? = some x) : xs.getD k 0 = x := by rw [List.getD_eq_getElem?_getD, h]; rfl
theorem ready_any {W : World} {S pb m : Nat} {av cv : Value} {mms : List Mm} {cnt : List Nat} {mm : Mm} (h : RdyW W S pb av cv mms cnt) (hm : mms[m]? = some mm) : Calls Try.prog 27 #[ptr S 0, ptr pb 0, .int .i64 ((m : Nat) : Int)] W fun e w' => e = .returned (.bool (rdy (mms.map toMs) cnt m)) ∧ Below W.heap.size W w' := by
  have hn := h.need m mm hm
  have hnl := h.nl mm (List.mem_of_getElem? hm)
  have m1 := sls_bd hn
  have hma : (mms.map toMs)[m]? = some (toMs mm) := by rw [List.getElem?_map, hm]; rfl
  refine calls_pure (Gx.enter (l := []) Try.func27 rfl Try.ntmps27 rfl (Sat.start W) ?_)
  refine Gx.know (m' := [(0, ptr S 0), (1, ptr pb 0), (2, .int .i64 ((m : Nat) : Int))]) (.cons rfl (.cons rfl (.cons rfl .nil))) ?_
  refine Gx.seq ?_
  refine Gx.region ?_
  refine Gx.val rfl rfl rfl (val_assign rfl rfl) ?_
  refine Gx.done ?_
  refine Gx.thenN ?_
  refine Gx.seq ?_
  refine Gx.seq ?_
  refine Gx.region ?_
  refine Gx.val rfl rfl rfl (val_move rfl rfl) ?_
  refine Gx.val rfl rfl rfl (val_nilCheck rfl rfl) ?_
  refine Gx.val rfl rfl rfl (Val.cast (val_fieldAddr rfl Try.underlying45 rfl Try.ty42 rfl rfl) (v' := ptr S 0) rfl) ?_
  refine Gx.val rfl rfl rfl (val_load rfl Try.ty42 rfl rfl (cell_old h.hs h.hsc)) ?_
  refine Gx.val rfl rfl rfl (val_move rfl rfl) ?_
  refine Gx.val rfl rfl rfl (val_ixa rfl Try.underlying42 Try.ty53 rfl rfl (j := m) (rfl) (reach_base h.all hm)) ?_
  refine Gx.val rfl rfl rfl (Val.cast (val_fieldAddr rfl Try.underlying53 rfl Try.ty30 rfl rfl) (v' := ptr (sB av) (sO av + m * 2 + 1)) rfl) ?_
  refine Gx.val rfl rfl rfl (val_load rfl Try.ty30 rfl rfl (cell_base (i := 1) h.all hm rfl)) ?_
  refine Gx.val rfl rfl rfl (val_len rfl Try.underlying30 rfl (len_base hn)) ?_
  refine Gx.val rfl rfl rfl (val_move rfl rfl) ?_
  refine Gx.done ?_
  refine Gx.thenN ?_
  refine Gx.block ?_
  refine Gx.loop (ι := Nat) (fun ξ => (ξ ≤ mm.need.length) ∧ (∀ q, q < ξ → mm.need.getD q 0 ≤ cnt.getD q 0)) (fun ξ => [(0, ptr S 0), (1, ptr pb 0), (2, .int .i64 ((m : Nat) : Int)), (16, .slice mm.a mm.n mm.c), (17, .int .i64 ((mm.need.length : Nat) : Int)), (18, .int .i64 ((ξ : Nat) : Int))]) (fun ξ => []) (fun ξ => mm.need.length - ξ) 0 ⟨by first | omega | (dsimp only; omega), fun q hq => absurd hq (Nat.not_lt_zero _)⟩ ((.cons rfl (.cons rfl (.cons rfl (.cons rfl (.cons rfl (.cons rfl .nil))))))) rfl ?_
  rintro k ⟨hk, he⟩
  refine Gx.know (m' := [(0, ptr S 0), (1, ptr pb 0), (2, .int .i64 ((m : Nat) : Int)), (16, .slice mm.a mm.n mm.c), (17, .int .i64 ((mm.need.length : Nat) : Int)), (18, .int .i64 ((k : Nat) : Int))]) (.cons rfl (.cons rfl (.cons rfl (.cons rfl (.cons rfl (.cons rfl .nil)))))) (Gx.norm (l' := []) rfl ?_)
  refine Gx.seq ?_
  refine Gx.region ?_
  refine Gx.val rfl rfl rfl (val_lss rfl rfl rfl) ?_
  refine Gx.done ?_
  refine Gx.thenN ?_
  refine Gx.seq ?_
  refine Gx.dec rfl (fun h1 => ?_) (fun h1 => ?_)
  · refine Gx.skip ?_
    refine Gx.thenN ?_
    refine Gx.seq ?_
    refine Gx.block ?_
    refine Gx.seq ?_
    refine Gx.region ?_
    refine Gx.val rfl rfl rfl (val_move rfl rfl) ?_
    obtain ⟨x2, hx2⟩ := get_of_lt (xs := mm.need) (k := k) (by omega)
    refine Gx.val rfl rfl rfl (val_ixa rfl Try.underlying30 Try.ty3 rfl rfl (j := k) (rfl) (reach_base hn hx2)) ?_
    refine Gx.val rfl rfl rfl (val_load rfl Try.ty3 rfl rfl (cell_base (i := 0) hn hx2 rfl)) ?_
    refine Gx.val rfl rfl rfl (val_assign rfl rfl) ?_
    refine Gx.val rfl rfl rfl (val_assign rfl rfl) ?_
    refine Gx.done ?_
    refine Gx.thenN ?_
    refine Gx.seq ?_
    refine Gx.region ?_
    refine Gx.val rfl rfl rfl (val_move rfl rfl) ?_
    refine Gx.val rfl rfl rfl (val_nilCheck rfl rfl) ?_
    refine Gx.val rfl rfl rfl (Val.cast (val_fieldAddr rfl Try.underlying49 rfl Try.ty30 rfl rfl) (v' := ptr pb 1) rfl) ?_
    refine Gx.val rfl rfl rfl (val_load rfl Try.ty30 rfl rfl (cell_old h.hp h.hpc)) ?_
    refine Gx.val rfl rfl rfl (val_move rfl rfl) ?_
    obtain ⟨x3, hx3⟩ := get_of_lt (xs := cnt) (k := k) (by omega)
    refine Gx.val rfl rfl rfl (val_ixa rfl Try.underlying30 Try.ty3 rfl rfl (j := k) (rfl) (reach_base h.sc hx3)) ?_
    refine Gx.val rfl rfl rfl (val_load rfl Try.ty3 rfl rfl (cell_base (i := 0) h.sc hx3 rfl)) ?_
    refine Gx.val rfl rfl rfl (val_move rfl rfl) ?_
    refine Gx.val rfl rfl rfl (val_lss rfl rfl rfl) ?_
    refine Gx.done ?_
    refine Gx.thenN ?_
    refine Gx.dec rfl (fun h4 => ?_) (fun h4 => ?_)
    · refine Gx.seq ?_
      refine Gx.region ?_
      refine Gx.val rfl rfl rfl (val_assign rfl rfl) ?_
      refine Gx.done ?_
      refine Gx.thenN ?_
      refine Gx.ret ?_
      refine Gx.blkR ?_
      refine Gx.thenR ?_
      refine Gx.thenR ?_
      refine Gx.blkR ?_
      refine Gx.thenR ?_
      refine Gx.ret1 Try.results27 rfl ?_
      exact (congrArg Value.bool (by cases e : rdy (mms.map toMs) cnt m with | false => rfl | true => (exfalso; have q := (rdy_eq hma).1 e k (show k < mm.need.length by omega); have q : mm.need.getD k 0 ≤ cnt.getD k 0 := q; rw [getD_of hx2, getD_of hx3] at q; omega))).symm
    · refine Gx.skip ?_
      refine Gx.blkN ?_
      refine Gx.thenN ?_
      refine Gx.region ?_
      refine Gx.val rfl rfl rfl (val_add rfl rfl rfl (r := ((k + 1 : Nat) : Int)) (w64 (by omega) (by omega))) ?_
      refine Gx.val rfl rfl rfl (val_move rfl rfl) ?_
      refine Gx.done ?_
      refine Gx.thenN ?_
      exact Gx.round (k + 1) ⟨by first | omega | (dsimp only; omega), fun q hq => by rcases Nat.lt_or_eq_of_le (Nat.le_of_lt_succ hq) with h | rfl; (exact he q h); (rw [getD_of hx2, getD_of hx3]; omega)⟩ (by first | omega | (dsimp only; omega)) ((.cons rfl (.cons rfl (.cons rfl (.cons rfl (.cons rfl (.cons rfl .nil))))))) rfl
  · refine Gx.exit ?_
    refine Gx.thenE ?_
    refine Gx.thenE ?_
    refine Gx.blkE ?_
    refine Gx.thenN ?_
    refine Gx.seq ?_
    refine Gx.region ?_
    refine Gx.val rfl rfl rfl (val_assign rfl rfl) ?_
    refine Gx.done ?_
    refine Gx.thenN ?_
    refine Gx.ret ?_
    refine Gx.ret1 Try.results27 rfl ?_
    exact congrArg Value.bool ((rdy_eq hma).2 fun q hq => he q (by have hq : q < mm.need.length := hq; omega)).symm

theorem pred_any {W : World} {S pb m b1 b2 : Nat} {av cv : Value} {mms : List Mm} {cnt : List Nat} {mm : Mm} (h : RdyW W S pb av cv mms cnt) (hm : mms[m]? = some mm) (h1 : b1 < W.heap.size) (h1c : W.cell? ⟨b1, 0, none⟩ = some (ptr S 0)) (h2 : b2 < W.heap.size) (h2c : W.cell? ⟨b2, 0, none⟩ = some (ptr pb 0)) :
    Calls Try.prog 26 #[.int .i64 ((m : Nat) : Int), ptr b1 0, ptr b2 0] W fun e w' => e = .returned (.bool (rdy (mms.map toMs) cnt m)) ∧ Below W.heap.size W w' := by
  refine calls_pure (Gx.enter (l := []) Try.func26 rfl Try.ntmps26 rfl (Sat.start W) ?_)
  refine Gx.know (m' := [(0, .int .i64 ((m : Nat) : Int)), (1, ptr b1 0), (2, ptr b2 0)]) (.cons rfl (.cons rfl (.cons rfl .nil))) ?_
  refine Gx.seq ?_
  refine Gx.region ?_
  refine Gx.val rfl rfl rfl (val_assign rfl rfl) ?_
  refine Gx.done ?_
  refine Gx.thenN ?_
  refine Gx.seq ?_
  refine Gx.region ?_
  refine Gx.val rfl rfl rfl (val_load rfl Try.ty41 rfl rfl (cell_old h1 h1c)) ?_
  refine Gx.val rfl rfl rfl (val_load rfl Try.ty46 rfl rfl (cell_old h2 h2c)) ?_
  refine Gx.val rfl rfl rfl (val_move rfl rfl) ?_
  refine Gx.val rfl rfl rfl (val_call (vs := [ptr S 0, ptr pb 0, .int .i64 ((m : Nat) : Int)]) rfl Try.fn27 rfl (fun w H => ready_any (h.below H.below) hm)) ?_
  refine Gx.val rfl rfl rfl (val_assign rfl rfl) ?_
  refine Gx.done ?_
  refine Gx.thenN ?_
  refine Gx.ret ?_
  refine Gx.ret1 Try.results26 rfl ?_
  rfl

def idxV (q : Nat → Bool) (xs : List Nat) : Value := .int .i64 (if fst q xs < xs.length then ((fst q xs : Nat) : Int) else -1)
theorem index_any {W : World} {wv : Value} {xs : List Nat} {q : Nat → Bool} {b1 b2 : Nat} (hx : SlS FN 1 W wv xs) (hq : ∀ w', Below W.heap.size W w' → ∀ x ∈ xs, Calls Try.prog 26 #[.int .i64 ((x : Nat) : Int), ptr b1 0, ptr b2 0] w' fun e w2 => e = .returned (.bool (q x)) ∧ Below w'.heap.size w' w2) :
    Calls Try.prog 25 #[wv, .func (.func 26) #[] #[ptr b1 0, ptr b2 0]] W fun e w' => e = .returned (idxV q xs) ∧ Below W.heap.size W w' := by
  have m1 := sls_bd hx
  refine calls_pure (Gx.enter (l := []) Try.func25 rfl Try.ntmps25 rfl (Sat.start W) ?_)
  refine Gx.know (m' := [(0, wv), (1, .func (.func 26) #[] #[ptr b1 0, ptr b2 0])]) (.cons rfl (.cons rfl .nil)) ?_
  refine Gx.seq ?_
  refine Gx.region ?_
  refine Gx.val rfl rfl rfl (val_assign rfl rfl) ?_
  refine Gx.done ?_
  refine Gx.thenN ?_
  refine Gx.seq ?_
  refine Gx.seq ?_
  refine Gx.region ?_
  refine Gx.val rfl rfl rfl (val_move rfl rfl) ?_
  refine Gx.val rfl rfl rfl (val_len rfl Try.underlying30 rfl (len_base hx)) ?_
  refine Gx.val rfl rfl rfl (val_move rfl rfl) ?_
  refine Gx.done ?_
  refine Gx.thenN ?_
  refine Gx.block ?_
  refine Gx.loop (ι := Nat) (fun ξ => (ξ ≤ fst q xs)) (fun ξ => [(0, wv), (1, .func (.func 26) #[] #[ptr b1 0, ptr b2 0]), (6, wv), (7, .int .i64 ((xs.length : Nat) : Int)), (8, .int .i64 ((ξ : Nat) : Int))]) (fun ξ => []) (fun ξ => xs.length - ξ) 0 (Nat.zero_le _) ((.cons rfl (.cons rfl (.cons rfl (.cons rfl (.cons rfl .nil)))))) rfl ?_
  rintro k hk
  refine Gx.know (m' := [(0, wv), (1, .func (.func 26) #[] #[ptr b1 0, ptr b2 0]), (6, wv), (7, .int .i64 ((xs.length : Nat) : Int)), (8, .int .i64 ((k : Nat) : Int))]) (.cons rfl (.cons rfl (.cons rfl (.cons rfl (.cons rfl .nil))))) (Gx.norm (l' := []) rfl ?_)
  refine Gx.seq ?_
  refine Gx.region ?_
  refine Gx.val rfl rfl rfl (val_lss rfl rfl rfl) ?_
  refine Gx.done ?_
  refine Gx.thenN ?_
  refine Gx.seq ?_
  refine Gx.dec rfl (fun h1 => ?_) (fun h1 => ?_)
  · refine Gx.skip ?_
    refine Gx.thenN ?_
    refine Gx.seq ?_
    refine Gx.block ?_
    refine Gx.seq ?_
    refine Gx.region ?_
    refine Gx.val rfl rfl rfl (val_move rfl rfl) ?_
    refine Gx.val rfl rfl rfl (val_assign rfl rfl) ?_
    refine Gx.done ?_
    refine Gx.thenN ?_
    refine Gx.seq ?_
    refine Gx.region ?_
    refine Gx.val rfl rfl rfl (val_move rfl rfl) ?_
    refine Gx.val rfl rfl rfl (val_move rfl rfl) ?_
    refine Gx.val rfl rfl rfl (val_move rfl rfl) ?_
    obtain ⟨x2, hx2⟩ := get_of_lt (xs := xs) (k := k) (by omega)
    refine Gx.val rfl rfl rfl (val_ixa rfl Try.underlying30 Try.ty3 rfl rfl (j := k) (rfl) (reach_base hx hx2)) ?_
    refine Gx.val rfl rfl rfl (val_load rfl Try.ty3 rfl rfl (cell_base (i := 0) hx hx2 rfl)) ?_
    refine Gx.val rfl rfl rfl (val_callV (vs := [.int .i64 ((x2 : Nat) : Int)]) (fs := []) (cs := [ptr b1 0, ptr b2 0]) rfl Try.fn26 rfl rfl (fun w H => hq w H.below x2 (List.mem_of_getElem? hx2))) ?_
    refine Gx.done ?_
    refine Gx.thenN ?_
    refine Gx.bool rfl (fun h3 => ?_) (fun h3 => ?_)
    · refine Gx.seq ?_
      refine Gx.region ?_
      refine Gx.val rfl rfl rfl (val_move rfl rfl) ?_
      refine Gx.val rfl rfl rfl (val_assign rfl rfl) ?_
      refine Gx.done ?_
      refine Gx.thenN ?_
      refine Gx.ret ?_
      refine Gx.blkR ?_
      refine Gx.thenR ?_
      refine Gx.thenR ?_
      refine Gx.blkR ?_
      refine Gx.thenR ?_
      refine Gx.ret1 Try.results25 rfl ?_
      have h9 := (fst_at hx2 hk).1 h3
      have h8 := (List.getElem?_eq_some_iff.1 hx2).1
      exact (by unfold idxV; rw [if_pos (by omega), h9])
    · refine Gx.skip ?_
      refine Gx.blkN ?_
      refine Gx.thenN ?_
      refine Gx.region ?_
      refine Gx.val rfl rfl rfl (val_add rfl rfl rfl (r := ((k + 1 : Nat) : Int)) (w64 (by omega) (by omega))) ?_
      refine Gx.val rfl rfl rfl (val_move rfl rfl) ?_
      refine Gx.done ?_
      refine Gx.thenN ?_
      exact Gx.round (k + 1) ((fst_at hx2 hk).2 (by simpa using h3)) (by first | omega | (dsimp only; omega)) ((.cons rfl (.cons rfl (.cons rfl (.cons rfl (.cons rfl .nil)))))) rfl
  · refine Gx.exit ?_
    refine Gx.thenE ?_
    refine Gx.thenE ?_
    refine Gx.blkE ?_
    refine Gx.thenN ?_
    refine Gx.seq ?_
    refine Gx.region ?_
    refine Gx.val rfl rfl rfl (val_assign rfl rfl) ?_
    refine Gx.done ?_
    refine Gx.thenN ?_
    refine Gx.ret ?_
    refine Gx.ret1 Try.results25 rfl ?_
    have h9 := fst_le q xs
    exact (by unfold idxV; rw [if_neg (by omega)])

theorem clone_some {W w : World} {a9 : Addr} {n9 c9 : Nat} {xs : List Nat} {R : Hp} (hl : xs.length ≤ 100000) (H : Sat W w (Hp.own FN 1 (.slice (some a9) n9 c9) xs * R)) :
    Calls Try.prog 16 #[.slice (some a9) n9 c9] w (Ret W fun v l => IsS v ∧ sep l = Hp.own FN 1 v xs * (Hp.own FN 1 (.slice (some a9) n9 c9) xs * R)) := by
  refine Gx.enter (l := [Hp.own FN 1 (.slice (some a9) n9 c9) xs, R]) Try.func16 rfl Try.ntmps16 rfl ((H.cast (congrArg _ (Hp.mul_one _).symm))) ?_
  refine Gx.know (m' := [(0, .slice (some a9) n9 c9)]) (.cons rfl .nil) ?_
  refine Gx.seq ?_
  refine Gx.region ?_
  refine Gx.val rfl rfl rfl (val_assign rfl rfl) ?_
  refine Gx.done ?_
  refine Gx.thenN ?_
  refine Gx.seq ?_
  refine Gx.seq ?_
  refine Gx.region ?_
  refine Gx.val rfl rfl rfl (val_move rfl rfl) ?_
  refine Gx.val rfl rfl rfl (Val.cast (val_eqlSN rfl Try.underlying30 rfl rfl) (v' := .bool false) rfl) ?_
  refine Gx.done ?_
  refine Gx.thenN ?_
  refine Gx.f rfl ?_
  refine Gx.skip ?_
  refine Gx.thenN ?_
  refine Gx.seq ?_
  refine Gx.region ?_
  refine Gx.eff rfl rfl rfl (eff_buildNil (f := FN) (sz := 1) (e := 3) rfl Try.underlying30 (fun w => by first | (go_simp; done) | (go_simp; rfl))) ?_
  rintro v1 _ ⟨hiv1, rfl⟩
  refine Gx.val rfl rfl rfl (val_move rfl rfl) ?_
  refine Gx.eff rfl rfl rfl (eff_pushAll (k := 0) (ys := xs) rfl Try.eN FN_len FN_one rfl rfl (fun w H => (H.at_ (k := 1) rfl).sls (by omega)) rfl (by simp; omega) (by simp; omega)) ?_
  rintro v2 _ ⟨hiv2, rfl⟩
  refine Gx.norm (l' := [Hp.own FN 1 v2 xs, Hp.own FN 1 (.slice (some a9) n9 c9) xs, R]) rfl ?_
  refine Gx.val rfl rfl rfl (val_assign rfl rfl) ?_
  refine Gx.done ?_
  refine Gx.thenN ?_
  refine Gx.ret ?_
  refine Gx.front 1 rfl ?_
  refine Gx.front 1 rfl ?_
  refine Gx.ret1 Try.results16 rfl ?_
  exact ⟨hiv2, sep2 _ _ _⟩

theorem clone_any {W w : World} {av : Value} {xs : List Nat} {R : Hp} (h0 : 0 < xs.length) (hl : xs.length ≤ 100000) (H : Sat W w (Hp.own FN 1 av xs * R)) :
    Calls Try.prog 16 #[av] w (Ret W fun v l => IsS v ∧ sep l = Hp.own FN 1 v xs * (Hp.own FN 1 av xs * R)) := by
  rcases H.ows with ⟨rfl, rfl⟩ | ⟨g, off, cap, rfl, _⟩
  · simp at h0
  · exact clone_some hl H
end Go.Proofs.Ytcjdphhofjibdaa
