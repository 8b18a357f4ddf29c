/- The keys' iterator; one map into another one; the least. The walks. No condition. -/
import Derived.Test.YtmkhjlmhobihmaaA1
namespace Go.Proofs.Ytmkhjlmhobihmaa
open Go.RowKit
set_option linter.unusedVariables false
set_option linter.unusedSimpArgs false
set_option maxRecDepth 100000

theorem mem_keys {ms : Ms} {a x b : Int} : b ∈ keysM (putM ms a x) ↔ b = a ∨ b ∈ keysM ms := putM_keyI
theorem perm_keys {left rest : Ms} {a x : Int} (h : left.Perm ((a, x) :: rest)) (b : Int) : b ∈ keysM left ↔ b = a ∨ b ∈ keysM rest := by
  unfold keysM
  rw [(h.map (·.1)).mem_iff]; simp
theorem keys_any {W w : World} {b : Nat} {R : Hp} (H : Sat W w R) : Calls Try.prog 18 #[.map (some b)] w (Ret W fun v l => ∃ bb, v = .func (.func 23) #[] #[ptr bb 0] ∧ sep l = Hp.rec_ bb [.map (some b)] * R) := by
  have H0 : Sat W w (sep [R]) := H.cast (by show _ = _ * 1; rw [Hp.mul_one])
  refine Gx.enter (l := [R]) Try.func18 rfl Try.ntmps18 rfl (H0) ?_
  refine Gx.know (m' := [(0, .map (some b))]) (.cons rfl .nil) ?_
  refine Gx.seq ?_
  refine Gx.region ?_
  refine Gx.eff rfl rfl rfl (eff_box rfl rfl (vs := [.map (some b)]) rfl) ?_
  rintro _ _ ⟨b1, rfl, rfl⟩
  refine Gx.val rfl rfl rfl (val_assign rfl rfl) ?_
  refine Gx.done ?_
  refine Gx.thenN ?_
  refine Gx.seq ?_
  refine Gx.region ?_
  refine Gx.val rfl rfl rfl (Val.cast (val_makeFunc (us := []) (vs := [ptr b1 0]) rfl rfl rfl) (v' := .func (.func 23) #[] #[ptr b1 0]) rfl) ?_
  refine Gx.val rfl rfl rfl (val_assign rfl rfl) ?_
  refine Gx.done ?_
  refine Gx.thenN ?_
  refine Gx.ret ?_
  refine Gx.ret1 Try.results18 rfl ?_
  exact ⟨b1, rfl, by show _ * (_ * 1) = _; rw [Hp.mul_one]⟩

theorem copy_any {W w : World} {b1 b2 : Nat} {m1 m2 : Ms} {R : Hp} (hin : ∀ x ∈ keysM m2, In x) (hl1 : m1.length ≤ 1000) (hl2 : m2.length ≤ 1000) (hn1 : m1.Pairwise (fun p q => p.1 ≠ q.1)) (H : Sat W w (mapI b1 m1 * (mapI b2 m2 * R))) :
    Calls Try.prog 15 #[.map (some b1), .map (some b2)] w (Ret W fun v l => ∃ md : Ms, ((∀ x, x ∈ keysM md ↔ x ∈ keysM m1 ∨ x ∈ keysM m2) ∧ md.length ≤ m1.length + m2.length ∧ md.Pairwise (fun p q => p.1 ≠ q.1)) ∧ v = .tuple #[] ∧ sep l = mapI b1 md * (mapI b2 m2 * R)) := by
  refine Gx.enter (l := [Hp.map Try.prog 3 intL intV b1 m1, Hp.map Try.prog 3 intL intV b2 m2, R]) Try.func15 rfl Try.ntmps15 rfl (H.frame2) ?_
  refine Gx.know (m' := [(0, .map (some b1)), (1, .map (some b2))]) (.cons rfl (.cons rfl .nil)) ?_
  refine Gx.seq ?_
  refine Gx.region ?_
  refine Gx.val rfl rfl rfl (val_move rfl rfl) ?_
  refine Gx.eff rfl rfl rfl (eff_range rfl Try.underlying38 rfl (k := 1) rfl) ?_
  rintro _ _ ⟨r1, rfl, rfl⟩
  refine Gx.norm (l' := [Hp.map Try.prog 3 intL intV b1 m1, Hp.iter Try.prog 3 intL intV b2 r1 m2 m2, R]) rfl ?_
  refine Gx.done ?_
  refine Gx.thenN ?_
  refine Gx.block ?_
  refine Gx.loop (ι := Ms × Ms) (fun ξ => (∀ x ∈ keysM ξ.2, x ∈ keysM m1 ∨ x ∈ keysM m2) ∧ (∀ x ∈ keysM m1, x ∈ keysM ξ.2) ∧ (∀ x ∈ keysM m2, x ∈ keysM ξ.2 ∨ x ∈ keysM ξ.1) ∧ (∀ p ∈ ξ.1, p.1 ∈ keysM m2) ∧ (ξ.2.length + ξ.1.length ≤ m1.length + m2.length) ∧ (ξ.2.Pairwise (fun p q => p.1 ≠ q.1))) (fun ξ => [(0, .map (some b1)), (1, .map (some b2)), (6, .map (some b2)), (7, ptr r1 0)]) (fun ξ => [Hp.map Try.prog 3 intL intV b1 ξ.2, Hp.iter Try.prog 3 intL intV b2 r1 m2 ξ.1, R]) (fun ξ => ξ.1.length) (m2, m1) ⟨fun x hx => .inl hx, fun x hx => hx, fun x hx => .inr hx, fun p hp => List.mem_map_of_mem hp, Nat.le_refl _, hn1⟩ ((.cons rfl (.cons rfl (.cons rfl (.cons rfl .nil))))) rfl ?_
  rintro ⟨left, md⟩ ⟨ha, hb, hc, hd, he, hf⟩
  dsimp only at ha hb hc hd he hf
  refine Gx.know (m' := [(0, .map (some b1)), (1, .map (some b2)), (6, .map (some b2)), (7, ptr r1 0)]) (.cons rfl (.cons rfl (.cons rfl (.cons rfl .nil)))) (Gx.norm (l' := [Hp.map Try.prog 3 intL intV b1 md, Hp.iter Try.prog 3 intL intV b2 r1 m2 left, R]) rfl ?_)
  refine Gx.seq ?_
  refine Gx.region ?_
  refine Gx.eff rfl rfl rfl (eff_next (kf := intV) rfl Try.kI (fun p hp => hin _ (hd p hp)) rfl (k := 1) rfl) ?_
  rintro _ _ (⟨hl2, rfl, rfl⟩ | ⟨ka3, xv4, rs5, hp6, rfl, rfl⟩)
  · refine Gx.norm (l' := [Hp.map Try.prog 3 intL intV b1 md, Hp.map Try.prog 3 intL intV b2 m2, R]) rfl ?_
    refine Gx.val rfl rfl rfl (val_extract rfl rfl rfl) ?_
    refine Gx.done ?_
    refine Gx.thenN ?_
    refine Gx.seq ?_
    refine Gx.f rfl ?_
    refine Gx.exit ?_
    refine Gx.thenE ?_
    refine Gx.thenE ?_
    refine Gx.blkE ?_
    refine Gx.endN ?_
    refine Gx.front 1 rfl ?_
    refine Gx.front 1 rfl ?_
    refine Gx.ret0 Try.results15 ?_
    exact ⟨md, ⟨fun x => ⟨ha x, fun h => h.elim (hb x) fun h => (hc x h).elim id fun h => by rw [hl2] at h; cases h⟩, by omega, hf⟩, rfl, sep2 _ _ _⟩
  · refine Gx.norm (l' := [Hp.map Try.prog 3 intL intV b1 md, Hp.iterE Try.prog 3 intL intV intV b2 r1 m2 rs5 ka3 xv4, R]) rfl ?_
    refine Gx.val rfl rfl rfl (val_extract rfl rfl rfl) ?_
    refine Gx.done ?_
    refine Gx.thenN ?_
    refine Gx.seq ?_
    refine Gx.t rfl ?_
    refine Gx.skip ?_
    refine Gx.thenN ?_
    refine Gx.block ?_
    refine Gx.seq ?_
    refine Gx.region ?_
    refine Gx.eff rfl rfl rfl (eff_entry rfl rfl (k := 1) rfl) ?_
    rintro _ _ ⟨rfl, rfl⟩
    refine Gx.norm (l' := [Hp.map Try.prog 3 intL intV b1 md, Hp.iter Try.prog 3 intL intV b2 r1 m2 rs5, R]) rfl ?_
    refine Gx.val rfl rfl rfl (val_extract rfl rfl rfl) ?_
    refine Gx.val rfl rfl rfl (val_extract rfl rfl rfl) ?_
    refine Gx.val rfl rfl rfl (val_assign rfl rfl) ?_
    refine Gx.val rfl rfl rfl (val_assign rfl rfl) ?_
    refine Gx.done ?_
    refine Gx.thenN ?_
    refine Gx.region ?_
    refine Gx.val rfl rfl rfl (val_move rfl rfl) ?_
    refine Gx.val rfl rfl rfl (val_move rfl rfl) ?_
    refine Gx.val rfl rfl rfl (val_move rfl rfl) ?_
    refine Gx.eff0 rfl rfl (eff_mapUpdate (vf := intV) rfl Try.underlying38 Try.kI intK rfl rfl rfl (i := ka3) (r := xv4) (hin _ (hd (ka3, xv4) (hp6.mem_iff.2 (List.mem_cons_self ..)))) (k := 0) rfl (by unfold maxLen; omega) (l' := [Hp.map Try.prog 3 intL intV b1 (putM md ka3 xv4), Hp.iter Try.prog 3 intL intV b2 r1 m2 rs5, R]) rfl) ?_
    rintro _ _ rfl
    refine Gx.done ?_
    refine Gx.blkN ?_
    refine Gx.thenN ?_
    exact Gx.round (rs5, putM md ka3 xv4) ⟨fun x hx => by rcases mem_keys.1 hx with e | h; (exact .inr (e ▸ hd (ka3, xv4) (hp6.mem_iff.2 (List.mem_cons_self ..)))); (exact ha x h), fun x hx => mem_keys.2 (.inr (hb x hx)), fun x hx => by rcases hc x hx with h | h; (exact .inl (mem_keys.2 (.inr h))); (rcases (perm_keys hp6 x).1 h with e | h; (exact .inl (mem_keys.2 (.inl e))); (exact .inr h)), fun p hq => hd p (hp6.mem_iff.2 (List.mem_cons_of_mem _ hq)), by have e9 := hp6.length_eq; simp only [List.length_cons] at e9; dsimp only; rw [putM_length]; split <;> omega, putM_nodup _ _ hf⟩ (by have e9 := hp6.length_eq; simp only [List.length_cons] at e9; dsimp only at e9 ⊢; omega) ((.cons rfl (.cons rfl (.cons rfl (.cons rfl .nil))))) rfl

theorem min_any {W : World} {va : Value} {xs : List Int} (ha : SlS FI 1 W va xs) (h0 : 0 < xs.length) : Calls Try.prog 16 #[va] W fun e w' => ∃ v, e = .returned v ∧ (∃ m : Int, (m ∈ xs ∧ ∀ x ∈ xs, m ≤ x) ∧ v = .int .i64 m) ∧ Below W.heap.size W w' := by
  have m1 := sls_bd ha
  refine calls_rel (Gx.enter (l := []) Try.func16 rfl Try.ntmps16 rfl (Sat.start W) ?_)
  refine Gx.know (m' := [(0, va)]) (.cons rfl .nil) ?_
  refine Gx.seq ?_
  refine Gx.region ?_
  refine Gx.val rfl rfl rfl (val_assign rfl rfl) ?_
  refine Gx.done ?_
  refine Gx.thenN ?_
  refine Gx.seq ?_
  refine Gx.seq ?_
  refine Gx.region ?_
  refine Gx.val rfl rfl rfl (val_move rfl rfl) ?_
  refine Gx.val rfl rfl rfl (val_len rfl Try.underlying22 rfl (len_base ha)) ?_
  refine Gx.val rfl rfl rfl (val_lss rfl rfl rfl) ?_
  refine Gx.done ?_
  refine Gx.thenN ?_
  refine Gx.decF rfl (by omega) ?_
  refine Gx.skip ?_
  refine Gx.thenN ?_
  refine Gx.seq ?_
  obtain ⟨y0, hy0⟩ := get_of_lt (xs := xs) (k := 0) (by omega)
  refine Gx.region ?_
  refine Gx.val rfl rfl rfl (val_move rfl rfl) ?_
  refine Gx.val rfl rfl rfl (val_ixa rfl Try.underlying22 Try.ty3 rfl rfl (j := 0) (rfl) (reach_base ha hy0)) ?_
  refine Gx.val rfl rfl rfl (val_load rfl Try.ty3 rfl rfl (cell_base (i := 0) (sz := 1) (j := 0) ha hy0 rfl)) ?_
  refine Gx.val rfl rfl rfl (val_assign rfl rfl) ?_
  refine Gx.done ?_
  refine Gx.thenN ?_
  refine Gx.seq ?_
  refine Gx.seq ?_
  refine Gx.region ?_
  refine Gx.val rfl rfl rfl (val_assign rfl rfl) ?_
  refine Gx.done ?_
  refine Gx.thenN ?_
  refine Gx.block ?_
  refine Gx.loop (ι := Nat × Int) (fun ξ => (ξ.1 ≤ xs.length) ∧ (ξ.2 ∈ xs) ∧ (∀ q x, q < ξ.1 → xs[q]? = some x → ξ.2 ≤ x)) (fun ξ => [(0, va), (4, .int .i64 ((ξ.1 : Nat) : Int)), (3, .int .i64 ξ.2)]) (fun ξ => []) (fun ξ => xs.length - ξ.1) (1, y0) ⟨by first | omega | (dsimp only; omega), List.mem_of_getElem? hy0, fun q x hq hx => by obtain rfl : q = 0 := (by omega); rw [hy0] at hx; cases hx; exact Int.le_refl _⟩ ((.cons rfl (.cons rfl (.cons rfl .nil)))) rfl ?_
  rintro ⟨k, m⟩ ⟨hk, hm, hle⟩
  dsimp only at hk hm hle
  refine Gx.know (m' := [(0, va), (4, .int .i64 ((k : Nat) : Int)), (3, .int .i64 m)]) (.cons rfl (.cons rfl (.cons rfl .nil))) (Gx.norm (l' := []) rfl ?_)
  refine Gx.seq ?_
  refine Gx.seq ?_
  refine Gx.region ?_
  refine Gx.val rfl rfl rfl (val_move rfl rfl) ?_
  refine Gx.val rfl rfl rfl (val_move rfl rfl) ?_
  refine Gx.val rfl rfl rfl (val_len rfl Try.underlying22 rfl (len_base ha)) ?_
  refine Gx.val rfl rfl rfl (val_lss rfl rfl rfl) ?_
  refine Gx.done ?_
  refine Gx.thenN ?_
  refine Gx.dec rfl (fun h1 => ?_) (fun h1 => ?_)
  · refine Gx.skip ?_
    refine Gx.thenN ?_
    refine Gx.seq ?_
    refine Gx.block ?_
    refine Gx.region ?_
    refine Gx.val rfl rfl rfl (val_move rfl rfl) ?_
    refine Gx.val rfl rfl rfl (val_move rfl rfl) ?_
    refine Gx.val rfl rfl rfl (val_move rfl rfl) ?_
    obtain ⟨x2, hx2⟩ := get_of_lt (xs := xs) (k := k) (by omega)
    refine Gx.val rfl rfl rfl (val_ixa rfl Try.underlying22 Try.ty3 rfl rfl (j := k) (rfl) (reach_base ha hx2)) ?_
    refine Gx.val rfl rfl rfl (val_load rfl Try.ty3 rfl rfl (cell_base (i := 0) ha hx2 rfl)) ?_
    refine Gx.val rfl rfl rfl (val_min rfl rfl rfl (r := (min m x2)) (by rw [Int.min_def]; split <;> split <;> omega)) ?_
    refine Gx.val rfl rfl rfl (val_assign rfl rfl) ?_
    refine Gx.done ?_
    refine Gx.blkN ?_
    refine Gx.thenN ?_
    refine Gx.region ?_
    refine Gx.val rfl rfl rfl (val_move rfl rfl) ?_
    refine Gx.val rfl rfl rfl (val_add rfl rfl rfl (r := ((k + 1 : Nat) : Int)) (w64 (by omega) (by omega))) ?_
    refine Gx.val rfl rfl rfl (val_assign rfl rfl) ?_
    refine Gx.done ?_
    refine Gx.thenN ?_
    exact Gx.round (k + 1, (min m x2)) ⟨by first | omega | (dsimp only; omega), by show min m x2 ∈ xs; rcases Int.le_total m x2 with h | h; (rw [Int.min_eq_left h]; exact hm); (rw [Int.min_eq_right h]; exact List.mem_of_getElem? hx2), fun q x hq hx => by (show min m x2 ≤ x); rcases Nat.lt_or_eq_of_le (Nat.le_of_lt_succ hq) with h | rfl; (exact Int.le_trans (Int.min_le_left ..) (hle q x h hx)); (rw [hx2] at hx; cases hx; exact Int.min_le_right ..)⟩ (by first | omega | (dsimp only; omega)) ((.cons rfl (.cons rfl (.cons rfl .nil)))) rfl
  · refine Gx.exit ?_
    refine Gx.thenE ?_
    refine Gx.thenE ?_
    refine Gx.blkE ?_
    refine Gx.thenN ?_
    refine Gx.seq ?_
    refine Gx.region ?_
    refine Gx.val rfl rfl rfl (val_move rfl rfl) ?_
    refine Gx.val rfl rfl rfl (val_assign rfl rfl) ?_
    refine Gx.done ?_
    refine Gx.thenN ?_
    refine Gx.ret ?_
    refine Gx.ret1 Try.results16 rfl ?_
    exact ⟨m, ⟨hm, fun x hx => by obtain ⟨q, hq⟩ := List.getElem?_of_mem hx; exact hle q x (by have := (List.getElem?_eq_some_iff.1 hq).1; omega) hq⟩, rfl⟩

end Go.Proofs.Ytmkhjlmhobihmaa
