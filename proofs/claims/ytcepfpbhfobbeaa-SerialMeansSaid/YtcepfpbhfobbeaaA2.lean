/- Which must stand ahead of each. The walk. No condition. -/
import Derived.Test.YtcepfpbhfobbeaaA1
namespace Go.Proofs.Ytcepfpbhfobbeaa
open Go.RowKit
set_option linter.unusedVariables false
set_option linter.unusedSimpArgs false
set_option maxRecDepth 100000

structure Nd where
  (t b : Nat)
  need : List (Nat × Nat)
def Nd.key (d : Nd) : Nat × Nat := (d.t, d.b)
abbrev mapO (mb : Nat) (G : List Nd) : Hp := Hp.map Try.prog 3 natL mapV mb (G.map Nd.key)
abbrev mapN (d : Nd) : Hp := Hp.map Try.prog 3 natL natI d.b d.need
abbrev bigN (G : List Nd) : Hp := Hp.big mapN G
structure GOk (G : List Nd) (K : Nat → Prop) (E : Nat → Nat → Prop) : Prop where
  nd : G.Pairwise (fun d e => d.t ≠ e.t)
  key : ∀ t, (∃ d ∈ G, d.t = t) ↔ K t
  ed : ∀ d ∈ G, ∀ a, a ∈ d.need.map (·.1) ↔ E a d.t
section
variable {G : List Nd} {K K' : Nat → Prop} {E E' : Nat → Nat → Prop}
theorem GOk.congr (h : GOk G K E) (h1 : ∀ t, K t ↔ K' t) (h2 : ∀ a b, K' b → (E a b ↔ E' a b)) : GOk G K' E' :=
  ⟨h.nd, fun t => (h.key t).trans (h1 t), fun d hd a => (h.ed d hd a).trans (h2 a d.t ((h1 d.t).1 ((h.key d.t).1 ⟨d, hd, rfl⟩)))⟩
theorem GOk.new (h : GOk G K E) {t : Nat} (b : Nat) (hn : ∀ d ∈ G, d.t ≠ t) (he : ∀ a, ¬ E a t) : GOk (G ++ [⟨t, b, []⟩]) (fun s => K s ∨ s = t) E := by
  refine ⟨List.pairwise_append.2 ⟨h.nd, List.pairwise_singleton _ _, fun d hd e he => ?_⟩, fun s => ?_, fun d hd a => ?_⟩
  · simp at he; subst he; exact hn d hd
  · constructor
    · rintro ⟨d, hd, e⟩
      rcases List.mem_append.1 hd with h1 | h1
      · exact .inl ((h.key s).1 ⟨d, h1, e⟩)
      · simp at h1; subst h1; exact .inr e.symm
    · rintro (h1 | h1)
      · obtain ⟨d, hd, e⟩ := (h.key s).2 h1
        exact ⟨d, List.mem_append_left _ hd, e⟩
      · exact ⟨_, List.mem_append_right _ (List.mem_singleton.2 rfl), h1.symm⟩
  · rcases List.mem_append.1 hd with h1 | h1
    · exact h.ed d h1 a
    · simp at h1; subst h1; simp; exact he a
theorem GOk.ne (h : GOk G K E) {i q : Nat} {e d : Nd} (he : G[i]? = some e) (hd : G[q]? = some d) (hne : i ≠ q) : e.t ≠ d.t := by
  have hpw := List.pairwise_iff_getElem.1 h.nd
  obtain ⟨h1, rfl⟩ := List.getElem?_eq_some_iff.1 he
  obtain ⟨h2, rfl⟩ := List.getElem?_eq_some_iff.1 hd
  rcases Nat.lt_or_gt_of_ne hne with hl | hl
  · exact hpw i q h1 h2 hl
  · exact fun e => hpw q i h2 h1 hl e.symm
theorem GOk.put (h : GOk G K E) {q : Nat} {d : Nd} (hd : G[q]? = some d) (a x : Nat) : GOk (G.set q ⟨d.t, d.b, putM d.need a x⟩) K (fun a' b' => E a' b' ∨ (a' = a ∧ b' = d.t)) := by
  obtain ⟨hlt, hdq⟩ := List.getElem?_eq_some_iff.1 hd
  have hget : ∀ i : Nat, ((G.set q ⟨d.t, d.b, putM d.need a x⟩)[i]?).map Nd.t = (G[i]?).map Nd.t := fun i => by
    by_cases e : q = i
    · subst e; rw [List.getElem?_set_self hlt, hd]; rfl
    · rw [List.getElem?_set_ne e]
  have hmap : (G.set q ⟨d.t, d.b, putM d.need a x⟩).map Nd.t = G.map Nd.t := List.ext_getElem? fun i => by rw [List.getElem?_map, List.getElem?_map]; exact hget i
  refine ⟨?_, fun t => ?_, fun e he a' => ?_⟩
  · have h1 : (G.map Nd.t).Pairwise (· ≠ ·) := List.pairwise_map.2 h.nd
    rw [← hmap] at h1
    exact List.pairwise_map.1 h1
  · rw [← h.key t]
    have h2 : t ∈ (G.set q ⟨d.t, d.b, putM d.need a x⟩).map Nd.t ↔ t ∈ G.map Nd.t := by rw [hmap]
    rw [List.mem_map, List.mem_map] at h2
    exact h2
  · obtain ⟨i, hi⟩ := List.getElem?_of_mem he
    rw [List.getElem?_set] at hi
    split at hi
    · cases hi
      dsimp only
      rw [putM_keyI, h.ed d (List.mem_of_getElem? hd)]
      constructor
      · rintro (h1 | h1)
        · exact .inr ⟨h1, rfl⟩
        · exact .inl h1
      · rintro (h1 | ⟨h1, _⟩)
        · exact .inr h1
        · exact .inl h1
    · rename_i hne
      have h3 := h.ne hi hd (fun e => hne e.symm)
      rw [h.ed e (List.mem_of_getElem? hi)]
      constructor
      · exact .inl
      · rintro (q1 | ⟨_, q1⟩)
        · exact q1
        · exact absurd q1 h3
theorem set_key {q : Nat} {d : Nd} (hd : G[q]? = some d) (m : List (Nat × Nat)) : (G.set q ⟨d.t, d.b, m⟩).map Nd.key = G.map Nd.key := List.ext_getElem? fun i => by
  rw [List.getElem?_map, List.getElem?_map]
  by_cases e : q = i
  · subst e; rw [List.getElem?_set_self (List.getElem?_eq_some_iff.1 hd).1, hd]; rfl
  · rw [List.getElem?_set_ne e]
theorem key_nd (h : GOk G K E) : (G.map Nd.key).Pairwise (fun p q => p.1 ≠ q.1) := List.pairwise_map.2 h.nd
theorem key_get (h : GOk G K E) {q : Nat} {d : Nd} (hd : G[q]? = some d) {t : Nat} (ht : d.t = t) : ((getM (G.map Nd.key) t).map mapV).getD (.map none) = mapV d.b := by
  subst ht
  rw [getM_at (key_nd h) (show (G.map Nd.key)[q]? = some (d.t, d.b) by rw [List.getElem?_map, hd]; rfl)]; rfl
theorem key_no {t : Nat} (hn : ∀ (q : Nat) (d : Nd), G[q]? = some d → d.t ≠ t) : ∀ p ∈ G.map Nd.key, p.1 ≠ t := fun p hp => by
  obtain ⟨d, hd, rfl⟩ := List.mem_map.1 hp
  obtain ⟨q, hq⟩ := List.getElem?_of_mem hd
  exact hn q d hq
theorem get_no {t : Nat} (hn : ∀ (q : Nat) (d : Nd), G[q]? = some d → d.t ≠ t) : ((getM (G.map Nd.key) t).map mapV).getD (.map none) = .map none := by rw [getM_no (key_no hn)]; rfl
end
def KeyK (l : List An) (k t : Nat) : Prop := ∃ (i : Nat) (x : An), i < k ∧ l[i]? = some x ∧ x.txn = t
def EdgeK (l : List An) (k a b : Nat) : Prop := ∃ (j i : Nat) (x y : An), j < i ∧ i < k ∧ l[j]? = some x ∧ l[i]? = some y ∧ clashB x y = true ∧ x.txn = a ∧ y.txn = b
/-- a round under way: j acts ahead of the k-th have been looked at -/
def EdgeJ (l : List An) (k : Nat) (x : An) (j a b : Nat) : Prop := EdgeK l k a b ∨ (b = x.txn ∧ ∃ (i : Nat) (y : An), i < j ∧ l[i]? = some y ∧ clashB y x = true ∧ y.txn = a)
theorem edgeJ_end {l : List An} {k : Nat} {x : An} (hx : l[k]? = some x) (a b : Nat) : EdgeJ l k x k a b ↔ EdgeK l (k + 1) a b := by
  constructor
  · rintro (⟨j, i, y, z, h1, h2, h3⟩ | ⟨rfl, i, y, h1, h2, h3, h4⟩)
    · exact ⟨j, i, y, z, h1, by omega, h3⟩
    · exact ⟨i, k, y, x, h1, by omega, h2, hx, h3, h4, rfl⟩
  · rintro ⟨j, i, y, z, h1, h2, h3, h4, h5, h6, h7⟩
    rcases Nat.lt_or_eq_of_le (Nat.le_of_lt_succ h2) with h | rfl
    · exact .inl ⟨j, i, y, z, h1, h, h3, h4, h5, h6, h7⟩
    · cases hx.symm.trans h4
      exact .inr ⟨h7.symm, j, y, h1, h3, h5, h6⟩
theorem keyK_succ {l : List An} {k : Nat} {x : An} (hx : l[k]? = some x) (t : Nat) : KeyK l (k + 1) t ↔ KeyK l k t ∨ t = x.txn := by
  constructor
  · rintro ⟨i, y, h1, h2, h3⟩
    rcases Nat.lt_or_eq_of_le (Nat.le_of_lt_succ h1) with h | rfl
    · exact .inl ⟨i, y, h, h2, h3⟩
    · cases hx.symm.trans h2; exact .inr h3.symm
  · rintro (⟨i, y, h1, h2, h3⟩ | rfl)
    · exact ⟨i, y, by omega, h2, h3⟩
    · exact ⟨k, x, by omega, hx, rfl⟩
theorem edgeJ_no {l : List An} {k : Nat} {x : An} {j a b : Nat} {y : An} (hy : l[j]? = some y) (hc : ¬ clashB y x = true) : EdgeJ l k x j a b ↔ EdgeJ l k x (j + 1) a b := by
  unfold EdgeJ
  refine or_congr Iff.rfl (and_congr Iff.rfl ⟨fun ⟨i, z, h1, h2⟩ => ⟨i, z, by omega, h2⟩, fun ⟨i, z, h1, h2, h3, h4⟩ => ?_⟩)
  rcases Nat.lt_or_eq_of_le (Nat.le_of_lt_succ h1) with h | rfl
  · exact ⟨i, z, h, h2, h3, h4⟩
  · cases hy.symm.trans h2; exact absurd h3 hc
theorem edgeJ_yes {l : List An} {k : Nat} {x : An} {j a b : Nat} {y : An} (hy : l[j]? = some y) (hc : clashB y x = true) : (EdgeJ l k x j a b ∨ (a = y.txn ∧ b = x.txn)) ↔ EdgeJ l k x (j + 1) a b := by
  unfold EdgeJ
  constructor
  · rintro ((h | ⟨h1, i, z, h2, h3⟩) | ⟨rfl, rfl⟩)
    · exact .inl h
    · exact .inr ⟨h1, i, z, by omega, h3⟩
    · exact .inr ⟨rfl, j, y, by omega, hy, hc, rfl⟩
  · rintro (h | ⟨h1, i, z, h2, h3, h4, h5⟩)
    · exact .inl (.inl h)
    · rcases Nat.lt_or_eq_of_le (Nat.le_of_lt_succ h2) with h | rfl
      · exact .inl (.inr ⟨h1, i, z, h, h3, h4, h5⟩)
      · cases hy.symm.trans h3; exact .inr ⟨h5.symm, h1⟩
theorem edges_any {W w : World} {hv : Value} {l : List An} {R : Hp} (hok : OkN l) (hs : SlS FA 3 W hv l) (H : Sat W w R) :
    Calls Try.prog 17 #[hv] w (Ret W fun v l9 => ∃ mb G, .map (some mb) = v ∧ GOk G (Key l) (Edge l) ∧ G.length ≤ l.length ∧ sep l9 = mapO mb G * (bigN G * R)) := by
  have h60 := hok.len
  refine Gx.enter (l := [R]) Try.func17 rfl Try.ntmps17 rfl ((H.cast (Hp.mul_one _).symm)) ?_
  refine Gx.know (m' := [(0, hv)]) (.cons rfl .nil) ?_
  refine Gx.seq ?_
  refine Gx.region ?_
  refine Gx.val rfl rfl rfl (val_assign rfl rfl) ?_
  refine Gx.done ?_
  refine Gx.thenN ?_
  refine Gx.seq ?_
  refine Gx.region ?_
  refine Gx.eff rfl rfl rfl (eff_makeMap 3 natL mapV rfl) ?_
  rintro _ _ ⟨b1, rfl, rfl⟩
  refine Gx.val rfl rfl rfl (val_assign rfl rfl) ?_
  refine Gx.done ?_
  refine Gx.thenN ?_
  refine Gx.seq ?_
  refine Gx.seq ?_
  refine Gx.emp ?_
  refine Gx.norm (l' := [bigN ([] : List Nd), Hp.map Try.prog 3 natL mapV b1 (([] : List Nd).map Nd.key), R]) rfl ?_
  refine Gx.region ?_
  refine Gx.val rfl rfl rfl (val_move rfl rfl) ?_
  refine Gx.val rfl rfl rfl (val_len rfl Try.underlying22 rfl (len_base hs)) ?_
  refine Gx.val rfl rfl rfl (val_move rfl rfl) ?_
  refine Gx.done ?_
  refine Gx.thenN ?_
  refine Gx.block ?_
  refine Gx.loop (ι := Nat × (List Nd)) (fun ξ => (ξ.1 ≤ l.length) ∧ (GOk ξ.2 (KeyK l ξ.1) (EdgeK l ξ.1)) ∧ (ξ.2.length ≤ ξ.1) ∧ (∀ d ∈ ξ.2, d.need.length ≤ 60 * ξ.1)) (fun ξ => [(0, hv), (3, .map (some b1)), (9, hv), (10, .int .i64 ((l.length : Nat) : Int)), (11, .int .i64 ((ξ.1 : Nat) : Int))]) (fun ξ => [bigN ξ.2, Hp.map Try.prog 3 natL mapV b1 (ξ.2.map Nd.key), R]) (fun ξ => l.length - ξ.1) (0, []) ⟨by first | omega | (dsimp only; omega), ⟨List.Pairwise.nil, fun t => ⟨fun ⟨d, hd, _⟩ => by simp at hd, fun ⟨i, x, h, _⟩ => by omega⟩, fun d hd => by simp at hd⟩, Nat.zero_le _, fun d hd => by simp at hd⟩ ((.cons rfl (.cons rfl (.cons rfl (.cons rfl (.cons rfl .nil)))))) rfl ?_
  rintro ⟨k, G⟩ ⟨hk, hG, hGl, hGn⟩
  dsimp only at hk hG hGl hGn
  refine Gx.know (m' := [(0, hv), (3, .map (some b1)), (9, hv), (10, .int .i64 ((l.length : Nat) : Int)), (11, .int .i64 ((k : Nat) : Int))]) (.cons rfl (.cons rfl (.cons rfl (.cons rfl (.cons rfl .nil))))) (Gx.norm (l' := [bigN G, Hp.map Try.prog 3 natL mapV b1 (G.map Nd.key), R]) rfl ?_)
  refine Gx.seq ?_
  refine Gx.region ?_
  refine Gx.val rfl rfl rfl (val_lss rfl rfl rfl) ?_
  refine Gx.done ?_
  refine Gx.thenN ?_
  refine Gx.seq ?_
  refine Gx.dec rfl (fun h2 => ?_) (fun h2 => ?_)
  · refine Gx.skip ?_
    refine Gx.thenN ?_
    refine Gx.seq ?_
    refine Gx.block ?_
    refine Gx.seq ?_
    refine Gx.region ?_
    refine Gx.val rfl rfl rfl (val_move rfl rfl) ?_
    obtain ⟨x3, hx3⟩ := get_of_lt (xs := l) (k := k) (by omega)
    refine Gx.val rfl rfl rfl (val_ixa rfl Try.underlying22 Try.ty30 rfl rfl (j := k) (rfl) (reach_base hs hx3)) ?_
    refine Gx.val rfl rfl rfl (Val.cast (val_loadA rfl Try.ty30 rfl rfl rfl (cells_base hs hx3)) (v' := .agg #[.int .i64 x3.kind, .int .i64 ((x3.txn : Nat) : Int), .int .i64 ((x3.item : Nat) : Int)]) rfl) ?_
    refine Gx.eff rfl rfl rfl (eff_alloc rfl Try.ty30 (vs := [.int .i64 0, .int .i64 0, .int .i64 0]) rfl) ?_
    rintro _ _ ⟨b4, rfl, rfl⟩
    refine Gx.val rfl rfl rfl (val_assign rfl rfl) ?_
    refine Gx.eff0 rfl rfl (eff_store rfl Try.ty30 rfl rfl (us := [.int .i64 x3.kind, .int .i64 ((x3.txn : Nat) : Int), .int .i64 ((x3.item : Nat) : Int)]) rfl rfl rfl (k := 0) rfl (rfl) (vs' := [.int .i64 x3.kind, .int .i64 ((x3.txn : Nat) : Int), .int .i64 ((x3.item : Nat) : Int)]) (rfl) (l' := [Hp.rec_ b4 [.int .i64 x3.kind, .int .i64 ((x3.txn : Nat) : Int), .int .i64 ((x3.item : Nat) : Int)], bigN G, Hp.map Try.prog 3 natL mapV b1 (G.map Nd.key), R]) rfl) ?_
    rintro _ _ rfl
    refine Gx.done ?_
    refine Gx.thenN ?_
    refine Gx.seq ?_
    refine Gx.seq ?_
    have hxk := hx3
    have hxb := hok.all _ _ hxk
    by_cases hkn : ∃ (q : Nat) (d : Nd), G[q]? = some d ∧ d.t = x3.txn
    · obtain ⟨q, d, hd, hdt⟩ := hkn
      refine Gx.region ?_
      refine Gx.val rfl rfl rfl (val_move rfl rfl) ?_
      refine Gx.val rfl rfl rfl (Val.cast (val_fieldAddr rfl Try.underlying30 rfl Try.ty3 rfl rfl) (v' := ptr b4 1) rfl) ?_
      refine Gx.val rfl rfl rfl (val_load rfl Try.ty3 rfl rfl (cell_rec (k := 0) rfl rfl)) ?_
      refine Gx.val rfl rfl rfl (val_lookup1 rfl Try.underlying40 Try.kN Try.ty42 rfl rfl (i := x3.txn) (by omega) (k := 2) rfl (r := .map (some d.b)) (key_get hG hd hdt)) ?_
      refine Gx.val rfl rfl rfl (val_eqlMapS rfl Try.underlying42 rfl rfl) ?_
      refine Gx.done ?_
      refine Gx.thenN ?_
      refine Gx.f rfl ?_
      refine Gx.skip ?_
      refine Gx.thenN ?_
      refine Gx.seq ?_
      have hG1 : GOk G (KeyK l (k + 1)) (EdgeJ l k x3 0) := hG.congr (fun t => by rw [keyK_succ hxk]; exact ⟨.inl, fun q1 => q1.elim id fun q1 => (hG.key t).1 ⟨d, List.mem_of_getElem? hd, hdt.trans q1.symm⟩⟩) (fun a b _ => ⟨.inl, fun q1 => q1.elim id fun ⟨_, i, y, h, _⟩ => by omega⟩)
      have hgl1 : G.length ≤ k + 1 := by omega
      have hex1 : ∃ d2, G[q]? = some d2 ∧ d2.t = x3.txn := ⟨d, hd, hdt⟩
      have hgn1 := hGn
      refine Gx.region ?_
      refine Gx.val rfl rfl rfl (val_move rfl rfl) ?_
      refine Gx.val rfl rfl rfl (val_move rfl rfl) ?_
      have hcut5 : SlS FA 3 W (sCut 3 0 k hv) (l.take k) := (hs).cut (lo := 0) (hi := k) (by omega) (by omega)
      refine Gx.val rfl rfl rfl (val_cutTo (up := k) rfl Try.underlying22 Try.ty30 rfl hs rfl (rfl) (by omega)) ?_
      refine Gx.val rfl rfl rfl (val_len rfl Try.underlying22 rfl (len_base hcut5)) ?_
      refine Gx.val rfl rfl rfl (val_move rfl rfl) ?_
      refine Gx.done ?_
      refine Gx.thenN ?_
      refine Gx.block ?_
      refine Gx.front 3 rfl ?_
      refine Gx.front 1 rfl ?_
      refine Gx.front 3 rfl ?_
      refine Gx.front 3 rfl ?_
      refine Gx.loop (ι := Nat × (List Nd)) (fun ξ => (ξ.1 ≤ (l.take k).length) ∧ (GOk ξ.2 (KeyK l (k + 1)) (EdgeJ l k x3 ξ.1)) ∧ (ξ.2.length ≤ k + 1) ∧ (∃ d2, ξ.2[q]? = some d2 ∧ d2.t = x3.txn) ∧ (∀ d ∈ ξ.2, d.need.length ≤ 60 * k + ξ.1)) (fun ξ => [(0, hv), (3, .map (some b1)), (9, hv), (10, .int .i64 ((l.length : Nat) : Int)), (11, .int .i64 ((k : Nat) : Int)), (5, ptr b4 0), (4, .int .i64 ((k : Nat) : Int)), (27, sCut 3 0 k hv), (28, .int .i64 (((l.take k).length : Nat) : Int)), (29, .int .i64 ((ξ.1 : Nat) : Int))]) (fun ξ => [bigN ξ.2, Hp.map Try.prog 3 natL mapV b1 (ξ.2.map Nd.key), Hp.rec_ b4 [.int .i64 x3.kind, .int .i64 ((x3.txn : Nat) : Int), .int .i64 ((x3.item : Nat) : Int)], R]) (fun ξ => (l.take k).length - ξ.1) (0, G) ⟨by first | omega | (dsimp only; omega), hG1, hgl1, hex1, hgn1⟩ ((.cons rfl (.cons rfl (.cons rfl (.cons rfl (.cons rfl (.cons rfl (.cons rfl (.cons rfl (.cons rfl (.cons rfl .nil))))))))))) rfl ?_
      rintro ⟨j, G2⟩ ⟨hj, hG2, hGl2, hex, hGn2⟩
      dsimp only at hj hG2 hGl2 hex hGn2
      refine Gx.know (m' := [(0, hv), (3, .map (some b1)), (9, hv), (10, .int .i64 ((l.length : Nat) : Int)), (11, .int .i64 ((k : Nat) : Int)), (5, ptr b4 0), (4, .int .i64 ((k : Nat) : Int)), (27, sCut 3 0 k hv), (28, .int .i64 (((l.take k).length : Nat) : Int)), (29, .int .i64 ((j : Nat) : Int))]) (.cons rfl (.cons rfl (.cons rfl (.cons rfl (.cons rfl (.cons rfl (.cons rfl (.cons rfl (.cons rfl (.cons rfl .nil)))))))))) (Gx.norm (l' := [bigN G2, Hp.map Try.prog 3 natL mapV b1 (G2.map Nd.key), Hp.rec_ b4 [.int .i64 x3.kind, .int .i64 ((x3.txn : Nat) : Int), .int .i64 ((x3.item : Nat) : Int)], R]) rfl ?_)
      have htl : (l.take k).length = k := by rw [List.length_take]; omega
      refine Gx.seq ?_
      refine Gx.region ?_
      refine Gx.val rfl rfl rfl (val_lss rfl rfl rfl) ?_
      refine Gx.done ?_
      refine Gx.thenN ?_
      refine Gx.seq ?_
      refine Gx.dec rfl (fun h6 => ?_) (fun h6 => ?_)
      · refine Gx.skip ?_
        refine Gx.thenN ?_
        refine Gx.seq ?_
        refine Gx.block ?_
        refine Gx.seq ?_
        refine Gx.region ?_
        obtain ⟨x7, hx7⟩ := get_of_lt (xs := (l.take k)) (k := j) (by omega)
        refine Gx.val rfl rfl rfl (val_ixa rfl Try.underlying22 Try.ty30 rfl rfl (j := j) (rfl) (reach_base hcut5 hx7)) ?_
        refine Gx.val rfl rfl rfl (Val.cast (val_loadA rfl Try.ty30 rfl rfl rfl (cells_base hcut5 hx7)) (v' := .agg #[.int .i64 x7.kind, .int .i64 ((x7.txn : Nat) : Int), .int .i64 ((x7.item : Nat) : Int)]) rfl) ?_
        refine Gx.eff rfl rfl rfl (eff_alloc rfl Try.ty30 (vs := [.int .i64 0, .int .i64 0, .int .i64 0]) rfl) ?_
        rintro _ _ ⟨b8, rfl, rfl⟩
        refine Gx.eff0 rfl rfl (eff_store rfl Try.ty30 rfl rfl (us := [.int .i64 x7.kind, .int .i64 ((x7.txn : Nat) : Int), .int .i64 ((x7.item : Nat) : Int)]) rfl rfl rfl (k := 0) rfl (rfl) (vs' := [.int .i64 x7.kind, .int .i64 ((x7.txn : Nat) : Int), .int .i64 ((x7.item : Nat) : Int)]) (rfl) (l' := [Hp.rec_ b8 [.int .i64 x7.kind, .int .i64 ((x7.txn : Nat) : Int), .int .i64 ((x7.item : Nat) : Int)], bigN G2, Hp.map Try.prog 3 natL mapV b1 (G2.map Nd.key), Hp.rec_ b4 [.int .i64 x3.kind, .int .i64 ((x3.txn : Nat) : Int), .int .i64 ((x3.item : Nat) : Int)], R]) rfl) ?_
        rintro _ _ rfl
        refine Gx.done ?_
        refine Gx.thenN ?_
        refine Gx.seq ?_
        refine Gx.region ?_
        refine Gx.val rfl rfl rfl (Val.cast (val_loadA rfl Try.ty30 rfl rfl rfl (cells_rec (k := 0) rfl)) (v' := .agg #[.int .i64 x7.kind, .int .i64 ((x7.txn : Nat) : Int), .int .i64 ((x7.item : Nat) : Int)]) rfl) ?_
        refine Gx.val rfl rfl rfl (Val.cast (val_loadA rfl Try.ty30 rfl rfl rfl (cells_rec (k := 3) rfl)) (v' := .agg #[.int .i64 x3.kind, .int .i64 ((x3.txn : Nat) : Int), .int .i64 ((x3.item : Nat) : Int)]) rfl) ?_
        refine Gx.val rfl rfl rfl (val_call (vs := [.agg #[.int .i64 x7.kind, .int .i64 ((x7.txn : Nat) : Int), .int .i64 ((x7.item : Nat) : Int)], .agg #[.int .i64 x3.kind, .int .i64 ((x3.txn : Nat) : Int), .int .i64 ((x3.item : Nat) : Int)]]) rfl Try.fn20 rfl (fun w H => clash20 x7 x3 _ (by have := hok.all _ _ (tk hx7); omega) (by omega))) ?_
        refine Gx.done ?_
        refine Gx.thenN ?_
        refine Gx.bool rfl (fun h9 => ?_) (fun h9 => ?_)
        · obtain ⟨d2, hd2, hdt2⟩ := hex
          have hyb := hok.all _ _ (tk hx7)
          have hnl := hGn2 d2 (List.mem_of_getElem? hd2)
          refine Gx.focus (n := 1) (k := q) rfl hd2 (fun R10 hf11 hg12 => ?_)
          refine Gx.norm (l' := [Hp.rec_ b8 [.int .i64 x7.kind, .int .i64 ((x7.txn : Nat) : Int), .int .i64 ((x7.item : Nat) : Int)], Hp.map Try.prog 3 natL natI d2.b d2.need, Hp.map Try.prog 3 natL mapV b1 (G2.map Nd.key), Hp.rec_ b4 [.int .i64 x3.kind, .int .i64 ((x3.txn : Nat) : Int), .int .i64 ((x3.item : Nat) : Int)], R, R10]) rfl ?_
          refine Gx.region ?_
          refine Gx.val rfl rfl rfl (val_move rfl rfl) ?_
          refine Gx.val rfl rfl rfl (Val.cast (val_fieldAddr rfl Try.underlying30 rfl Try.ty3 rfl rfl) (v' := ptr b4 1) rfl) ?_
          refine Gx.val rfl rfl rfl (val_load rfl Try.ty3 rfl rfl (cell_rec (k := 3) rfl rfl)) ?_
          refine Gx.val rfl rfl rfl (val_lookup1 rfl Try.underlying40 Try.kN Try.ty42 rfl rfl (i := x3.txn) (by omega) (k := 2) rfl (r := .map (some d2.b)) (key_get hG2 hd2 hdt2)) ?_
          refine Gx.val rfl rfl rfl (Val.cast (val_fieldAddr rfl Try.underlying30 rfl Try.ty3 rfl rfl) (v' := ptr b8 1) rfl) ?_
          refine Gx.val rfl rfl rfl (val_load rfl Try.ty3 rfl rfl (cell_rec (k := 0) rfl rfl)) ?_
          refine Gx.eff0 rfl rfl (eff_mapUpdate (vf := natI) rfl Try.underlying42 Try.kN natK rfl rfl rfl (i := x7.txn) (r := 1) (by omega) (k := 1) rfl (show d2.need.length < maxLen from by unfold maxLen; omega) (l' := [Hp.rec_ b8 [.int .i64 x7.kind, .int .i64 ((x7.txn : Nat) : Int), .int .i64 ((x7.item : Nat) : Int)], Hp.map Try.prog 3 natL natI d2.b (putM d2.need x7.txn 1), Hp.map Try.prog 3 natL mapV b1 (G2.map Nd.key), Hp.rec_ b4 [.int .i64 x3.kind, .int .i64 ((x3.txn : Nat) : Int), .int .i64 ((x3.item : Nat) : Int)], R, R10]) rfl) ?_
          rintro _ _ rfl
          refine Gx.done ?_
          refine Gx.blkN ?_
          refine Gx.thenN ?_
          refine Gx.merge 1 4 rfl rfl (hg12 ⟨d2.t, d2.b, putM d2.need x7.txn 1⟩) (l' := [bigN (G2.set q ⟨d2.t, d2.b, putM d2.need x7.txn 1⟩), Hp.rec_ b8 [.int .i64 x7.kind, .int .i64 ((x7.txn : Nat) : Int), .int .i64 ((x7.item : Nat) : Int)], Hp.map Try.prog 3 natL mapV b1 (G2.map Nd.key), Hp.rec_ b4 [.int .i64 x3.kind, .int .i64 ((x3.txn : Nat) : Int), .int .i64 ((x3.item : Nat) : Int)], R]) rfl ?_
          refine Gx.norm (l' := [bigN (G2.set q ⟨d2.t, d2.b, putM d2.need x7.txn 1⟩), Hp.rec_ b8 [.int .i64 x7.kind, .int .i64 ((x7.txn : Nat) : Int), .int .i64 ((x7.item : Nat) : Int)], Hp.map Try.prog 3 natL mapV b1 ((G2.set q ⟨d2.t, d2.b, putM d2.need x7.txn 1⟩).map Nd.key), Hp.rec_ b4 [.int .i64 x3.kind, .int .i64 ((x3.txn : Nat) : Int), .int .i64 ((x3.item : Nat) : Int)], R]) (by rw [set_key hd2] <;> rfl) ?_
          refine Gx.region ?_
          refine Gx.val rfl rfl rfl (val_add rfl rfl rfl (r := ((j + 1 : Nat) : Int)) (w64 (by omega) (by omega))) ?_
          refine Gx.val rfl rfl rfl (val_move rfl rfl) ?_
          refine Gx.done ?_
          refine Gx.thenN ?_
          refine Gx.drop 1 rfl ?_
          exact Gx.round (j + 1, (G2.set q ⟨d2.t, d2.b, putM d2.need x7.txn 1⟩)) ⟨by first | omega | (dsimp only; omega), (hG2.put hd2 x7.txn 1).congr (fun t => Iff.rfl) (fun a b _ => by rw [hdt2]; exact edgeJ_yes (tk hx7) (by assumption)), by rw [List.length_set]; exact hGl2, ⟨⟨d2.t, d2.b, putM d2.need x7.txn 1⟩, by rw [List.getElem?_set_self (List.getElem?_eq_some_iff.1 hd2).1], hdt2⟩, fun d hd => by
              have h0 := putM_length d2.need x7.txn 1
              have h1 := hGn2 d2 (List.mem_of_getElem? hd2)
              rcases List.mem_or_eq_of_mem_set hd with h | rfl
              · have := hGn2 d h; omega
              · dsimp only; rw [h0]; split <;> omega⟩ (by first | omega | (dsimp only; omega)) ((.cons rfl (.cons rfl (.cons rfl (.cons rfl (.cons rfl (.cons rfl (.cons rfl (.cons rfl (.cons rfl (.cons rfl .nil))))))))))) rfl
        · refine Gx.skip ?_
          refine Gx.blkN ?_
          refine Gx.thenN ?_
          refine Gx.region ?_
          refine Gx.val rfl rfl rfl (val_add rfl rfl rfl (r := ((j + 1 : Nat) : Int)) (w64 (by omega) (by omega))) ?_
          refine Gx.val rfl rfl rfl (val_move rfl rfl) ?_
          refine Gx.done ?_
          refine Gx.thenN ?_
          refine Gx.drop 0 rfl ?_
          exact Gx.round (j + 1, G2) ⟨by first | omega | (dsimp only; omega), hG2.congr (fun t => Iff.rfl) (fun a b _ => edgeJ_no (tk hx7) (by simp_all)), hGl2, hex, fun d hd => by have := hGn2 d hd; omega⟩ (by first | omega | (dsimp only; omega)) ((.cons rfl (.cons rfl (.cons rfl (.cons rfl (.cons rfl (.cons rfl (.cons rfl (.cons rfl (.cons rfl (.cons rfl .nil))))))))))) rfl
      · refine Gx.exit ?_
        refine Gx.thenE ?_
        refine Gx.thenE ?_
        refine Gx.blkE ?_
        refine Gx.blkN ?_
        refine Gx.thenN ?_
        refine Gx.region ?_
        refine Gx.val rfl rfl rfl (val_add rfl rfl rfl (r := ((k + 1 : Nat) : Int)) (w64 (by omega) (by omega))) ?_
        refine Gx.val rfl rfl rfl (val_move rfl rfl) ?_
        refine Gx.done ?_
        refine Gx.thenN ?_
        refine Gx.drop 2 rfl ?_
        exact Gx.round (k + 1, G2) ⟨by first | omega | (dsimp only; omega), hG2.congr (fun t => Iff.rfl) (fun a b _ => by rw [show j = k by omega]; exact edgeJ_end hxk a b), by omega, fun d hd => by have := hGn2 d hd; omega⟩ (by first | omega | (dsimp only; omega)) ((.cons rfl (.cons rfl (.cons rfl (.cons rfl (.cons rfl .nil)))))) rfl
    · have hno : ∀ (q : Nat) (d : Nd), G[q]? = some d → d.t ≠ x3.txn := fun q d h1 h2 => hkn ⟨q, d, h1, h2⟩
      refine Gx.region ?_
      refine Gx.val rfl rfl rfl (val_move rfl rfl) ?_
      refine Gx.val rfl rfl rfl (Val.cast (val_fieldAddr rfl Try.underlying30 rfl Try.ty3 rfl rfl) (v' := ptr b4 1) rfl) ?_
      refine Gx.val rfl rfl rfl (val_load rfl Try.ty3 rfl rfl (cell_rec (k := 0) rfl rfl)) ?_
      refine Gx.val rfl rfl rfl (val_lookup1 rfl Try.underlying40 Try.kN Try.ty42 rfl rfl (i := x3.txn) (by omega) (k := 2) rfl (r := .map none) (get_no hno)) ?_
      refine Gx.val rfl rfl rfl (val_eqlMapN rfl Try.underlying42 rfl rfl) ?_
      refine Gx.done ?_
      refine Gx.thenN ?_
      refine Gx.t rfl ?_
      refine Gx.region ?_
      refine Gx.val rfl rfl rfl (val_move rfl rfl) ?_
      refine Gx.val rfl rfl rfl (Val.cast (val_fieldAddr rfl Try.underlying30 rfl Try.ty3 rfl rfl) (v' := ptr b4 1) rfl) ?_
      refine Gx.val rfl rfl rfl (val_load rfl Try.ty3 rfl rfl (cell_rec (k := 0) rfl rfl)) ?_
      refine Gx.eff rfl rfl rfl (eff_makeMap 3 natL natI rfl) ?_
      rintro _ _ ⟨b13, rfl, rfl⟩
      refine Gx.eff0 rfl rfl (eff_mapUpdate (vf := mapV) rfl Try.underlying40 Try.kN natK rfl rfl rfl (i := x3.txn) (r := b13) (by omega) (k := 3) rfl (by rw [List.length_map]; unfold maxLen; omega) (l' := [Hp.map Try.prog 3 natL natI b13 ([]), Hp.rec_ b4 [.int .i64 x3.kind, .int .i64 ((x3.txn : Nat) : Int), .int .i64 ((x3.item : Nat) : Int)], bigN G, Hp.map Try.prog 3 natL mapV b1 (putM (G.map Nd.key) x3.txn b13), R]) rfl) ?_
      rintro _ _ rfl
      refine Gx.done ?_
      refine Gx.thenN ?_
      refine Gx.seq ?_
      have hG1 : GOk (G ++ [(⟨x3.txn, b13, []⟩ : Nd)]) (KeyK l (k + 1)) (EdgeJ l k x3 0) := (hG.new b13 (fun d hd => by obtain ⟨q, hq⟩ := List.getElem?_of_mem hd; exact hno q d hq) (fun a ⟨j, i, y, z, h1, h2, h3, h4, h5, h6, h7⟩ => by
          obtain ⟨d, hd, e⟩ := (hG.key x3.txn).2 ⟨i, z, h2, h4, h7⟩
          obtain ⟨q, hq⟩ := List.getElem?_of_mem hd
          exact hno q d hq e)).congr (fun t => (keyK_succ hxk t).symm) (fun a b _ => ⟨.inl, fun q1 => q1.elim id fun ⟨_, i, y, h, _⟩ => by omega⟩)
      have hgl1 : (G ++ [(⟨x3.txn, b13, []⟩ : Nd)]).length ≤ k + 1 := by rw [List.length_append, List.length_singleton]; omega
      have hex1 : ∃ d2, (G ++ [(⟨x3.txn, b13, []⟩ : Nd)])[G.length]? = some d2 ∧ d2.t = x3.txn := ⟨(⟨x3.txn, b13, []⟩ : Nd), by simp, rfl⟩
      have hgn1 : ∀ d ∈ (G ++ [(⟨x3.txn, b13, []⟩ : Nd)]), d.need.length ≤ 60 * k := fun d hd => by
        rcases List.mem_append.1 hd with h1 | h1
        · exact hGn d h1
        · simp at h1; subst h1; exact Nat.zero_le _
      refine Gx.norm (l' := [Hp.map Try.prog 3 natL natI b13 ([]), Hp.rec_ b4 [.int .i64 x3.kind, .int .i64 ((x3.txn : Nat) : Int), .int .i64 ((x3.item : Nat) : Int)], bigN G, Hp.map Try.prog 3 natL mapV b1 ((G ++ [(⟨x3.txn, b13, []⟩ : Nd)]).map Nd.key), R]) (by rw [show ((G ++ [(⟨x3.txn, b13, []⟩ : Nd)]).map Nd.key) = putM (G.map Nd.key) x3.txn b13 by rw [putM_new _ (key_no hno), List.map_append]; rfl] <;> rfl) ?_
      refine Gx.merge 2 0 rfl rfl (by rw [bigN, Hp.big_append]; show _ = _ * _; rw [show Hp.big mapN [(⟨x3.txn, b13, []⟩ : Nd)] = mapN (⟨x3.txn, b13, []⟩ : Nd) * 1 from rfl, Hp.mul_one]) (l' := [bigN (G ++ [(⟨x3.txn, b13, []⟩ : Nd)]), Hp.rec_ b4 [.int .i64 x3.kind, .int .i64 ((x3.txn : Nat) : Int), .int .i64 ((x3.item : Nat) : Int)], Hp.map Try.prog 3 natL mapV b1 ((G ++ [(⟨x3.txn, b13, []⟩ : Nd)]).map Nd.key), R]) rfl ?_
      refine Gx.region ?_
      refine Gx.val rfl rfl rfl (val_move rfl rfl) ?_
      refine Gx.val rfl rfl rfl (val_move rfl rfl) ?_
      have hcut14 : SlS FA 3 W (sCut 3 0 k hv) (l.take k) := (hs).cut (lo := 0) (hi := k) (by omega) (by omega)
      refine Gx.val rfl rfl rfl (val_cutTo (up := k) rfl Try.underlying22 Try.ty30 rfl hs rfl (rfl) (by omega)) ?_
      refine Gx.val rfl rfl rfl (val_len rfl Try.underlying22 rfl (len_base hcut14)) ?_
      refine Gx.val rfl rfl rfl (val_move rfl rfl) ?_
      refine Gx.done ?_
      refine Gx.thenN ?_
      refine Gx.block ?_
      refine Gx.front 3 rfl ?_
      refine Gx.front 2 rfl ?_
      refine Gx.front 3 rfl ?_
      refine Gx.front 3 rfl ?_
      refine Gx.loop (ι := Nat × (List Nd)) (fun ξ => (ξ.1 ≤ (l.take k).length) ∧ (GOk ξ.2 (KeyK l (k + 1)) (EdgeJ l k x3 ξ.1)) ∧ (ξ.2.length ≤ k + 1) ∧ (∃ d2, ξ.2[G.length]? = some d2 ∧ d2.t = x3.txn) ∧ (∀ d ∈ ξ.2, d.need.length ≤ 60 * k + ξ.1)) (fun ξ => [(0, hv), (3, .map (some b1)), (9, hv), (10, .int .i64 ((l.length : Nat) : Int)), (11, .int .i64 ((k : Nat) : Int)), (5, ptr b4 0), (4, .int .i64 ((k : Nat) : Int)), (27, sCut 3 0 k hv), (28, .int .i64 (((l.take k).length : Nat) : Int)), (29, .int .i64 ((ξ.1 : Nat) : Int))]) (fun ξ => [bigN ξ.2, Hp.map Try.prog 3 natL mapV b1 (ξ.2.map Nd.key), Hp.rec_ b4 [.int .i64 x3.kind, .int .i64 ((x3.txn : Nat) : Int), .int .i64 ((x3.item : Nat) : Int)], R]) (fun ξ => (l.take k).length - ξ.1) (0, (G ++ [(⟨x3.txn, b13, []⟩ : Nd)])) ⟨by first | omega | (dsimp only; omega), hG1, hgl1, hex1, hgn1⟩ ((.cons rfl (.cons rfl (.cons rfl (.cons rfl (.cons rfl (.cons rfl (.cons rfl (.cons rfl (.cons rfl (.cons rfl .nil))))))))))) rfl ?_
      rintro ⟨j, G2⟩ ⟨hj, hG2, hGl2, hex, hGn2⟩
      dsimp only at hj hG2 hGl2 hex hGn2
      refine Gx.know (m' := [(0, hv), (3, .map (some b1)), (9, hv), (10, .int .i64 ((l.length : Nat) : Int)), (11, .int .i64 ((k : Nat) : Int)), (5, ptr b4 0), (4, .int .i64 ((k : Nat) : Int)), (27, sCut 3 0 k hv), (28, .int .i64 (((l.take k).length : Nat) : Int)), (29, .int .i64 ((j : Nat) : Int))]) (.cons rfl (.cons rfl (.cons rfl (.cons rfl (.cons rfl (.cons rfl (.cons rfl (.cons rfl (.cons rfl (.cons rfl .nil)))))))))) (Gx.norm (l' := [bigN G2, Hp.map Try.prog 3 natL mapV b1 (G2.map Nd.key), Hp.rec_ b4 [.int .i64 x3.kind, .int .i64 ((x3.txn : Nat) : Int), .int .i64 ((x3.item : Nat) : Int)], R]) rfl ?_)
      have htl : (l.take k).length = k := by rw [List.length_take]; omega
      refine Gx.seq ?_
      refine Gx.region ?_
      refine Gx.val rfl rfl rfl (val_lss rfl rfl rfl) ?_
      refine Gx.done ?_
      refine Gx.thenN ?_
      refine Gx.seq ?_
      refine Gx.dec rfl (fun h15 => ?_) (fun h15 => ?_)
      · refine Gx.skip ?_
        refine Gx.thenN ?_
        refine Gx.seq ?_
        refine Gx.block ?_
        refine Gx.seq ?_
        refine Gx.region ?_
        obtain ⟨x16, hx16⟩ := get_of_lt (xs := (l.take k)) (k := j) (by omega)
        refine Gx.val rfl rfl rfl (val_ixa rfl Try.underlying22 Try.ty30 rfl rfl (j := j) (rfl) (reach_base hcut14 hx16)) ?_
        refine Gx.val rfl rfl rfl (Val.cast (val_loadA rfl Try.ty30 rfl rfl rfl (cells_base hcut14 hx16)) (v' := .agg #[.int .i64 x16.kind, .int .i64 ((x16.txn : Nat) : Int), .int .i64 ((x16.item : Nat) : Int)]) rfl) ?_
        refine Gx.eff rfl rfl rfl (eff_alloc rfl Try.ty30 (vs := [.int .i64 0, .int .i64 0, .int .i64 0]) rfl) ?_
        rintro _ _ ⟨b17, rfl, rfl⟩
        refine Gx.eff0 rfl rfl (eff_store rfl Try.ty30 rfl rfl (us := [.int .i64 x16.kind, .int .i64 ((x16.txn : Nat) : Int), .int .i64 ((x16.item : Nat) : Int)]) rfl rfl rfl (k := 0) rfl (rfl) (vs' := [.int .i64 x16.kind, .int .i64 ((x16.txn : Nat) : Int), .int .i64 ((x16.item : Nat) : Int)]) (rfl) (l' := [Hp.rec_ b17 [.int .i64 x16.kind, .int .i64 ((x16.txn : Nat) : Int), .int .i64 ((x16.item : Nat) : Int)], bigN G2, Hp.map Try.prog 3 natL mapV b1 (G2.map Nd.key), Hp.rec_ b4 [.int .i64 x3.kind, .int .i64 ((x3.txn : Nat) : Int), .int .i64 ((x3.item : Nat) : Int)], R]) rfl) ?_
        rintro _ _ rfl
        refine Gx.done ?_
        refine Gx.thenN ?_
        refine Gx.seq ?_
        refine Gx.region ?_
        refine Gx.val rfl rfl rfl (Val.cast (val_loadA rfl Try.ty30 rfl rfl rfl (cells_rec (k := 0) rfl)) (v' := .agg #[.int .i64 x16.kind, .int .i64 ((x16.txn : Nat) : Int), .int .i64 ((x16.item : Nat) : Int)]) rfl) ?_
        refine Gx.val rfl rfl rfl (Val.cast (val_loadA rfl Try.ty30 rfl rfl rfl (cells_rec (k := 3) rfl)) (v' := .agg #[.int .i64 x3.kind, .int .i64 ((x3.txn : Nat) : Int), .int .i64 ((x3.item : Nat) : Int)]) rfl) ?_
        refine Gx.val rfl rfl rfl (val_call (vs := [.agg #[.int .i64 x16.kind, .int .i64 ((x16.txn : Nat) : Int), .int .i64 ((x16.item : Nat) : Int)], .agg #[.int .i64 x3.kind, .int .i64 ((x3.txn : Nat) : Int), .int .i64 ((x3.item : Nat) : Int)]]) rfl Try.fn20 rfl (fun w H => clash20 x16 x3 _ (by have := hok.all _ _ (tk hx16); omega) (by omega))) ?_
        refine Gx.done ?_
        refine Gx.thenN ?_
        refine Gx.bool rfl (fun h18 => ?_) (fun h18 => ?_)
        · obtain ⟨d2, hd2, hdt2⟩ := hex
          have hyb := hok.all _ _ (tk hx16)
          have hnl := hGn2 d2 (List.mem_of_getElem? hd2)
          refine Gx.focus (n := 1) (k := G.length) rfl hd2 (fun R19 hf20 hg21 => ?_)
          refine Gx.norm (l' := [Hp.rec_ b17 [.int .i64 x16.kind, .int .i64 ((x16.txn : Nat) : Int), .int .i64 ((x16.item : Nat) : Int)], Hp.map Try.prog 3 natL natI d2.b d2.need, Hp.map Try.prog 3 natL mapV b1 (G2.map Nd.key), Hp.rec_ b4 [.int .i64 x3.kind, .int .i64 ((x3.txn : Nat) : Int), .int .i64 ((x3.item : Nat) : Int)], R, R19]) rfl ?_
          refine Gx.region ?_
          refine Gx.val rfl rfl rfl (val_move rfl rfl) ?_
          refine Gx.val rfl rfl rfl (Val.cast (val_fieldAddr rfl Try.underlying30 rfl Try.ty3 rfl rfl) (v' := ptr b4 1) rfl) ?_
          refine Gx.val rfl rfl rfl (val_load rfl Try.ty3 rfl rfl (cell_rec (k := 3) rfl rfl)) ?_
          refine Gx.val rfl rfl rfl (val_lookup1 rfl Try.underlying40 Try.kN Try.ty42 rfl rfl (i := x3.txn) (by omega) (k := 2) rfl (r := .map (some d2.b)) (key_get hG2 hd2 hdt2)) ?_
          refine Gx.val rfl rfl rfl (Val.cast (val_fieldAddr rfl Try.underlying30 rfl Try.ty3 rfl rfl) (v' := ptr b17 1) rfl) ?_
          refine Gx.val rfl rfl rfl (val_load rfl Try.ty3 rfl rfl (cell_rec (k := 0) rfl rfl)) ?_
          refine Gx.eff0 rfl rfl (eff_mapUpdate (vf := natI) rfl Try.underlying42 Try.kN natK rfl rfl rfl (i := x16.txn) (r := 1) (by omega) (k := 1) rfl (show d2.need.length < maxLen from by unfold maxLen; omega) (l' := [Hp.rec_ b17 [.int .i64 x16.kind, .int .i64 ((x16.txn : Nat) : Int), .int .i64 ((x16.item : Nat) : Int)], Hp.map Try.prog 3 natL natI d2.b (putM d2.need x16.txn 1), Hp.map Try.prog 3 natL mapV b1 (G2.map Nd.key), Hp.rec_ b4 [.int .i64 x3.kind, .int .i64 ((x3.txn : Nat) : Int), .int .i64 ((x3.item : Nat) : Int)], R, R19]) rfl) ?_
          rintro _ _ rfl
          refine Gx.done ?_
          refine Gx.blkN ?_
          refine Gx.thenN ?_
          refine Gx.merge 1 4 rfl rfl (hg21 ⟨d2.t, d2.b, putM d2.need x16.txn 1⟩) (l' := [bigN (G2.set G.length ⟨d2.t, d2.b, putM d2.need x16.txn 1⟩), Hp.rec_ b17 [.int .i64 x16.kind, .int .i64 ((x16.txn : Nat) : Int), .int .i64 ((x16.item : Nat) : Int)], Hp.map Try.prog 3 natL mapV b1 (G2.map Nd.key), Hp.rec_ b4 [.int .i64 x3.kind, .int .i64 ((x3.txn : Nat) : Int), .int .i64 ((x3.item : Nat) : Int)], R]) rfl ?_
          refine Gx.norm (l' := [bigN (G2.set G.length ⟨d2.t, d2.b, putM d2.need x16.txn 1⟩), Hp.rec_ b17 [.int .i64 x16.kind, .int .i64 ((x16.txn : Nat) : Int), .int .i64 ((x16.item : Nat) : Int)], Hp.map Try.prog 3 natL mapV b1 ((G2.set G.length ⟨d2.t, d2.b, putM d2.need x16.txn 1⟩).map Nd.key), Hp.rec_ b4 [.int .i64 x3.kind, .int .i64 ((x3.txn : Nat) : Int), .int .i64 ((x3.item : Nat) : Int)], R]) (by rw [set_key hd2] <;> rfl) ?_
          refine Gx.region ?_
          refine Gx.val rfl rfl rfl (val_add rfl rfl rfl (r := ((j + 1 : Nat) : Int)) (w64 (by omega) (by omega))) ?_
          refine Gx.val rfl rfl rfl (val_move rfl rfl) ?_
          refine Gx.done ?_
          refine Gx.thenN ?_
          refine Gx.drop 1 rfl ?_
          exact Gx.round (j + 1, (G2.set G.length ⟨d2.t, d2.b, putM d2.need x16.txn 1⟩)) ⟨by first | omega | (dsimp only; omega), (hG2.put hd2 x16.txn 1).congr (fun t => Iff.rfl) (fun a b _ => by rw [hdt2]; exact edgeJ_yes (tk hx16) (by assumption)), by rw [List.length_set]; exact hGl2, ⟨⟨d2.t, d2.b, putM d2.need x16.txn 1⟩, by rw [List.getElem?_set_self (List.getElem?_eq_some_iff.1 hd2).1], hdt2⟩, fun d hd => by
              have h0 := putM_length d2.need x16.txn 1
              have h1 := hGn2 d2 (List.mem_of_getElem? hd2)
              rcases List.mem_or_eq_of_mem_set hd with h | rfl
              · have := hGn2 d h; omega
              · dsimp only; rw [h0]; split <;> omega⟩ (by first | omega | (dsimp only; omega)) ((.cons rfl (.cons rfl (.cons rfl (.cons rfl (.cons rfl (.cons rfl (.cons rfl (.cons rfl (.cons rfl (.cons rfl .nil))))))))))) rfl
        · refine Gx.skip ?_
          refine Gx.blkN ?_
          refine Gx.thenN ?_
          refine Gx.region ?_
          refine Gx.val rfl rfl rfl (val_add rfl rfl rfl (r := ((j + 1 : Nat) : Int)) (w64 (by omega) (by omega))) ?_
          refine Gx.val rfl rfl rfl (val_move rfl rfl) ?_
          refine Gx.done ?_
          refine Gx.thenN ?_
          refine Gx.drop 0 rfl ?_
          exact Gx.round (j + 1, G2) ⟨by first | omega | (dsimp only; omega), hG2.congr (fun t => Iff.rfl) (fun a b _ => edgeJ_no (tk hx16) (by simp_all)), hGl2, hex, fun d hd => by have := hGn2 d hd; omega⟩ (by first | omega | (dsimp only; omega)) ((.cons rfl (.cons rfl (.cons rfl (.cons rfl (.cons rfl (.cons rfl (.cons rfl (.cons rfl (.cons rfl (.cons rfl .nil))))))))))) rfl
      · refine Gx.exit ?_
        refine Gx.thenE ?_
        refine Gx.thenE ?_
        refine Gx.blkE ?_
        refine Gx.blkN ?_
        refine Gx.thenN ?_
        refine Gx.region ?_
        refine Gx.val rfl rfl rfl (val_add rfl rfl rfl (r := ((k + 1 : Nat) : Int)) (w64 (by omega) (by omega))) ?_
        refine Gx.val rfl rfl rfl (val_move rfl rfl) ?_
        refine Gx.done ?_
        refine Gx.thenN ?_
        refine Gx.drop 2 rfl ?_
        exact Gx.round (k + 1, G2) ⟨by first | omega | (dsimp only; omega), hG2.congr (fun t => Iff.rfl) (fun a b _ => by rw [show j = k by omega]; exact edgeJ_end hxk a b), by omega, fun d hd => by have := hGn2 d hd; omega⟩ (by first | omega | (dsimp only; omega)) ((.cons rfl (.cons rfl (.cons rfl (.cons rfl (.cons rfl .nil)))))) rfl
  · refine Gx.exit ?_
    refine Gx.thenE ?_
    refine Gx.thenE ?_
    refine Gx.blkE ?_
    refine Gx.thenN ?_
    refine Gx.seq ?_
    refine Gx.region ?_
    refine Gx.val rfl rfl rfl (val_move rfl rfl) ?_
    refine Gx.val rfl rfl rfl (val_assign rfl rfl) ?_
    refine Gx.done ?_
    refine Gx.thenN ?_
    refine Gx.ret ?_
    refine Gx.front 2 rfl ?_
    refine Gx.front 1 rfl ?_
    refine Gx.front 2 rfl ?_
    obtain rfl : k = l.length := by omega
    refine Gx.ret1 Try.results17 rfl ?_
    exact ⟨_, G, rfl, hG.congr (fun t => ⟨fun ⟨i, x, _, h⟩ => ⟨i, x, h⟩, fun ⟨i, x, h⟩ => ⟨i, x, (List.getElem?_eq_some_iff.1 h.1).1, h⟩⟩) (fun a b _ => ⟨fun ⟨j, i, x, y, h1, _, h⟩ => ⟨j, i, x, y, h1, h⟩, fun ⟨j, i, x, y, h1, h⟩ => ⟨j, i, x, y, h1, (List.getElem?_eq_some_iff.1 h.2.1).1, h⟩⟩), hGl, sep2 _ _ _⟩

end Go.Proofs.Ytcepfpbhfobbeaa
