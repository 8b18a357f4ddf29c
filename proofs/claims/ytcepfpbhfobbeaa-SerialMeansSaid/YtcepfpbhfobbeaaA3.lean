/- An order, or that there is none. The walk. No condition. -/
import Derived.Test.YtcepfpbhfobbeaaA2
namespace Go.Proofs.Ytcepfpbhfobbeaa
open Go.RowKit
set_option linter.unusedVariables false
set_option linter.unusedSimpArgs false
set_option maxRecDepth 100000

theorem big_erase {α : Type} (p : α → Hp) : ∀ (l : List α) (i : Nat) (x : α), l[i]? = some x → Hp.big p l = p x * Hp.big p (l.eraseIdx i)
  | [], _, _, h => by simp at h
  | z :: l, 0, x, h => by simp at h; subst h; rfl
  | z :: l, i + 1, x, h => by
    rw [Hp.big, big_erase p l i x (by simpa using h), List.eraseIdx_cons_succ, Hp.big, Hp.mul_left_comm]
theorem erase_map {α β : Type} (f : α → β) : ∀ (l : List α) (k : Nat), (l.map f).eraseIdx k = (l.eraseIdx k).map f
  | [], _ => rfl
  | x :: l, 0 => rfl
  | x :: l, k + 1 => by simp [List.eraseIdx, erase_map f l k]
theorem nodup_lt : ∀ (n : Nat) (l : List Nat), l.Nodup → (∀ i ∈ l, i < n) → l.length ≤ n
  | 0, l, _, hl => by
    cases l with
    | nil => simp
    | cons a l => have := hl a (by simp); omega
  | n + 1, l, hn, hl => by
    have h1 := nodup_lt n (l.erase n) (hn.erase n) (fun i hi => by
      have h2 := hl i (List.mem_of_mem_erase hi)
      have h3 : i ≠ n := fun e => by subst e; exact absurd hi (hn.not_mem_erase)
      omega)
    have h2 : l.length ≤ (l.erase n).length + 1 := by
      by_cases hm : n ∈ l
      · rw [List.length_erase_of_mem hm]; omega
      · rw [List.erase_of_not_mem hm]; omega
    omega
structure Topo (K : Nat → Prop) (E : Nat → Nat → Prop) (zs : List Nat) : Prop where
  nd : zs.Nodup
  key : ∀ t, K t ↔ t ∈ zs
  ed : ∀ (q t : Nat), zs[q]? = some t → ∀ a, E a t → a ∈ zs.take q
def Stuck (K : Nat → Prop) (E : Nat → Nat → Prop) : Prop := ∃ S : List Nat, (∃ t, K t ∧ ¬ t ∈ S) ∧ ∀ t, K t → ¬ t ∈ S → ∃ a, E a t ∧ ¬ a ∈ S
def SerR (l : List An) (b : Bool) (zs : List Nat) : Prop := (b = true → Topo (Key l) (Edge l) zs) ∧ (b = false → zs = [] ∧ Stuck (Key l) (Edge l))
structure Run (l : List An) (G : List Nd) (o : List Nat) : Prop where
  g : GOk G (fun t => Key l t ∧ ¬ t ∈ o) (fun a b => Edge l a b ∧ ¬ a ∈ o)
  key : ∀ t ∈ o, Key l t
  nd : o.Nodup
  ed : ∀ (q t : Nat), o[q]? = some t → ∀ a, Edge l a t → a ∈ o.take q
section
variable {l : List An} {G : List Nd} {o : List Nat}
theorem Run.start (h : GOk G (Key l) (Edge l)) : Run l G [] := ⟨h.congr (fun t => by simp) (fun a b _ => by simp), fun t ht => (by cases ht), List.nodup_nil, fun q t h => (by simp at h)⟩
theorem Run.topo (R : Run l [] o) : Topo (Key l) (Edge l) o := ⟨R.nd, fun t => ⟨fun hk => Classical.byContradiction fun hn => (by obtain ⟨d, hd, _⟩ := (R.g.key t).2 ⟨hk, hn⟩; cases hd), R.key t⟩, R.ed⟩
theorem Run.stuck (R : Run l G o) (hn : 0 < G.length) (h : ∀ (q : Nat) (d : Nd), G[q]? = some d → d.need ≠ []) : Stuck (Key l) (Edge l) := by
  refine ⟨o, ?_, fun t hk ht => ?_⟩
  · obtain ⟨d, hd⟩ := get_of_lt hn
    exact ⟨d.t, (R.g.key d.t).1 ⟨d, List.mem_of_getElem? hd, rfl⟩⟩
  · obtain ⟨d, hd, rfl⟩ := (R.g.key t).2 ⟨hk, ht⟩
    obtain ⟨q, hq⟩ := List.getElem?_of_mem hd
    have := h q d hq
    obtain ⟨p, hp⟩ := List.exists_mem_of_ne_nil _ this
    exact ⟨p.1, (R.g.ed d hd p.1).1 (List.mem_map.2 ⟨p, hp, rfl⟩)⟩
theorem Run.lt (R : Run l G o) (hok : OkN l) : ∀ p ∈ G.map Nd.key, p.1 < 6 := fun p hp => by
  obtain ⟨d, hd, rfl⟩ := List.mem_map.1 hp
  obtain ⟨⟨i, x, hx, e⟩, _⟩ := (R.g.key d.t).1 ⟨d, hd, rfl⟩
  have := hok.all i x hx
  simp only [Nd.key]; omega
theorem erase_get {α : Type} {l : List α} {q i : Nat} {x : α} (h : (l.eraseIdx q)[i]? = some x) : ∃ j, j ≠ q ∧ l[j]? = some x := by
  rw [List.getElem?_eraseIdx] at h
  split at h
  · exact ⟨i, by omega, h⟩
  · exact ⟨i + 1, by omega, h⟩
theorem get_erase {α : Type} {l : List α} {q j : Nat} {x : α} (hj : j ≠ q) (h : l[j]? = some x) : ∃ i : Nat, (l.eraseIdx q)[i]? = some x := by
  rcases Nat.lt_or_gt_of_ne hj with hl | hl
  · exact ⟨j, by rw [List.getElem?_eraseIdx, if_pos hl]; exact h⟩
  · exact ⟨j - 1, by rw [List.getElem?_eraseIdx, if_neg (by omega), show j - 1 + 1 = j by omega]; exact h⟩
/-- one is told, and goes from all needs -/
theorem Run.step (R : Run l G o) {q : Nat} {d : Nd} (hd : G[q]? = some d) (h0 : d.need = []) {G2 : List Nd} (hk : G2.map Nd.key = (G.eraseIdx q).map Nd.key)
    (hE : ∀ (i : Nat) (d1 d2 : Nd), (G.eraseIdx q)[i]? = some d1 → G2[i]? = some d2 → ∀ a, a ∈ d2.need.map (·.1) ↔ a ∈ d1.need.map (·.1) ∧ a ≠ d.t) : Run l G2 (o ++ [d.t]) := by
  have hgd := (R.g.key d.t).1 ⟨d, List.mem_of_getElem? hd, rfl⟩
  have hnd1 : ((G.eraseIdx q).map Nd.key).Pairwise (fun p q => p.1 ≠ q.1) := List.Pairwise.sublist (List.Sublist.map _ (List.eraseIdx_sublist _ _)) (key_nd R.g)
  have hget : ∀ (i : Nat) (d2 : Nd), G2[i]? = some d2 → ∃ d1, (G.eraseIdx q)[i]? = some d1 ∧ d1.t = d2.t := fun i d2 hi => by
    have := congrArg (·[i]?) hk
    simp only [List.getElem?_map, hi] at this
    cases e : (G.eraseIdx q)[i]? with
    | none => rw [e] at this; cases this
    | some d1 => rw [e] at this; simp [Nd.key] at this; exact ⟨d1, rfl, this.1.symm⟩
  have hget' : ∀ (i : Nat) (d1 : Nd), (G.eraseIdx q)[i]? = some d1 → ∃ d2, G2[i]? = some d2 ∧ d2.t = d1.t := fun i d1 hi => by
    have := congrArg (·[i]?) hk
    simp only [List.getElem?_map, hi] at this
    cases e : G2[i]? with
    | none => rw [e] at this; cases this
    | some d2 => rw [e] at this; simp [Nd.key] at this; exact ⟨d2, rfl, this.1⟩
  refine ⟨⟨(List.pairwise_map (f := Nd.key)).1 (show (G2.map Nd.key).Pairwise (fun p q => p.1 ≠ q.1) by rw [hk]; exact hnd1), fun t => ?_, fun d2 h2 a => ?_⟩, fun t ht => ?_, ?_, fun p t hp a ha => ?_⟩
  · constructor
    · rintro ⟨d2, h2, rfl⟩
      obtain ⟨i, hi⟩ := List.getElem?_of_mem h2
      obtain ⟨d1, hd1, e⟩ := hget i d2 hi
      obtain ⟨j, hj, hG⟩ := erase_get hd1
      have h3 := (R.g.key d2.t).1 ⟨d1, List.mem_of_getElem? hG, e⟩
      have h4 := R.g.ne hG hd hj
      refine ⟨h3.1, ?_⟩
      rw [List.mem_append, not_or]
      exact ⟨h3.2, by simp; exact fun e2 => h4 (e.trans e2)⟩
    · rintro ⟨h1, h2⟩
      rw [List.mem_append, not_or] at h2
      obtain ⟨d1, hd1, e⟩ := (R.g.key t).2 ⟨h1, h2.1⟩
      obtain ⟨j, hj⟩ := List.getElem?_of_mem hd1
      have hjq : j ≠ q := fun e2 => by subst e2; rw [hd] at hj; cases hj; exact h2.2 (by simp [e])
      obtain ⟨i, hi⟩ := get_erase hjq hj
      obtain ⟨d2, hd2, e2⟩ := hget' i d1 hi
      exact ⟨d2, List.mem_of_getElem? hd2, e2.trans e⟩
  · obtain ⟨i, hi⟩ := List.getElem?_of_mem h2
    obtain ⟨d1, hd1, e⟩ := hget i d2 hi
    obtain ⟨j, hj, hG⟩ := erase_get hd1
    rw [hE i d1 d2 hd1 hi a, R.g.ed d1 (List.mem_of_getElem? hG), e, List.mem_append, not_or]
    simp only [List.mem_singleton]
    exact and_assoc
  · rcases List.mem_append.1 ht with h1 | h1
    · exact R.key t h1
    · simp at h1; subst h1; exact hgd.1
  · exact List.nodup_append.2 ⟨R.nd, by simp, fun a ha b hb => by simp at hb; subst hb; exact fun e => hgd.2 (e ▸ ha)⟩
  · rcases Nat.lt_or_ge p o.length with hl | hl
    · rw [List.getElem?_append_left hl] at hp
      rw [List.take_append_of_le_length (by omega)]
      exact R.ed p t hp a ha
    · rw [List.getElem?_append_right hl] at hp
      have : p - o.length = 0 := by have := (List.getElem?_eq_some_iff.1 hp).1; simp at this; omega
      rw [this] at hp; simp at hp; subst hp
      obtain rfl : p = o.length := by omega
      rw [List.take_left' rfl]
      refine Classical.byContradiction fun hn => ?_
      have := (R.g.ed d (List.mem_of_getElem? hd) a).2 ⟨ha, hn⟩
      rw [h0] at this; simp at this
end
def SerV (l : List An) (v : Value) (w : World) : Prop := ∃ a n c b zs, v = .tuple #[.slice a n c, .bool b, .int .i64 0] ∧ SlS FN 1 w (.slice a n c) zs ∧ SerR l b zs
theorem serial_ok {W : World} {hv : Value} {l : List An} (hok : OkN l) (hs : SlS FA 3 W hv l) :
    Calls Try.prog 8 #[hv] W fun e w' => ∃ v, e = .returned v ∧ SerV l v w' ∧ Below W.heap.size W w' := by
  refine calls_some (S := fun v l9 => ∃ ov b zs, v = .tuple #[ov, .bool b, .int .i64 0] ∧ l9 = [Hp.own FN 1 ov zs] ∧ IsS ov ∧ SerR l b zs) (Gx.enter (l := []) Try.func8 rfl Try.ntmps8 rfl (Sat.start W) ?_) ?_
  refine Gx.know (m' := [(0, hv)]) (.cons rfl .nil) ?_
  refine Gx.seq ?_
  refine Gx.region ?_
  refine Gx.val rfl rfl rfl (val_assign rfl rfl) ?_
  refine Gx.val rfl rfl rfl (val_assign rfl rfl) ?_
  refine Gx.val rfl rfl rfl (val_assign rfl rfl) ?_
  refine Gx.done ?_
  refine Gx.thenN ?_
  refine Gx.seq ?_
  refine Gx.seq ?_
  refine Gx.region ?_
  refine Gx.val rfl rfl rfl (val_move rfl rfl) ?_
  refine Gx.val rfl rfl rfl (val_call (vs := [hv]) rfl Try.fn16 rfl (fun w H => check_ok (hs.below H.below) hok)) ?_
  refine Gx.val rfl rfl rfl (val_assign rfl rfl) ?_
  refine Gx.done ?_
  refine Gx.thenN ?_
  refine Gx.seq ?_
  refine Gx.region ?_
  refine Gx.val rfl rfl rfl (val_move rfl rfl) ?_
  refine Gx.val rfl rfl rfl (Val.cast (val_neq rfl rfl rfl) (v' := .bool false) rfl) ?_
  refine Gx.done ?_
  refine Gx.thenN ?_
  refine Gx.f rfl ?_
  refine Gx.skip ?_
  refine Gx.thenN ?_
  refine Gx.seq ?_
  refine Gx.region ?_
  refine Gx.val rfl rfl rfl (val_move rfl rfl) ?_
  refine Gx.eff rfl rfl rfl (eff_call (vs := [hv]) rfl Try.fn17 rfl (fun w H => edges_any hok hs H)) ?_
  rintro _ l1 ⟨mb, G0, rfl, hG0, hGl0, hl1⟩
  refine Gx.sepEq (l' := [Hp.map Try.prog 3 natL mapV mb (G0.map Nd.key), bigN G0]) hl1 ?_
  refine Gx.val rfl rfl rfl (val_assign rfl rfl) ?_
  refine Gx.done ?_
  refine Gx.thenN ?_
  refine Gx.seq ?_
  refine Gx.ownNil FN 1 ?_
  refine Gx.region ?_
  refine Gx.val rfl rfl rfl (val_assign rfl rfl) ?_
  refine Gx.done ?_
  refine Gx.thenN ?_
  refine Gx.seq ?_
  refine Gx.block ?_
  refine Gx.front 0 rfl ?_
  refine Gx.front 2 rfl ?_
  refine Gx.front 2 rfl ?_
  refine Gx.loop (ι := (List Nd) × (List Nat) × Value) (fun ξ => (Run l ξ.1 ξ.2.1) ∧ (ξ.2.1.length + ξ.1.length ≤ 60) ∧ (IsS ξ.2.2)) (fun ξ => [(6, .map (some mb)), (7, ξ.2.2)]) (fun ξ => [Hp.map Try.prog 3 natL mapV mb (ξ.1.map Nd.key), bigN ξ.1, Hp.own FN 1 ξ.2.2 ξ.2.1]) (fun ξ => ξ.1.length) (G0, [], (.slice none 0 0)) ⟨Run.start hG0, by have := hok.len; simp; omega, ⟨none, 0, 0, rfl⟩⟩ ((.cons rfl (.cons rfl .nil))) rfl ?_
  rintro ⟨G, o, ov⟩ ⟨hR, hln, hio⟩
  dsimp only at hR hln hio
  refine Gx.know (m' := [(6, .map (some mb)), (7, ov)]) (.cons rfl (.cons rfl .nil)) (Gx.norm (l' := [Hp.map Try.prog 3 natL mapV mb (G.map Nd.key), bigN G, Hp.own FN 1 ov o]) rfl ?_)
  have hkb := hR.lt hok
  refine Gx.seq ?_
  refine Gx.seq ?_
  refine Gx.region ?_
  refine Gx.val rfl rfl rfl (val_move rfl rfl) ?_
  refine Gx.val rfl rfl rfl (val_lenM rfl Try.underlying40 rfl (k := 0) rfl) ?_
  refine Gx.val rfl rfl rfl (val_gtr rfl rfl rfl) ?_
  refine Gx.done ?_
  refine Gx.thenN ?_
  refine Gx.dec rfl (fun h2 => ?_) (fun h2 => ?_)
  · refine Gx.skip ?_
    refine Gx.thenN ?_
    refine Gx.block ?_
    refine Gx.seq ?_
    refine Gx.region ?_
    refine Gx.val rfl rfl rfl (val_assign rfl rfl) ?_
    refine Gx.done ?_
    refine Gx.thenN ?_
    refine Gx.seq ?_
    refine Gx.seq ?_
    refine Gx.region ?_
    refine Gx.val rfl rfl rfl (val_move rfl rfl) ?_
    refine Gx.eff rfl rfl rfl (eff_range rfl Try.underlying40 rfl (k := 0) rfl) ?_
    rintro _ _ ⟨r3, rfl, rfl⟩
    refine Gx.norm (l' := [Hp.iter Try.prog 3 natL mapV mb r3 (G.map Nd.key) (G.map Nd.key), bigN G, Hp.own FN 1 ov o]) rfl ?_
    refine Gx.done ?_
    refine Gx.thenN ?_
    refine Gx.block ?_
    refine Gx.loop (ι := (List (Nat × Nat)) × Int) (fun ξ => (∀ p ∈ ξ.1, p ∈ G.map Nd.key) ∧ (ξ.2 = -1 ∨ ∃ (q : Nat) (d : Nd), G[q]? = some d ∧ ((d.t : Nat) : Int) = ξ.2 ∧ d.need = []) ∧ (ξ.2 = -1 → ∀ (q : Nat) (d : Nd), G[q]? = some d → d.key ∈ ξ.1 ∨ d.need ≠ [])) (fun ξ => [(6, .map (some mb)), (7, ov), (8, .int .i64 ξ.2), (24, ptr r3 0)]) (fun ξ => [Hp.iter Try.prog 3 natL mapV mb r3 (G.map Nd.key) ξ.1, bigN G, Hp.own FN 1 ov o]) (fun ξ => ξ.1.length) ((G.map Nd.key), (-1)) ⟨fun p hp => hp, .inl rfl, fun _ q d hd => .inl (List.mem_map.2 ⟨d, List.mem_of_getElem? hd, rfl⟩)⟩ ((.cons rfl (.cons rfl (.cons rfl (.cons rfl .nil))))) rfl ?_
    rintro ⟨left, nx⟩ ⟨hle, hn1, hn2⟩
    dsimp only at hle hn1 hn2
    refine Gx.know (m' := [(6, .map (some mb)), (7, ov), (8, .int .i64 nx), (24, ptr r3 0)]) (.cons rfl (.cons rfl (.cons rfl (.cons rfl .nil)))) (Gx.norm (l' := [Hp.iter Try.prog 3 natL mapV mb r3 (G.map Nd.key) left, bigN G, Hp.own FN 1 ov o]) rfl ?_)
    refine Gx.seq ?_
    refine Gx.region ?_
    refine Gx.eff rfl rfl rfl (eff_next (kf := natV) rfl Try.kN ((fun p hp => by have := hkb p (hle p hp); omega)) rfl (k := 0) rfl) ?_
    rintro _ _ (⟨hl4, rfl, rfl⟩ | ⟨ka5, xv6, rs7, hp8, rfl, rfl⟩)
    · refine Gx.norm (l' := [Hp.map Try.prog 3 natL mapV mb (G.map Nd.key), bigN G, Hp.own FN 1 ov o]) rfl ?_
      refine Gx.val rfl rfl rfl (val_extract rfl rfl rfl) ?_
      refine Gx.done ?_
      refine Gx.thenN ?_
      refine Gx.seq ?_
      refine Gx.f rfl ?_
      refine Gx.exit ?_
      refine Gx.thenE ?_
      refine Gx.thenE ?_
      refine Gx.blkE ?_
      refine Gx.thenN ?_
      refine Gx.seq ?_
      refine Gx.seq ?_
      have hl0 := hl4
      refine Gx.region ?_
      refine Gx.val rfl rfl rfl (val_move rfl rfl) ?_
      refine Gx.val rfl rfl rfl (val_lss rfl rfl rfl) ?_
      refine Gx.done ?_
      refine Gx.thenN ?_
      refine Gx.dec rfl (fun h9 => ?_) (fun h9 => ?_)
      · refine Gx.seq ?_
        refine Gx.region ?_
        refine Gx.val rfl rfl rfl (val_assign rfl rfl) ?_
        refine Gx.val rfl rfl rfl (val_assign rfl rfl) ?_
        refine Gx.val rfl rfl rfl (val_assign rfl rfl) ?_
        refine Gx.done ?_
        refine Gx.thenN ?_
        refine Gx.ret ?_
        refine Gx.thenR ?_
        refine Gx.blkR ?_
        refine Gx.thenR ?_
        refine Gx.blkR ?_
        refine Gx.thenR ?_
        refine Gx.noParts ?_
        refine Gx.ownNil FN 1 ?_
        refine Gx.ret3 Try.results8 rfl rfl rfl ?_
        exact ⟨_, false, [], rfl, rfl, ⟨none, 0, 0, rfl⟩, fun e => (by cases e), fun _ => ⟨rfl, hR.stuck (by rw [List.length_map] at *; omega) (fun q d hd => (hn2 (by rcases hn1 with h | ⟨_, _, _, h, _⟩ <;> omega) q d hd).resolve_left (by rw [hl0]; simp))⟩⟩
      · refine Gx.skip ?_
        refine Gx.thenN ?_
        refine Gx.seq ?_
        obtain ⟨q, d, hd, hdx, hdn⟩ := hn1.resolve_left (by omega)
        subst hdx
        have hdl := (List.getElem?_eq_some_iff.1 hd).1
        have hd6 := hkb d.key (List.mem_map.2 ⟨d, List.mem_of_getElem? hd, rfl⟩)
        simp only [Nd.key] at hd6
        refine Gx.region ?_
        refine Gx.val rfl rfl rfl (val_move rfl rfl) ?_
        refine Gx.val rfl rfl rfl (val_move rfl rfl) ?_
        refine Gx.eff rfl rfl rfl (eff_buildSlice rfl (qs := [(0, .int .i64 ((d.t : Nat) : Int))]) rfl rfl (cs := #[.int .i64 ((d.t : Nat) : Int)]) (vs := [.int .i64 ((d.t : Nat) : Int)]) (E := 3) rfl (fun w => by first | (go_simp; done) | (go_simp; rfl))) ?_
        rintro _ _ ⟨b10, rfl, rfl⟩
        refine Gx.eff rfl rfl rfl (eff_push (r := d.t) rfl Try.eN FN_len FN_one rfl rfl (k := 0) rfl rfl (k' := 2) rfl (by omega) (by omega)) ?_
        rintro v11 _ ⟨hiv11, rfl⟩
        refine Gx.norm (l' := [Hp.map Try.prog 3 natL mapV mb (G.map Nd.key), bigN G, Hp.own FN 1 v11 (o ++ [d.t])]) rfl ?_
        refine Gx.val rfl rfl rfl (val_assign rfl rfl) ?_
        refine Gx.done ?_
        refine Gx.thenN ?_
        refine Gx.seq ?_
        refine Gx.region ?_
        refine Gx.val rfl rfl rfl (val_move rfl rfl) ?_
        refine Gx.val rfl rfl rfl (val_move rfl rfl) ?_
        refine Gx.eff0 rfl rfl (eff_delete rfl Try.underlying40 Try.kN natK rfl rfl (i := d.t) (by omega) (k := 0) rfl (l' := [Hp.map Try.prog 3 natL mapV mb (delM (G.map Nd.key) d.t), bigN G, Hp.own FN 1 v11 (o ++ [d.t])]) rfl) ?_
        rintro _ _ rfl
        refine Gx.done ?_
        refine Gx.thenN ?_
        refine Gx.seq ?_
        refine Gx.cleave 1 rfl (big_erase mapN G q d hd) (l' := [Hp.map Try.prog 3 natL natI d.b d.need, bigN (G.eraseIdx q), Hp.map Try.prog 3 natL mapV mb (delM (G.map Nd.key) d.t), Hp.own FN 1 v11 (o ++ [d.t])]) rfl ?_
        refine Gx.drop 0 rfl ?_
        have hdel : delM (G.map Nd.key) d.t = (G.eraseIdx q).map Nd.key := by rw [delM_at (key_nd hR.g) (show (G.map Nd.key)[q]? = some (d.t, d.b) by rw [List.getElem?_map, hd]; rfl), erase_map]
        refine Gx.norm (l' := [bigN (G.eraseIdx q), Hp.map Try.prog 3 natL mapV mb ((G.eraseIdx q).map Nd.key), Hp.own FN 1 v11 (o ++ [d.t])]) (by rw [hdel] <;> rfl) ?_
        obtain ⟨G1, hG1⟩ : ∃ G1, G1 = G.eraseIdx q := ⟨_, rfl⟩
        have hG1l : G1.length + 1 = G.length := by rw [hG1, List.length_eraseIdx_of_lt hdl]; omega
        have hnd1 : (G1.map Nd.key).Pairwise (fun p q => p.1 ≠ q.1) := by rw [hG1]; exact List.Pairwise.sublist (List.Sublist.map _ (List.eraseIdx_sublist _ _)) (key_nd hR.g)
        have hkb1 : ∀ p ∈ G1.map Nd.key, p.1 < 6 := fun p hp => hkb p (by rw [hG1] at hp; exact (List.Sublist.map _ (List.eraseIdx_sublist _ _)).mem hp)
        refine Gx.norm (l' := [bigN G1, Hp.map Try.prog 3 natL mapV mb (G1.map Nd.key), Hp.own FN 1 v11 (o ++ [d.t])]) (by rw [hG1] <;> rfl) ?_
        refine Gx.region ?_
        refine Gx.val rfl rfl rfl (val_move rfl rfl) ?_
        refine Gx.eff rfl rfl rfl (eff_range rfl Try.underlying40 rfl (k := 1) rfl) ?_
        rintro _ _ ⟨r12, rfl, rfl⟩
        refine Gx.norm (l' := [bigN G1, Hp.iter Try.prog 3 natL mapV mb r12 (G1.map Nd.key) (G1.map Nd.key), Hp.own FN 1 v11 (o ++ [d.t])]) rfl ?_
        refine Gx.done ?_
        refine Gx.thenN ?_
        refine Gx.block ?_
        refine Gx.front 2 rfl ?_
        refine Gx.front 1 rfl ?_
        refine Gx.front 2 rfl ?_
        refine Gx.loop (ι := (List (Nat × Nat)) × (List Nd)) (fun ξ => (∀ p ∈ ξ.1, p ∈ G1.map Nd.key) ∧ (ξ.1.Nodup) ∧ (ξ.2.map Nd.key = G1.map Nd.key) ∧ (∀ (i : Nat) (d1 d2 : Nd), G1[i]? = some d1 → ξ.2[i]? = some d2 → ∀ a, a ∈ d2.need.map (·.1) ↔ a ∈ d1.need.map (·.1) ∧ (a ≠ d.t ∨ d1.key ∈ ξ.1))) (fun ξ => [(6, .map (some mb)), (7, v11), (8, .int .i64 ((d.t : Nat) : Int)), (52, ptr r12 0)]) (fun ξ => [Hp.iter Try.prog 3 natL mapV mb r12 (G1.map Nd.key) ξ.1, bigN ξ.2, Hp.own FN 1 v11 (o ++ [d.t])]) (fun ξ => ξ.1.length) ((G1.map Nd.key), G1) ⟨fun p hp => hp, hnd1.imp fun h e => h (congrArg Prod.fst e), rfl, fun i d1 d2 h1 h2 a => by cases h1.symm.trans h2; exact ⟨fun h => ⟨h, .inr (List.mem_map.2 ⟨d1, List.mem_of_getElem? h1, rfl⟩)⟩, fun h => h.1⟩⟩ ((.cons rfl (.cons rfl (.cons rfl (.cons rfl .nil))))) rfl ?_
        rintro ⟨left2, G2⟩ ⟨hle2, hln2, hk2, hE⟩
        dsimp only at hle2 hln2 hk2 hE
        refine Gx.know (m' := [(6, .map (some mb)), (7, v11), (8, .int .i64 ((d.t : Nat) : Int)), (52, ptr r12 0)]) (.cons rfl (.cons rfl (.cons rfl (.cons rfl .nil)))) (Gx.norm (l' := [Hp.iter Try.prog 3 natL mapV mb r12 (G1.map Nd.key) left2, bigN G2, Hp.own FN 1 v11 (o ++ [d.t])]) rfl ?_)
        refine Gx.seq ?_
        refine Gx.region ?_
        refine Gx.eff rfl rfl rfl (eff_next (kf := natV) rfl Try.kN ((fun p hp => by have := hkb1 p (hle2 p hp); omega)) rfl (k := 0) rfl) ?_
        rintro _ _ (⟨hl13, rfl, rfl⟩ | ⟨ka14, xv15, rs16, hp17, rfl, rfl⟩)
        · refine Gx.norm (l' := [Hp.map Try.prog 3 natL mapV mb (G1.map Nd.key), bigN G2, Hp.own FN 1 v11 (o ++ [d.t])]) rfl ?_
          refine Gx.val rfl rfl rfl (val_extract rfl rfl rfl) ?_
          refine Gx.done ?_
          refine Gx.thenN ?_
          refine Gx.seq ?_
          refine Gx.f rfl ?_
          refine Gx.exit ?_
          refine Gx.thenE ?_
          refine Gx.thenE ?_
          refine Gx.blkE ?_
          refine Gx.blkN ?_
          refine Gx.thenN ?_
          have hl2 := hl13
          have hG2l : G2.length = G1.length := by have := congrArg List.length hk2; simpa using this
          rw [hG1] at hk2 hE
          refine Gx.norm (l' := [Hp.map Try.prog 3 natL mapV mb (G2.map Nd.key), bigN G2, Hp.own FN 1 v11 (o ++ [d.t])]) (by rw [hk2, hG1] <;> rfl) ?_
          exact Gx.round (G2, (o ++ [d.t]), v11) ⟨hR.step hd hdn hk2 (fun i d1 d2 h1 h2 a => by rw [hE i d1 d2 h1 h2 a, hl2]; simp), by rw [hG2l]; simp; omega, hiv11⟩ (by dsimp only; omega) ((.cons rfl (.cons rfl .nil))) rfl
        · refine Gx.norm (l' := [Hp.iterE Try.prog 3 natL mapV natV mb r12 (G1.map Nd.key) rs16 ka14 xv15, bigN G2, Hp.own FN 1 v11 (o ++ [d.t])]) rfl ?_
          refine Gx.val rfl rfl rfl (val_extract rfl rfl rfl) ?_
          refine Gx.done ?_
          refine Gx.thenN ?_
          refine Gx.seq ?_
          refine Gx.t rfl ?_
          refine Gx.skip ?_
          refine Gx.thenN ?_
          refine Gx.block ?_
          refine Gx.seq ?_
          refine Gx.region ?_
          refine Gx.eff rfl rfl rfl (eff_entry rfl rfl (k := 0) rfl) ?_
          rintro _ _ ⟨rfl, rfl⟩
          refine Gx.norm (l' := [Hp.iter Try.prog 3 natL mapV mb r12 (G1.map Nd.key) rs16, bigN G2, Hp.own FN 1 v11 (o ++ [d.t])]) rfl ?_
          refine Gx.val rfl rfl rfl (val_extract rfl rfl rfl) ?_
          refine Gx.val rfl rfl rfl (val_assign rfl rfl) ?_
          refine Gx.done ?_
          refine Gx.thenN ?_
          obtain ⟨d2, hdm2, hdk2⟩ := List.mem_map.1 (show (ka14, xv15) ∈ G2.map Nd.key by rw [hk2]; exact hle2 (ka14, xv15) (hp17.mem_iff.2 List.mem_cons_self))
          obtain ⟨q2, hd2⟩ := List.getElem?_of_mem hdm2
          obtain ⟨rfl, rfl⟩ : d2.t = ka14 ∧ d2.b = xv15 := ⟨congrArg Prod.fst hdk2, congrArg Prod.snd hdk2⟩
          refine Gx.focus (n := 1) (k := q2) rfl hd2 (fun R18 hf19 hg20 => ?_)
          refine Gx.norm (l' := [Hp.iter Try.prog 3 natL mapV mb r12 (G1.map Nd.key) rs16, Hp.map Try.prog 3 natL natI d2.b d2.need, Hp.own FN 1 v11 (o ++ [d.t]), R18]) rfl ?_
          refine Gx.fact (p := d2.need.Pairwise (fun p q => p.1 ≠ q.1)) (fun w H => (H.at_ (k := 1) rfl).mapNodup Try.kN.keyed) (fun hnn => ?_)
          refine Gx.region ?_
          refine Gx.val rfl rfl rfl (val_move rfl rfl) ?_
          refine Gx.val rfl rfl rfl (val_move rfl rfl) ?_
          refine Gx.eff0 rfl rfl (eff_delete rfl Try.underlying42 Try.kN natK rfl rfl (i := d.t) (by omega) (k := 1) rfl (l' := [Hp.iter Try.prog 3 natL mapV mb r12 (G1.map Nd.key) rs16, Hp.map Try.prog 3 natL natI d2.b (delM d2.need d.t), Hp.own FN 1 v11 (o ++ [d.t]), R18]) rfl) ?_
          rintro _ _ rfl
          refine Gx.done ?_
          refine Gx.blkN ?_
          refine Gx.thenN ?_
          refine Gx.merge 1 2 rfl rfl (hg20 ⟨d2.t, d2.b, delM d2.need d.t⟩) (l' := [bigN (G2.set q2 ⟨d2.t, d2.b, delM d2.need d.t⟩), Hp.iter Try.prog 3 natL mapV mb r12 (G1.map Nd.key) rs16, Hp.own FN 1 v11 (o ++ [d.t])]) rfl ?_
          refine Gx.front 2 rfl ?_
          refine Gx.front 1 rfl ?_
          refine Gx.front 2 rfl ?_
          exact Gx.round (rs16, (G2.set q2 ⟨d2.t, d2.b, delM d2.need d.t⟩)) ⟨fun p hp => hle2 p (hp17.mem_iff.2 (List.mem_cons_of_mem _ hp)), (List.nodup_cons.1 (hp17.nodup_iff.1 hln2)).2, by rw [set_key hd2]; exact hk2, fun i d1 d3 h1 h3 a => by
                have hnr := (List.nodup_cons.1 (hp17.nodup_iff.1 hln2)).1
                by_cases e : q2 = i
                · subst e
                  rw [List.getElem?_set_self (List.getElem?_eq_some_iff.1 hd2).1] at h3; cases h3
                  dsimp only
                  have hkk : d1.key = d2.key := by
                    have := congrArg (·[q2]?) hk2
                    simp only [List.getElem?_map, h1, hd2] at this
                    exact (Option.some.inj this).symm
                  rw [delM_keys hnn, hE q2 d1 d2 h1 hd2 a]
                  constructor
                  · rintro ⟨p1, p2, p3⟩; exact ⟨p2, .inl p1⟩
                  · rintro ⟨p1, p2 | p2⟩
                    · exact ⟨p2, p1, .inl p2⟩
                    · exact absurd (show (d2.t, d2.b) ∈ _ by rw [← show d1.key = (d2.t, d2.b) from hkk]; exact p2) hnr
                · rw [List.getElem?_set_ne e] at h3
                  rw [hE i d1 d3 h1 h3 a]
                  refine and_congr Iff.rfl (or_congr Iff.rfl ?_)
                  rw [hp17.mem_iff, List.mem_cons]
                  refine ⟨fun h => h.resolve_left fun h5 => ?_, .inr⟩
                  have hkk : d3.key = d1.key := by
                    have := congrArg (·[i]?) hk2
                    simp only [List.getElem?_map, h1, h3] at this
                    exact Option.some.inj this
                  have hpw := List.pairwise_iff_getElem.1 (hk2 ▸ hnd1 : (G2.map Nd.key).Pairwise (fun p q => p.1 ≠ q.1))
                  have l1 : i < (G2.map Nd.key).length := by rw [List.length_map]; exact (List.getElem?_eq_some_iff.1 h3).1
                  have l2 : q2 < (G2.map Nd.key).length := by rw [List.length_map]; exact (List.getElem?_eq_some_iff.1 hd2).1
                  have e3 : (G2.map Nd.key)[i] = d3.key := by rw [List.getElem_map, (List.getElem?_eq_some_iff.1 h3).2]
                  have e4 : (G2.map Nd.key)[q2] = d2.key := by rw [List.getElem_map, (List.getElem?_eq_some_iff.1 hd2).2]
                  have e5 : d3.key.1 = d2.key.1 := by rw [hkk, h5]; rfl
                  rcases Nat.lt_or_gt_of_ne e with hl | hl
                  · exact hpw q2 i l2 l1 hl (by rw [e3, e4]; exact e5.symm)
                  · exact hpw i q2 l1 l2 hl (by rw [e3, e4]; exact e5)⟩ (by have e9 := hp17.length_eq; simp at e9; dsimp only; omega) ((.cons rfl (.cons rfl (.cons rfl (.cons rfl .nil))))) rfl
    · refine Gx.norm (l' := [Hp.iterE Try.prog 3 natL mapV natV mb r3 (G.map Nd.key) rs7 ka5 xv6, bigN G, Hp.own FN 1 ov o]) rfl ?_
      refine Gx.val rfl rfl rfl (val_extract rfl rfl rfl) ?_
      refine Gx.done ?_
      refine Gx.thenN ?_
      refine Gx.seq ?_
      refine Gx.t rfl ?_
      refine Gx.skip ?_
      refine Gx.thenN ?_
      refine Gx.block ?_
      refine Gx.seq ?_
      refine Gx.region ?_
      refine Gx.eff rfl rfl rfl (eff_entry rfl rfl (k := 0) rfl) ?_
      rintro _ _ ⟨rfl, rfl⟩
      refine Gx.norm (l' := [Hp.iter Try.prog 3 natL mapV mb r3 (G.map Nd.key) rs7, bigN G, Hp.own FN 1 ov o]) rfl ?_
      refine Gx.val rfl rfl rfl (val_extract rfl rfl rfl) ?_
      refine Gx.val rfl rfl rfl (val_extract rfl rfl rfl) ?_
      refine Gx.val rfl rfl rfl (val_assign rfl rfl) ?_
      refine Gx.val rfl rfl rfl (val_assign rfl rfl) ?_
      refine Gx.done ?_
      refine Gx.thenN ?_
      refine Gx.seq ?_
      obtain ⟨d, hdm, hdk⟩ := List.mem_map.1 (hle (ka5, xv6) (hp8.mem_iff.2 List.mem_cons_self))
      obtain ⟨q, hd⟩ := List.getElem?_of_mem hdm
      obtain ⟨rfl, rfl⟩ : d.t = ka5 ∧ d.b = xv6 := ⟨congrArg Prod.fst hdk, congrArg Prod.snd hdk⟩
      refine Gx.focus (n := 1) (k := q) rfl hd (fun R21 hf22 hg23 => ?_)
      refine Gx.norm (l' := [Hp.iter Try.prog 3 natL mapV mb r3 (G.map Nd.key) rs7, Hp.map Try.prog 3 natL natI d.b d.need, Hp.own FN 1 ov o, R21]) rfl ?_
      refine Gx.region ?_
      refine Gx.val rfl rfl rfl (val_move rfl rfl) ?_
      refine Gx.val rfl rfl rfl (val_lenM rfl Try.underlying42 rfl (k := 1) rfl) ?_
      refine Gx.merge 1 2 rfl rfl (hf22) (l' := [bigN G, Hp.iter Try.prog 3 natL mapV mb r3 (G.map Nd.key) rs7, Hp.own FN 1 ov o]) rfl ?_
      refine Gx.val rfl rfl rfl (val_eql rfl rfl rfl) ?_
      refine Gx.val rfl rfl rfl (val_move rfl rfl) ?_
      refine Gx.cases (t := 33) rfl (fun h24 => ?_) (fun h24 => ?_)
      · refine Gx.valg rfl rfl rfl rfl rfl (val_move rfl rfl) ?_
        refine Gx.valg rfl rfl rfl rfl rfl (val_lss rfl rfl rfl) ?_
        refine Gx.valg rfl rfl rfl rfl rfl (val_move rfl rfl) ?_
        refine Gx.cases (t := 36) rfl (fun h25 => ?_) (fun h25 => ?_)
        · refine Gx.skipg rfl rfl rfl rfl rfl rfl ?_
          refine Gx.skipg rfl rfl rfl rfl rfl rfl ?_
          refine Gx.skipg rfl rfl rfl rfl rfl rfl ?_
          refine Gx.valg rfl rfl rfl rfl rfl (val_pickT rfl rfl rfl) ?_
          refine Gx.val rfl rfl rfl (val_pickT rfl rfl rfl) ?_
          refine Gx.done ?_
          refine Gx.thenN ?_
          refine Gx.t rfl ?_
          refine Gx.region ?_
          refine Gx.val rfl rfl rfl (val_move rfl rfl) ?_
          refine Gx.val rfl rfl rfl (val_assign rfl rfl) ?_
          refine Gx.done ?_
          refine Gx.blkN ?_
          refine Gx.thenN ?_
          refine Gx.front 2 rfl ?_
          refine Gx.front 1 rfl ?_
          refine Gx.front 2 rfl ?_
          exact Gx.round (rs7, ((d.t : Nat) : Int)) ⟨fun p hp => hle p (hp8.mem_iff.2 (List.mem_cons_of_mem _ hp)), .inr ⟨q, d, hd, rfl, List.length_eq_zero_iff.1 (by omega)⟩, fun e => by exfalso; omega⟩ (by have e9 := hp8.length_eq; simp at e9; dsimp only; omega) ((.cons rfl (.cons rfl (.cons rfl (.cons rfl .nil))))) rfl
        · refine Gx.valg rfl rfl rfl rfl rfl (val_move rfl rfl) ?_
          refine Gx.valg rfl rfl rfl rfl rfl (val_move rfl rfl) ?_
          refine Gx.valg rfl rfl rfl rfl rfl (val_lss rfl rfl rfl) ?_
          refine Gx.valg rfl rfl rfl rfl rfl (val_pickF rfl rfl rfl) ?_
          refine Gx.val rfl rfl rfl (val_pickT rfl rfl rfl) ?_
          refine Gx.done ?_
          refine Gx.thenN ?_
          refine Gx.dec rfl (fun h26 => ?_) (fun h26 => ?_)
          · refine Gx.region ?_
            refine Gx.val rfl rfl rfl (val_move rfl rfl) ?_
            refine Gx.val rfl rfl rfl (val_assign rfl rfl) ?_
            refine Gx.done ?_
            refine Gx.blkN ?_
            refine Gx.thenN ?_
            refine Gx.front 2 rfl ?_
            refine Gx.front 1 rfl ?_
            refine Gx.front 2 rfl ?_
            exact Gx.round (rs7, ((d.t : Nat) : Int)) ⟨fun p hp => hle p (hp8.mem_iff.2 (List.mem_cons_of_mem _ hp)), .inr ⟨q, d, hd, rfl, List.length_eq_zero_iff.1 (by omega)⟩, fun e => by exfalso; omega⟩ (by have e9 := hp8.length_eq; simp at e9; dsimp only; omega) ((.cons rfl (.cons rfl (.cons rfl (.cons rfl .nil))))) rfl
          · refine Gx.skip ?_
            refine Gx.blkN ?_
            refine Gx.thenN ?_
            refine Gx.front 2 rfl ?_
            refine Gx.front 1 rfl ?_
            refine Gx.front 2 rfl ?_
            exact Gx.round (rs7, nx) ⟨fun p hp => hle p (hp8.mem_iff.2 (List.mem_cons_of_mem _ hp)), hn1, fun e => by exfalso; omega⟩ (by have e9 := hp8.length_eq; simp at e9; dsimp only; omega) ((.cons rfl (.cons rfl (.cons rfl (.cons rfl .nil))))) rfl
      · refine Gx.skipg rfl rfl rfl rfl rfl rfl ?_
        refine Gx.skipg rfl rfl rfl rfl rfl rfl ?_
        refine Gx.skipg rfl rfl rfl rfl rfl rfl ?_
        refine Gx.skipu rfl rfl rfl rfl rfl ?_
        refine Gx.skipu rfl rfl rfl rfl rfl ?_
        refine Gx.skipu rfl rfl rfl rfl rfl ?_
        refine Gx.skipg rfl rfl rfl rfl rfl rfl ?_
        refine Gx.val rfl rfl rfl (val_pickF rfl rfl rfl) ?_
        refine Gx.done ?_
        refine Gx.thenN ?_
        refine Gx.f rfl ?_
        refine Gx.skip ?_
        refine Gx.blkN ?_
        refine Gx.thenN ?_
        refine Gx.front 2 rfl ?_
        refine Gx.front 1 rfl ?_
        refine Gx.front 2 rfl ?_
        exact Gx.round (rs7, nx) ⟨fun p hp => hle p (hp8.mem_iff.2 (List.mem_cons_of_mem _ hp)), hn1, fun e q2 e2 h2 => by
              rcases hn2 e q2 e2 h2 with h | h
              · rcases List.mem_cons.1 (hp8.mem_iff.1 h) with h3 | h3
                · right
                  have h4 : e2.t = d.t := congrArg Prod.fst h3
                  by_cases h5 : q2 = q
                  · subst h5; cases hd.symm.trans h2; intro h6; rw [h6] at h24; simp at h24
                  · exact absurd h4 (hR.g.ne h2 hd h5)
                · exact .inl h3
              · exact .inr h⟩ (by have e9 := hp8.length_eq; simp at e9; dsimp only; omega) ((.cons rfl (.cons rfl (.cons rfl (.cons rfl .nil))))) rfl
  · refine Gx.exit ?_
    refine Gx.thenE ?_
    refine Gx.thenE ?_
    refine Gx.blkE ?_
    refine Gx.thenN ?_
    refine Gx.seq ?_
    refine Gx.region ?_
    refine Gx.val rfl rfl rfl (val_move rfl rfl) ?_
    refine Gx.val rfl rfl rfl (val_assign rfl rfl) ?_
    refine Gx.val rfl rfl rfl (val_assign rfl rfl) ?_
    refine Gx.val rfl rfl rfl (val_assign rfl rfl) ?_
    refine Gx.done ?_
    refine Gx.thenN ?_
    refine Gx.ret ?_
    refine Gx.drop 1 rfl ?_
    refine Gx.drop 0 rfl ?_
    have hG0e : G = [] := List.length_eq_zero_iff.1 (by rw [List.length_map] at *; omega)
    subst hG0e
    refine Gx.ret3 Try.results8 rfl rfl rfl ?_
    exact ⟨ov, true, o, rfl, rfl, hio, ⟨fun _ => hR.topo, fun e => by cases e⟩⟩
  rintro v l9 w ⟨ov, b, zs, rfl, rfl, ⟨a, n, c, rfl⟩, h⟩ H
  refine ⟨a, n, c, b, zs, rfl, (H.at_ (k := 0) rfl).sls ?_, h⟩
  rcases (H.at_ (k := 0) rfl).ows with ⟨e, rfl⟩ | ⟨g, o, c', e, h1, h2, h3, h4, h5⟩
  · simp
  · have hz : zs.length ≤ 60 := by
      cases b
      · rw [(h.2 rfl).1]; simp
      · have T := h.1 rfl
        have := nodup_lt 6 zs T.nd (fun t ht => by obtain ⟨i, x, hx, e⟩ := (T.key t).2 ht; have := hok.all i x hx; omega)
        omega
    omega

end Go.Proofs.Ytcepfpbhfobbeaa
