/- What may be heard is heard. The walk. No condition. -/
import Derived.Test.YtfpdbgalannalaaA2
namespace Go.Proofs.Ytfpdbgalannalaa
open Go.RowKit
set_option linter.unusedVariables false
set_option linter.unusedSimpArgs false
set_option maxRecDepth 100000

theorem big_two {α : Type} {p : α → Hp} {l : List α} {k j : Nat} {a b : α} (h1 : l[k]? = some a) (h2 : l[j]? = some b) (hne : k ≠ j) : ∃ R, Hp.big p l = p a * (p b * R) := by
  obtain ⟨hl, rfl⟩ := List.getElem?_eq_some_iff.1 h1
  have e : l = l.take k ++ l[k] :: l.drop (k + 1) := by rw [← List.drop_eq_getElem_cons hl, List.take_append_drop]
  have hm : b ∈ l.take k ++ l.drop (k + 1) := by
    rw [← List.eraseIdx_eq_take_drop_succ]
    exact List.mem_eraseIdx_iff_getElem?.2 ⟨j, Ne.symm hne, h2⟩
  obtain ⟨i, hi⟩ := List.getElem?_of_mem hm
  obtain ⟨R, hR, _⟩ := Hp.big_focus p _ i b hi
  refine ⟨R, ?_⟩
  rw [Hp.big_append] at hR
  have h9 : Hp.big p l = Hp.big p (l.take k ++ l[k] :: l.drop (k + 1)) := congrArg (Hp.big p) e
  rw [Hp.big_append] at h9
  refine h9.trans ?_
  show _ * (p _ * _) = _
  rw [Hp.mul_left_comm, hR]
theorem KOk.mem {L : Nat} {ks : Ks} {g : Nat → Option Ent} (h : KOk L ks g) {m : Nat} {x : Em} (hp : (m, x) ∈ ks) : g m = some x.e ∧ getM ks m = some x := by
  obtain ⟨k, hk⟩ := List.getElem?_of_mem hp
  have := getM_at h.nodup hk
  exact ⟨by rw [h.eq, this]; rfl, this⟩
theorem KOk.key {L : Nat} {ks : Ks} {g : Nat → Option Ent} (h : KOk L ks g) {m : Nat} {x y : Em} (hx : (m, x) ∈ ks) (hy : (m, y) ∈ ks) : x = y := Option.some.inj ((h.mem hx).2.symm.trans (h.mem hy).2)
theorem KOk.nd {L : Nat} {ks : Ks} {g : Nat → Option Ent} (h : KOk L ks g) : ks.Nodup := h.nodup.imp fun h e => h (congrArg (·.1) e)
def DK (g : Nat → Option Ent) : Prop := ∀ m e m' e', g m = some e → g m' = some e' → m ≠ m' → e.k ≠ e'.k
def Seen (ks left : Ks) (b : Int) : Prop := (∀ p ∈ left, p ∈ ks) ∧ left.Nodup ∧ ((b = -1 ∧ ∀ p ∈ ks, p ∉ left → p.2.e.hrd = true) ∨ ∃ (m : Nat) (x : Em), b = (m : Int) ∧ (m, x) ∈ ks ∧ (m, x) ∉ left ∧ x.e.hrd = false ∧ ∀ p ∈ ks, p ∉ left → p.2.e.hrd = false → p.1 ≠ m → x.e.k < p.2.e.k)
theorem Seen.start {L : Nat} {ks : Ks} {g : Nat → Option Ent} (h : KOk L ks g) : Seen ks ks (-1) := ⟨fun p hp => hp, h.nd, .inl ⟨rfl, fun p hp hn => absurd hp hn⟩⟩
theorem perm_out {left rest : Ks} {a p : Nat × Em} (hp : left.Perm (a :: rest)) (h : p ∉ rest) : p = a ∨ p ∉ left := by
  by_cases c : p = a
  · exact .inl c
  · refine .inr fun q => ?_
    rcases List.mem_cons.1 (hp.subset q) with e | e
    · exact c e
    · exact h e
theorem Seen.step {ks left rest : Ks} {a : Nat × Em} {b : Int} (h : Seen ks left b) (hp : left.Perm (a :: rest)) : (∀ p ∈ rest, p ∈ ks) ∧ rest.Nodup ∧ a ∈ ks ∧ a ∉ rest ∧ a ∈ left := by
  obtain ⟨n1, n2⟩ := List.nodup_cons.1 (hp.nodup_iff.1 h.2.1)
  have ha : a ∈ left := hp.symm.subset (List.mem_cons_self ..)
  exact ⟨fun p q => h.1 p (hp.symm.subset (List.mem_cons_of_mem _ q)), n2, h.1 a ha, n1, ha⟩
theorem Seen.skip {ks left rest : Ks} {ka : Nat} {x : Em} {b : Int} (h : Seen ks left b) (hp : left.Perm ((ka, x) :: rest)) (hx : x.e.hrd = true) : Seen ks rest b := by
  obtain ⟨s1, s2, s3, s4, s5⟩ := h.step hp
  refine ⟨s1, s2, ?_⟩
  rcases h.2.2 with ⟨e, h2⟩ | ⟨m, y, e, h1, h2, h3, h4⟩
  · refine .inl ⟨e, fun p q r => ?_⟩
    rcases perm_out hp r with rfl | r
    · exact hx
    · exact h2 p q r
  · refine .inr ⟨m, y, e, h1, fun q => h2 (hp.symm.subset (List.mem_cons_of_mem _ q)), h3, fun p q r s t => ?_⟩
    rcases perm_out hp r with rfl | r
    · rw [hx] at s; cases s
    · exact h4 p q r s t
theorem Seen.first {ks left rest : Ks} {ka : Nat} {x : Em} (h : Seen ks left (-1)) (hp : left.Perm ((ka, x) :: rest)) (hx : x.e.hrd = false) : Seen ks rest (ka : Int) := by
  obtain ⟨s1, s2, s3, s4, s5⟩ := h.step hp
  refine ⟨s1, s2, .inr ⟨ka, x, rfl, s3, s4, hx, fun p q r s t => ?_⟩⟩
  rcases h.2.2 with ⟨e, h2⟩ | ⟨m, y, e, h1, h2, h3, h4⟩
  · rcases perm_out hp r with rfl | r
    · exact absurd rfl t
    · rw [h2 p q r] at s; cases s
  · omega
theorem Seen.less {L : Nat} {g : Nat → Option Ent} {ks left rest : Ks} {ka m : Nat} {x y : Em} (hK : KOk L ks g) (h : Seen ks left (m : Int)) (hp : left.Perm ((ka, x) :: rest)) (hx : x.e.hrd = false) (hy : (m, y) ∈ ks) (hl : x.e.k < y.e.k) : Seen ks rest (ka : Int) := by
  obtain ⟨s1, s2, s3, s4, s5⟩ := h.step hp
  refine ⟨s1, s2, .inr ⟨ka, x, rfl, s3, s4, hx, fun p q r s t => ?_⟩⟩
  rcases h.2.2 with ⟨e, h2⟩ | ⟨m', y', e, h1, h2, h3, h4⟩
  · omega
  · obtain rfl : m = m' := by omega
    obtain rfl := hK.key hy h1
    rcases perm_out hp r with rfl | r
    · exact absurd rfl t
    · by_cases c : p.1 = m
      · obtain ⟨p1, p2⟩ := p
        dsimp only at c; subst c
        rw [hK.key q hy]; exact hl
      · exact Nat.lt_trans hl (h4 p q r s c)
theorem Seen.keep {L : Nat} {g : Nat → Option Ent} {ks left rest : Ks} {ka m : Nat} {x y : Em} (hK : KOk L ks g) (hD : DK g) (h : Seen ks left (m : Int)) (hp : left.Perm ((ka, x) :: rest)) (hy : (m, y) ∈ ks) (hl : ¬ x.e.k < y.e.k) : Seen ks rest (m : Int) := by
  obtain ⟨s1, s2, s3, s4, s5⟩ := h.step hp
  refine ⟨s1, s2, ?_⟩
  rcases h.2.2 with ⟨e, h2⟩ | ⟨m', y', e, h1, h2, h3, h4⟩
  · omega
  · obtain rfl : m = m' := by omega
    obtain rfl := hK.key hy h1
    refine .inr ⟨m, y, e, h1, fun q => h2 (hp.symm.subset (List.mem_cons_of_mem _ q)), h3, fun p q r s t => ?_⟩
    rcases perm_out hp r with rfl | r
    · have := hD ka x.e m y.e (hK.mem q).1 (hK.mem hy).1 t
      dsimp only at this ⊢; omega
    · exact h4 p q r s t
theorem Seen.of {L : Nat} {g : Nat → Option Ent} {ks left : Ks} {m : Nat} (hK : KOk L ks g) (h : Seen ks left (m : Int)) : ∃ x, (m, x) ∈ ks ∧ (m, x) ∉ left ∧ x.e.hrd = false := by
  rcases h.2.2 with ⟨e, h2⟩ | ⟨m', y', e, h1, h2, h3, h4⟩
  · omega
  · obtain rfl : m = m' := by omega
    exact ⟨y', h1, h2, h3⟩
theorem Seen.val {ks left : Ks} {b : Int} (h : Seen ks left b) : b = -1 ∨ ∃ m : Nat, b = (m : Int) := by
  rcases h.2.2 with ⟨e, h2⟩ | ⟨m', y', e, h1, h2, h3, h4⟩
  · exact .inl e
  · exact .inr ⟨m', e⟩
theorem Seen.min {L : Nat} {q : Pt} {ks : Ks} {m : Nat} {x : Em} (hK : KOk L ks q.got) (h : Seen ks [] (m : Int)) (hx : (m, x) ∈ ks) : UnhMin q m x.e := by
  rcases h.2.2 with ⟨e, h2⟩ | ⟨m', y', e, h1, h2, h3, h4⟩
  · omega
  · obtain rfl : m = m' := by omega
    obtain rfl := hK.key hx h1
    refine ⟨(hK.mem hx).1, h3, fun m2 e2 g1 g2 g3 => ?_⟩
    obtain ⟨y, hy, rfl⟩ := hK.got g1
    obtain ⟨j, hj, _⟩ := getM_index hy
    exact h4 (m2, y) (List.mem_of_getElem? hj) (by simp) g2 g3
theorem Seen.none_ {L : Nat} {q : Pt} {ks : Ks} (hK : KOk L ks q.got) (h : Seen ks [] (-1)) : ∀ m e, UnhMin q m e → e.fin = false := by
  intro m e hm
  rcases h.2.2 with ⟨_, h2⟩ | ⟨m', y', e, h1, h2, h3, h4⟩
  · obtain ⟨y, hy, rfl⟩ := hK.got hm.1
    obtain ⟨j, hj, _⟩ := getM_index hy
    have := h2 (m, y) (List.mem_of_getElem? hj) (by simp)
    rw [hm.2.1] at this; cases this
  · omega
def uh (ks : Ks) : Nat := (ks.filter fun x => !x.2.e.hrd).length
theorem uh_le (ks : Ks) : uh ks ≤ ks.length := List.length_filter_le ..
theorem uh_set : ∀ {ks : Ks} {k m : Nat} {x y : Em}, ks[k]? = some (m, x) → x.e.hrd = false → y.e.hrd = true → uh (ks.set k (m, y)) + 1 = uh ks
  | [], k, m, x, y, h, _, _ => by simp at h
  | c :: l, 0, m, x, y, h, h1, h2 => by simp at h; subst h; simp [uh, List.filter_cons, h1, h2]
  | c :: l, k + 1, m, x, y, h, h1, h2 => by
    have := uh_set (ks := l) (k := k) (x := x) (y := y) (by simpa using h) h1 h2
    simp only [uh, List.set_cons_succ, List.filter_cons] at this ⊢
    split <;> (try simp only [List.length_cons]) <;> omega
theorem DK.hear {q : Pt} {m : Nat} {e : Ent} (h : DK q.got) (hm : q.got m = some e) : DK (hear q m e).got := by
  have : ∀ m' e', (Go.Proofs.Ytfpdbgalannalaa.hear q m e).got m' = some e' → ∃ e2, q.got m' = some e2 ∧ e2.k = e'.k := fun m' e' h1 => by
    have h1 : upG q.got m { e with hrd := true } m' = some e' := h1
    by_cases c : m' = m
    · have h3 : some ({ e with hrd := true } : Ent) = some e' := (show some ({ e with hrd := true } : Ent) = upG q.got m { e with hrd := true } m' from (if_pos c).symm).trans h1
      refine ⟨e, by rw [c]; exact hm, ?_⟩
      have h4 := Option.some.inj h3
      rw [← h4]
    · exact ⟨e', (show q.got m' = upG q.got m { e with hrd := true } m' from (if_neg c).symm).trans h1, rfl⟩
  intro m1 e1 m2 e2 h1 h2 hne
  obtain ⟨a, ha, ea⟩ := this _ _ h1
  obtain ⟨b, hb, eb⟩ := this _ _ h2
  rw [← ea, ← eb]; exact h m1 a m2 b ha hb hne
theorem settle_raw {W w : World} {pb pn mb L : Nat} {p : Pt} {ks0 : Ks} {pv : Value} {R : Hp} (hK0 : KOk L ks0 p.got) (hD0 : DK p.got) (hL : L ≤ 1000) (hll : p.lst.length ≤ 100000) (hIs0 : IsS pv) (H : Sat W w (sep [Hp.rec_ pb [.int .i64 ((pn : Nat) : Int), .map (some mb), pv], Hp.map Try.prog 3 natL vB mb ks0, Hp.big entH ks0, Hp.own FN 1 pv p.lst, R])) :
    Calls Try.prog 17 #[ptr pb 0] w (Ret W fun v l => ∃ (q : Pt) (ks : Ks) (cv : Value), Stl p q ∧ KOk L ks q.got ∧ q.n = p.n ∧ v = .tuple #[] ∧ sep l = sep [Hp.rec_ pb [.int .i64 ((pn : Nat) : Int), .map (some mb), cv], Hp.map Try.prog 3 natL vB mb ks, Hp.big entH ks, Hp.own FN 1 cv q.lst, R]) := by
  refine Gx.enter (l := [Hp.rec_ pb [.int .i64 ((pn : Nat) : Int), .map (some mb), pv], Hp.map Try.prog 3 natL vB mb ks0, Hp.big entH ks0, Hp.own FN 1 pv p.lst, R]) Try.func17 rfl Try.ntmps17 rfl (H) ?_
  refine Gx.know (m' := [(0, ptr pb 0)]) (.cons rfl .nil) ?_
  refine Gx.block ?_
  refine Gx.loop (ι := Pt × Ks × Value) (fun ξ => (KOk L ξ.2.1 ξ.1.got) ∧ (DK ξ.1.got) ∧ (∀ z, Stl ξ.1 z → Stl p z) ∧ (ξ.1.n = p.n) ∧ (ξ.1.lst.length + uh ξ.2.1 ≤ 200000) ∧ (IsS ξ.2.2)) (fun ξ => [(0, ptr pb 0)]) (fun ξ => [Hp.rec_ pb [.int .i64 ((pn : Nat) : Int), .map (some mb), ξ.2.2], Hp.map Try.prog 3 natL vB mb ξ.2.1, Hp.big entH ξ.2.1, Hp.own FN 1 ξ.2.2 ξ.1.lst, R]) (fun ξ => uh ξ.2.1) (p, ks0, pv) ⟨hK0, hD0, fun z hz => hz, rfl, by have := uh_le ks0; have := hK0.len; dsimp only; omega, hIs0⟩ ((.cons rfl .nil)) rfl ?_
  rintro ⟨q, ks, cv⟩ ⟨hK, hD, hst, hqn, hu, hIs⟩
  dsimp only at hK hD hst hqn hu hIs
  refine Gx.know (m' := [(0, ptr pb 0)]) (.cons rfl .nil) (Gx.norm (l' := [Hp.rec_ pb [.int .i64 ((pn : Nat) : Int), .map (some mb), cv], Hp.map Try.prog 3 natL vB mb ks, Hp.big entH ks, Hp.own FN 1 cv q.lst, R]) rfl ?_)
  refine Gx.block ?_
  refine Gx.seq ?_
  refine Gx.region ?_
  refine Gx.val rfl rfl rfl (val_assign rfl rfl) ?_
  refine Gx.done ?_
  refine Gx.thenN ?_
  refine Gx.seq ?_
  refine Gx.seq ?_
  refine Gx.region ?_
  refine Gx.val rfl rfl rfl (val_move rfl rfl) ?_
  refine Gx.val rfl rfl rfl (val_nilCheck rfl rfl) ?_
  refine Gx.val rfl rfl rfl (Val.cast (val_fieldAddr rfl Try.underlying47 rfl Try.ty45 rfl rfl) (v' := ptr pb 1) rfl) ?_
  refine Gx.val rfl rfl rfl (val_load rfl Try.ty45 rfl rfl (cell_rec (k := 0) rfl rfl)) ?_
  refine Gx.eff rfl rfl rfl (eff_range rfl Try.underlying45 rfl (k := 1) rfl) ?_
  rintro _ _ ⟨r1, rfl, rfl⟩
  refine Gx.norm (l' := [Hp.rec_ pb [.int .i64 ((pn : Nat) : Int), .map (some mb), cv], Hp.iter Try.prog 3 natL vB mb r1 ks ks, Hp.big entH ks, Hp.own FN 1 cv q.lst, R]) rfl ?_
  refine Gx.done ?_
  refine Gx.thenN ?_
  refine Gx.block ?_
  refine Gx.loop (ι := Ks × Int) (fun ξ => (Seen ks ξ.1 ξ.2)) (fun ξ => [(0, ptr pb 0), (9, ptr r1 0), (2, .int .i64 ξ.2)]) (fun ξ => [Hp.rec_ pb [.int .i64 ((pn : Nat) : Int), .map (some mb), cv], Hp.iter Try.prog 3 natL vB mb r1 ks ξ.1, Hp.big entH ks, Hp.own FN 1 cv q.lst, R]) (fun ξ => ξ.1.length) (ks, (-1)) (Seen.start hK) ((.cons rfl (.cons rfl (.cons rfl .nil)))) rfl ?_
  rintro ⟨left, bst⟩ hsn
  dsimp only at hsn
  refine Gx.know (m' := [(0, ptr pb 0), (9, ptr r1 0), (2, .int .i64 bst)]) (.cons rfl (.cons rfl (.cons rfl .nil))) (Gx.norm (l' := [Hp.rec_ pb [.int .i64 ((pn : Nat) : Int), .map (some mb), cv], Hp.iter Try.prog 3 natL vB mb r1 ks left, Hp.big entH ks, Hp.own FN 1 cv q.lst, R]) rfl ?_)
  refine Gx.seq ?_
  refine Gx.region ?_
  refine Gx.eff rfl rfl rfl (eff_next (kf := natV) rfl Try.kN (fun p hp => hK.small p (hsn.1 p hp)) rfl (k := 1) rfl) ?_
  rintro _ _ (⟨hl2, rfl, rfl⟩ | ⟨ka3, xv4, rs5, hp6, rfl, rfl⟩)
  · refine Gx.norm (l' := [Hp.rec_ pb [.int .i64 ((pn : Nat) : Int), .map (some mb), cv], Hp.map Try.prog 3 natL vB mb ks, Hp.big entH ks, Hp.own FN 1 cv q.lst, R]) rfl ?_
    refine Gx.val rfl rfl rfl (val_extract rfl rfl rfl) ?_
    refine Gx.done ?_
    refine Gx.thenN ?_
    refine Gx.seq ?_
    refine Gx.f rfl ?_
    refine Gx.exit ?_
    refine Gx.thenE ?_
    refine Gx.thenE ?_
    refine Gx.blkE ?_
    refine Gx.thenN ?_
    refine Gx.seq ?_
    refine Gx.seq ?_
    obtain rfl := hl2
    rcases hsn.val with rfl | ⟨mn, rfl⟩
    · refine Gx.know (m' := [(0, ptr pb 0), (9, ptr r1 0), (2, .int .i64 (-1)), (10, .tuple #[.bool false]), (11, .bool false)]) (.cons rfl (.cons rfl (.cons rfl (.cons rfl (.cons rfl .nil))))) (Gx.norm (l' := [Hp.rec_ pb [.int .i64 ((pn : Nat) : Int), .map (some mb), cv], Hp.map Try.prog 3 natL vB mb ks, Hp.big entH ks, Hp.own FN 1 cv q.lst, R]) rfl ?_)
      refine Gx.region ?_
      refine Gx.val rfl rfl rfl (val_move rfl rfl) ?_
      refine Gx.val rfl rfl rfl (Val.cast (val_lss rfl rfl rfl) (v' := .bool true) rfl) ?_
      refine Gx.val rfl rfl rfl (val_move rfl rfl) ?_
      refine Gx.skipg rfl rfl rfl rfl rfl rfl ?_
      refine Gx.skipg rfl rfl rfl rfl rfl rfl ?_
      refine Gx.skipg rfl rfl rfl rfl rfl rfl ?_
      refine Gx.skipg rfl rfl rfl rfl rfl rfl ?_
      refine Gx.skipg rfl rfl rfl rfl rfl rfl ?_
      refine Gx.skipg rfl rfl rfl rfl rfl rfl ?_
      refine Gx.skipg rfl rfl rfl rfl rfl rfl ?_
      refine Gx.skipg rfl rfl rfl rfl rfl rfl ?_
      refine Gx.skipg rfl rfl rfl rfl rfl rfl ?_
      refine Gx.skipg rfl rfl rfl rfl rfl rfl ?_
      refine Gx.val rfl rfl rfl (val_pickT rfl rfl rfl) ?_
      refine Gx.done ?_
      refine Gx.thenN ?_
      refine Gx.t rfl ?_
      refine Gx.ret ?_
      refine Gx.thenR ?_
      refine Gx.blkR ?_
      refine Gx.thenR ?_
      refine Gx.blkR ?_
      refine Gx.front 4 rfl ?_
      refine Gx.front 4 rfl ?_
      refine Gx.front 4 rfl ?_
      refine Gx.front 4 rfl ?_
      refine Gx.front 4 rfl ?_
      refine Gx.ret0 Try.results17 ?_
      exact ⟨q, ks, cv, hst q (Stl.stop (Seen.none_ hK hsn)), hK, hqn, rfl, rfl⟩
    · refine Gx.know (m' := [(0, ptr pb 0), (9, ptr r1 0), (2, .int .i64 ((mn : Nat) : Int)), (10, .tuple #[.bool false]), (11, .bool false)]) (.cons rfl (.cons rfl (.cons rfl (.cons rfl (.cons rfl .nil))))) ?_
      obtain ⟨xm, hxm, _, hxh⟩ := hsn.of hK
      obtain ⟨kk, hkk⟩ := List.getElem?_of_mem hxm
      have hmin := Seen.min hK hsn hxm
      refine Gx.focus (n := 2) (k := kk) rfl hkk (fun R7 hf8 hg9 => ?_)
      refine Gx.norm (l' := [Hp.rec_ pb [.int .i64 ((pn : Nat) : Int), .map (some mb), cv], Hp.map Try.prog 3 natL vB mb ks, entH (mn, xm), Hp.own FN 1 cv q.lst, R, R7]) rfl ?_
      refine Gx.norm (l' := [Hp.rec_ pb [.int .i64 ((pn : Nat) : Int), .map (some mb), cv], Hp.map Try.prog 3 natL vB mb ks, Hp.rec_ xm.b [.int .i64 ((xm.e.k / 8 : Nat) : Int), .int .i64 ((xm.e.k % 8 : Nat) : Int), .bool xm.e.fin, .bool xm.e.hrd], Hp.own FN 1 cv q.lst, R, R7]) rfl ?_
      refine Gx.region ?_
      refine Gx.val rfl rfl rfl (val_move rfl rfl) ?_
      refine Gx.val rfl rfl rfl (val_lss rfl rfl rfl) ?_
      refine Gx.val rfl rfl rfl (val_move rfl rfl) ?_
      refine Gx.slot (t := 44) (v := .bool false) (look_decF rfl (by omega)) ?_
      refine Gx.valg rfl rfl rfl rfl rfl (val_move rfl rfl) ?_
      refine Gx.valg rfl rfl rfl rfl rfl (val_nilCheck rfl rfl) ?_
      refine Gx.valg rfl rfl rfl rfl rfl (Val.cast (val_fieldAddr rfl Try.underlying47 rfl Try.ty45 rfl rfl) (v' := ptr pb 1) rfl) ?_
      refine Gx.valg rfl rfl rfl rfl rfl (val_load rfl Try.ty45 rfl rfl (cell_rec (k := 0) rfl rfl)) ?_
      refine Gx.valg rfl rfl rfl rfl rfl (val_move rfl rfl) ?_
      refine Gx.valg rfl rfl rfl rfl rfl (val_lookup1 rfl Try.underlying45 Try.kN Try.ty50 rfl rfl (i := mn) (hK.small _ hxm) (k := 1) rfl (r := ptr xm.b 0) (by rw [(hK.mem hxm).2]; rfl)) ?_
      refine Gx.valg rfl rfl rfl rfl rfl (val_nilCheck rfl rfl) ?_
      refine Gx.valg rfl rfl rfl rfl rfl (Val.cast (val_fieldAddr rfl Try.underlying55 rfl Try.ty4 rfl rfl) (v' := ptr xm.b 2) rfl) ?_
      refine Gx.valg rfl rfl rfl rfl rfl (val_load rfl Try.ty4 rfl rfl (cell_rec (k := 2) rfl rfl)) ?_
      refine Gx.valg rfl rfl rfl rfl rfl (val_not rfl rfl) ?_
      refine Gx.val rfl rfl rfl (val_pickF rfl rfl rfl) ?_
      refine Gx.done ?_
      refine Gx.thenN ?_
      refine Gx.bool rfl (fun h10 => ?_) (fun h10 => ?_)
      · refine Gx.ret ?_
        refine Gx.thenR ?_
        refine Gx.blkR ?_
        refine Gx.thenR ?_
        refine Gx.blkR ?_
        refine Gx.front 5 rfl ?_
        refine Gx.front 3 rfl ?_
        refine Gx.sepEq (l' := [Hp.big entH ks, Hp.rec_ pb [.int .i64 ((pn : Nat) : Int), .map (some mb), cv], Hp.map Try.prog 3 natL vB mb ks, Hp.own FN 1 cv q.lst, R]) (by show Hp.rec_ xm.b [.int .i64 ((xm.e.k / 8 : Nat) : Int), .int .i64 ((xm.e.k % 8 : Nat) : Int), .bool xm.e.fin, .bool xm.e.hrd] * (R7 * _) = Hp.big entH ks * _; rw [hf8]; show _ = (Hp.rec_ xm.b [.int .i64 ((xm.e.k / 8 : Nat) : Int), .int .i64 ((xm.e.k % 8 : Nat) : Int), .bool xm.e.fin, .bool xm.e.hrd] * R7) * _; simp only [Hp.mul_assoc] <;> rfl) ?_
        refine Gx.front 4 rfl ?_
        refine Gx.front 4 rfl ?_
        refine Gx.front 2 rfl ?_
        refine Gx.front 4 rfl ?_
        refine Gx.front 4 rfl ?_
        refine Gx.ret0 Try.results17 ?_
        exact ⟨q, ks, cv, hst q (Stl.stop ((fun m e he => by rw [(hmin.uniq he).2.symm]; simpa using h10))), hK, hqn, rfl, rfl⟩
      · have hfin : xm.e.fin = true := by simpa using h10
        refine Gx.skip ?_
        refine Gx.thenN ?_
        refine Gx.seq ?_
        refine Gx.region ?_
        refine Gx.val rfl rfl rfl (val_move rfl rfl) ?_
        refine Gx.val rfl rfl rfl (val_nilCheck rfl rfl) ?_
        refine Gx.val rfl rfl rfl (Val.cast (val_fieldAddr rfl Try.underlying47 rfl Try.ty45 rfl rfl) (v' := ptr pb 1) rfl) ?_
        refine Gx.val rfl rfl rfl (val_load rfl Try.ty45 rfl rfl (cell_rec (k := 0) rfl rfl)) ?_
        refine Gx.val rfl rfl rfl (val_move rfl rfl) ?_
        refine Gx.val rfl rfl rfl (val_lookup1 rfl Try.underlying45 Try.kN Try.ty50 rfl rfl (i := mn) (hK.small _ hxm) (k := 1) rfl (r := ptr xm.b 0) (by rw [(hK.mem hxm).2]; rfl)) ?_
        refine Gx.val rfl rfl rfl (val_nilCheck rfl rfl) ?_
        refine Gx.val rfl rfl rfl (Val.cast (val_fieldAddr rfl Try.underlying55 rfl Try.ty4 rfl rfl) (v' := ptr xm.b 3) rfl) ?_
        refine Gx.eff0 rfl rfl (eff_store rfl Try.ty4 rfl rfl (us := [.bool true]) rfl rfl rfl (k := 2) rfl (rfl) (vs' := [.int .i64 ((xm.e.k / 8 : Nat) : Int), .int .i64 ((xm.e.k % 8 : Nat) : Int), .bool xm.e.fin, .bool true]) (rfl) (l' := [Hp.rec_ pb [.int .i64 ((pn : Nat) : Int), .map (some mb), cv], Hp.map Try.prog 3 natL vB mb ks, Hp.rec_ xm.b [.int .i64 ((xm.e.k / 8 : Nat) : Int), .int .i64 ((xm.e.k % 8 : Nat) : Int), .bool xm.e.fin, .bool true], Hp.own FN 1 cv q.lst, R, R7]) rfl) ?_
        rintro _ _ rfl
        refine Gx.done ?_
        refine Gx.thenN ?_
        refine Gx.region ?_
        refine Gx.val rfl rfl rfl (val_move rfl rfl) ?_
        refine Gx.val rfl rfl rfl (val_move rfl rfl) ?_
        refine Gx.val rfl rfl rfl (val_nilCheck rfl rfl) ?_
        refine Gx.val rfl rfl rfl (Val.cast (val_fieldAddr rfl Try.underlying47 rfl Try.ty30 rfl rfl) (v' := ptr pb 2) rfl) ?_
        refine Gx.val rfl rfl rfl (val_load rfl Try.ty30 rfl rfl (cell_rec (k := 0) rfl rfl)) ?_
        refine Gx.val rfl rfl rfl (val_move rfl rfl) ?_
        refine Gx.eff rfl rfl rfl (eff_buildSlice rfl (qs := [(0, .int .i64 ((mn : Nat) : Int))]) rfl rfl (cs := #[.int .i64 ((mn : Nat) : Int)]) (vs := [.int .i64 ((mn : Nat) : Int)]) (E := 3) rfl (fun w => by first | (go_simp; done) | (go_simp; rfl))) ?_
        rintro _ _ ⟨b11, rfl, rfl⟩
        refine Gx.eff rfl rfl rfl (eff_push (r := mn) rfl Try.eN FN_len FN_one rfl rfl (k := 0) rfl rfl (k' := 3) rfl (by omega) (by omega)) ?_
        rintro v12 _ ⟨hiv12, rfl⟩
        refine Gx.norm (l' := [Hp.rec_ pb [.int .i64 ((pn : Nat) : Int), .map (some mb), cv], Hp.map Try.prog 3 natL vB mb ks, Hp.rec_ xm.b [.int .i64 ((xm.e.k / 8 : Nat) : Int), .int .i64 ((xm.e.k % 8 : Nat) : Int), .bool xm.e.fin, .bool true], Hp.own FN 1 v12 (q.lst ++ [mn]), R, R7]) rfl ?_
        refine Gx.val rfl rfl rfl (val_nilCheck rfl rfl) ?_
        refine Gx.val rfl rfl rfl (Val.cast (val_fieldAddr rfl Try.underlying47 rfl Try.ty30 rfl rfl) (v' := ptr pb 2) rfl) ?_
        refine Gx.eff0 rfl rfl (eff_store rfl Try.ty30 rfl rfl (us := [v12]) hiv12.cellsL rfl hiv12.all (k := 0) rfl (rfl) (vs' := [.int .i64 ((pn : Nat) : Int), .map (some mb), v12]) (rfl) (l' := [Hp.rec_ pb [.int .i64 ((pn : Nat) : Int), .map (some mb), v12], Hp.map Try.prog 3 natL vB mb ks, Hp.rec_ xm.b [.int .i64 ((xm.e.k / 8 : Nat) : Int), .int .i64 ((xm.e.k % 8 : Nat) : Int), .bool xm.e.fin, .bool true], Hp.own FN 1 v12 (q.lst ++ [mn]), R, R7]) rfl) ?_
        rintro _ _ rfl
        refine Gx.done ?_
        refine Gx.blkN ?_
        refine Gx.thenN ?_
        refine Gx.front 5 rfl ?_
        refine Gx.front 3 rfl ?_
        refine Gx.sepEq (l' := [Hp.big entH (ks.set kk (mn, ⟨xm.b, { xm.e with hrd := true }⟩)), Hp.rec_ pb [.int .i64 ((pn : Nat) : Int), .map (some mb), v12], Hp.map Try.prog 3 natL vB mb ks, Hp.own FN 1 v12 (q.lst ++ [mn]), R]) (by show Hp.rec_ xm.b [.int .i64 ((xm.e.k / 8 : Nat) : Int), .int .i64 ((xm.e.k % 8 : Nat) : Int), .bool xm.e.fin, .bool true] * (R7 * _) = Hp.big entH (ks.set kk (mn, ⟨xm.b, { xm.e with hrd := true }⟩)) * _; rw [(hg9 (mn, ⟨xm.b, { xm.e with hrd := true }⟩))]; show _ = (Hp.rec_ xm.b [.int .i64 ((xm.e.k / 8 : Nat) : Int), .int .i64 ((xm.e.k % 8 : Nat) : Int), .bool xm.e.fin, .bool true] * R7) * _; simp only [Hp.mul_assoc] <;> rfl) ?_
        refine Gx.norm (l' := [Hp.big entH (ks.set kk (mn, ⟨xm.b, { xm.e with hrd := true }⟩)), Hp.rec_ pb [.int .i64 ((pn : Nat) : Int), .map (some mb), v12], Hp.map Try.prog 3 natL vB mb (ks.set kk (mn, ⟨xm.b, { xm.e with hrd := true }⟩)), Hp.own FN 1 v12 (q.lst ++ [mn]), R]) (by rw [show Hp.map Try.prog 3 natL vB mb (ks.set kk (mn, ⟨xm.b, { xm.e with hrd := true }⟩)) = Hp.map Try.prog 3 natL vB mb ks from mapB_set hkk rfl] <;> rfl) ?_
        refine Gx.front 4 rfl ?_
        refine Gx.front 4 rfl ?_
        refine Gx.front 2 rfl ?_
        refine Gx.front 4 rfl ?_
        refine Gx.front 4 rfl ?_
        exact Gx.round ((hear q mn xm.e), (ks.set kk (mn, ⟨xm.b, { xm.e with hrd := true }⟩)), v12) ⟨hK.put hkk, hD.hear hmin.1, fun z hz => hst z (Stl.go hmin hfin hz), hqn, by have := uh_set (y := ⟨xm.b, { xm.e with hrd := true }⟩) hkk hxh rfl; simp only [hear, List.length_append, List.length_singleton]; dsimp only at this ⊢; omega, hiv12⟩ (by have := uh_set (y := ⟨xm.b, { xm.e with hrd := true }⟩) hkk hxh rfl; dsimp only at this ⊢; omega) ((.cons rfl .nil)) rfl
  · refine Gx.norm (l' := [Hp.rec_ pb [.int .i64 ((pn : Nat) : Int), .map (some mb), cv], Hp.iterE Try.prog 3 natL vB natV mb r1 ks rs5 ka3 xv4, Hp.big entH ks, Hp.own FN 1 cv q.lst, R]) rfl ?_
    refine Gx.val rfl rfl rfl (val_extract rfl rfl rfl) ?_
    refine Gx.done ?_
    refine Gx.thenN ?_
    refine Gx.seq ?_
    refine Gx.t rfl ?_
    refine Gx.skip ?_
    refine Gx.thenN ?_
    refine Gx.block ?_
    refine Gx.seq ?_
    refine Gx.region ?_
    refine Gx.eff rfl rfl rfl (eff_entry rfl rfl (k := 1) rfl) ?_
    rintro _ _ ⟨rfl, rfl⟩
    refine Gx.norm (l' := [Hp.rec_ pb [.int .i64 ((pn : Nat) : Int), .map (some mb), cv], Hp.iter Try.prog 3 natL vB mb r1 ks rs5, Hp.big entH ks, Hp.own FN 1 cv q.lst, R]) rfl ?_
    refine Gx.val rfl rfl rfl (val_extract rfl rfl rfl) ?_
    refine Gx.val rfl rfl rfl (val_extract rfl rfl rfl) ?_
    refine Gx.val rfl rfl rfl (val_assign rfl rfl) ?_
    refine Gx.val rfl rfl rfl (val_assign rfl rfl) ?_
    refine Gx.done ?_
    refine Gx.thenN ?_
    refine Gx.seq ?_
    obtain ⟨s1, s2, s3, s4, s5⟩ := hsn.step hp6
    obtain ⟨ki, hki⟩ := List.getElem?_of_mem s3
    cases hhr : xv4.e.hrd with
    | true =>
      refine Gx.focus (n := 2) (k := ki) rfl hki (fun R13 hf14 hg15 => ?_)
      refine Gx.norm (l' := [Hp.rec_ pb [.int .i64 ((pn : Nat) : Int), .map (some mb), cv], Hp.iter Try.prog 3 natL vB mb r1 ks rs5, entH (ka3, xv4), Hp.own FN 1 cv q.lst, R, R13]) rfl ?_
      refine Gx.norm (l' := [Hp.rec_ pb [.int .i64 ((pn : Nat) : Int), .map (some mb), cv], Hp.iter Try.prog 3 natL vB mb r1 ks rs5, Hp.rec_ xv4.b [.int .i64 ((xv4.e.k / 8 : Nat) : Int), .int .i64 ((xv4.e.k % 8 : Nat) : Int), .bool xv4.e.fin, .bool xv4.e.hrd], Hp.own FN 1 cv q.lst, R, R13]) rfl ?_
      refine Gx.regionQ Try.mixed (by kernel_rfl) ?_
      refine Gq.val rfl rfl rfl (val_move rfl rfl) ?_
      refine Gq.val rfl rfl rfl (val_nilCheck rfl rfl) ?_
      refine Gq.val rfl rfl rfl (Val.cast (val_fieldAddr rfl Try.underlying55 rfl Try.ty4 rfl rfl) (v' := ptr xv4.b 3) rfl) ?_
      refine Gq.val rfl rfl rfl (val_load rfl Try.ty4 rfl rfl (cell_rec (k := 2) rfl rfl)) ?_
      refine Gq.val rfl rfl rfl (val_not rfl rfl) ?_
      refine Gq.val rfl rfl rfl (val_move rfl rfl) ?_
      refine Gq.slot (t := 20) (v := .bool false) (look_boolF rfl (by rw [hhr]; rfl)) ?_
      refine Gq.skipg rfl rfl rfl rfl rfl rfl ?_
      refine Gq.skipg rfl rfl rfl rfl rfl rfl ?_
      refine Gq.skipg rfl rfl rfl rfl rfl rfl ?_
      refine Gq.skipu rfl rfl rfl rfl rfl ?_
      refine Gq.skipu rfl rfl rfl rfl rfl ?_
      refine Gq.skipu rfl rfl rfl rfl rfl ?_
      refine Gq.skipu rfl rfl rfl rfl rfl ?_
      refine Gq.skipu rfl rfl rfl rfl rfl ?_
      refine Gq.skipu rfl rfl rfl rfl rfl ?_
      refine Gq.skipu rfl rfl rfl rfl rfl ?_
      refine Gq.skipu rfl rfl rfl rfl rfl ?_
      refine Gq.skipu rfl rfl rfl rfl rfl ?_
      refine Gq.skipu rfl rfl rfl rfl rfl ?_
      refine Gq.skipu rfl rfl rfl rfl rfl ?_
      refine Gq.skipu rfl rfl rfl rfl rfl ?_
      refine Gq.skipu rfl rfl rfl rfl rfl ?_
      refine Gq.skipu rfl rfl rfl rfl rfl ?_
      refine Gq.skipu rfl rfl rfl rfl rfl ?_
      refine Gq.skipg rfl rfl rfl rfl rfl rfl ?_
      refine Gq.val rfl rfl rfl (val_pickF rfl rfl rfl) ?_
      refine Gq.done ?_
      refine Gx.thenN ?_
      refine Gx.f rfl ?_
      refine Gx.skip ?_
      refine Gx.blkN ?_
      refine Gx.thenN ?_
      refine Gx.front 5 rfl ?_
      refine Gx.front 3 rfl ?_
      refine Gx.sepEq (l' := [Hp.big entH ks, Hp.rec_ pb [.int .i64 ((pn : Nat) : Int), .map (some mb), cv], Hp.iter Try.prog 3 natL vB mb r1 ks rs5, Hp.own FN 1 cv q.lst, R]) (by show Hp.rec_ xv4.b [.int .i64 ((xv4.e.k / 8 : Nat) : Int), .int .i64 ((xv4.e.k % 8 : Nat) : Int), .bool xv4.e.fin, .bool xv4.e.hrd] * (R13 * _) = Hp.big entH ks * _; rw [hf14]; show _ = (Hp.rec_ xv4.b [.int .i64 ((xv4.e.k / 8 : Nat) : Int), .int .i64 ((xv4.e.k % 8 : Nat) : Int), .bool xv4.e.fin, .bool xv4.e.hrd] * R13) * _; simp only [Hp.mul_assoc] <;> rfl) ?_
      refine Gx.front 4 rfl ?_
      refine Gx.front 4 rfl ?_
      refine Gx.front 2 rfl ?_
      refine Gx.front 4 rfl ?_
      refine Gx.front 4 rfl ?_
      exact Gx.round (rs5, bst) (hsn.skip hp6 hhr) (by have e9 := hp6.length_eq; simp only [List.length_cons] at e9; dsimp only at e9 ⊢; omega) ((.cons rfl (.cons rfl (.cons rfl .nil)))) rfl
    | false =>
      rcases hsn.val with rfl | ⟨mb', rfl⟩
      · refine Gx.know (m' := [(0, ptr pb 0), (9, ptr r1 0), (2, .int .i64 (-1)), (10, .tuple #[.bool true, .int .i64 ((ka3 : Nat) : Int), ptr xv4.b 0]), (11, .bool true), (12, .tuple #[.int .i64 ((ka3 : Nat) : Int), ptr xv4.b 0]), (13, .int .i64 ((ka3 : Nat) : Int)), (14, ptr xv4.b 0), (3, .int .i64 ((ka3 : Nat) : Int)), (4, ptr xv4.b 0)]) (.cons rfl (.cons rfl (.cons rfl (.cons rfl (.cons rfl (.cons rfl (.cons rfl (.cons rfl (.cons rfl (.cons rfl .nil)))))))))) (Gx.norm (l' := [Hp.rec_ pb [.int .i64 ((pn : Nat) : Int), .map (some mb), cv], Hp.iter Try.prog 3 natL vB mb r1 ks rs5, Hp.big entH ks, Hp.own FN 1 cv q.lst, R]) rfl ?_)
        refine Gx.focus (n := 2) (k := ki) rfl hki (fun R16 hf17 hg18 => ?_)
        refine Gx.norm (l' := [Hp.rec_ pb [.int .i64 ((pn : Nat) : Int), .map (some mb), cv], Hp.iter Try.prog 3 natL vB mb r1 ks rs5, entH (ka3, xv4), Hp.own FN 1 cv q.lst, R, R16]) rfl ?_
        refine Gx.norm (l' := [Hp.rec_ pb [.int .i64 ((pn : Nat) : Int), .map (some mb), cv], Hp.iter Try.prog 3 natL vB mb r1 ks rs5, Hp.rec_ xv4.b [.int .i64 ((xv4.e.k / 8 : Nat) : Int), .int .i64 ((xv4.e.k % 8 : Nat) : Int), .bool xv4.e.fin, .bool xv4.e.hrd], Hp.own FN 1 cv q.lst, R, R16]) rfl ?_
        refine Gx.regionQ Try.mixed (by kernel_rfl) ?_
        refine Gq.val rfl rfl rfl (val_move rfl rfl) ?_
        refine Gq.val rfl rfl rfl (val_nilCheck rfl rfl) ?_
        refine Gq.val rfl rfl rfl (Val.cast (val_fieldAddr rfl Try.underlying55 rfl Try.ty4 rfl rfl) (v' := ptr xv4.b 3) rfl) ?_
        refine Gq.val rfl rfl rfl (val_load rfl Try.ty4 rfl rfl (cell_rec (k := 2) rfl rfl)) ?_
        refine Gq.val rfl rfl rfl (val_not rfl rfl) ?_
        refine Gq.val rfl rfl rfl (val_move rfl rfl) ?_
        refine Gq.slot (t := 20) (v := .bool true) (look_boolT rfl (by rw [hhr]; rfl)) ?_
        refine Gq.valg rfl rfl rfl rfl rfl (val_move rfl rfl) ?_
        refine Gq.valg rfl rfl rfl rfl rfl (Val.cast (val_lss rfl rfl rfl) (v' := .bool true) rfl) ?_
        refine Gq.valg rfl rfl rfl rfl rfl (val_move rfl rfl) ?_
        refine Gq.skipg rfl rfl rfl rfl rfl rfl ?_
        refine Gq.skipg rfl rfl rfl rfl rfl rfl ?_
        refine Gq.skipg rfl rfl rfl rfl rfl rfl ?_
        refine Gq.skipg rfl rfl rfl rfl rfl rfl ?_
        refine Gq.skipg rfl rfl rfl rfl rfl rfl ?_
        refine Gq.skipg rfl rfl rfl rfl rfl rfl ?_
        refine Gq.skipg rfl rfl rfl rfl rfl rfl ?_
        refine Gq.skipg rfl rfl rfl rfl rfl rfl ?_
        refine Gq.skipg rfl rfl rfl rfl rfl rfl ?_
        refine Gq.skipg rfl rfl rfl rfl rfl rfl ?_
        refine Gq.skipg rfl rfl rfl rfl rfl rfl ?_
        refine Gq.skipg rfl rfl rfl rfl rfl rfl ?_
        refine Gq.skipg rfl rfl rfl rfl rfl rfl ?_
        refine Gq.skipg rfl rfl rfl rfl rfl rfl ?_
        refine Gq.skipg rfl rfl rfl rfl rfl rfl ?_
        refine Gq.valg rfl rfl rfl rfl rfl (val_pickT rfl rfl rfl) ?_
        refine Gq.val rfl rfl rfl (val_pickT rfl rfl rfl) ?_
        refine Gq.done ?_
        refine Gx.thenN ?_
        refine Gx.t rfl ?_
        refine Gx.region ?_
        refine Gx.val rfl rfl rfl (val_move rfl rfl) ?_
        refine Gx.val rfl rfl rfl (val_assign rfl rfl) ?_
        refine Gx.done ?_
        refine Gx.blkN ?_
        refine Gx.thenN ?_
        refine Gx.front 5 rfl ?_
        refine Gx.front 3 rfl ?_
        refine Gx.sepEq (l' := [Hp.big entH ks, Hp.rec_ pb [.int .i64 ((pn : Nat) : Int), .map (some mb), cv], Hp.iter Try.prog 3 natL vB mb r1 ks rs5, Hp.own FN 1 cv q.lst, R]) (by show Hp.rec_ xv4.b [.int .i64 ((xv4.e.k / 8 : Nat) : Int), .int .i64 ((xv4.e.k % 8 : Nat) : Int), .bool xv4.e.fin, .bool xv4.e.hrd] * (R16 * _) = Hp.big entH ks * _; rw [hf17]; show _ = (Hp.rec_ xv4.b [.int .i64 ((xv4.e.k / 8 : Nat) : Int), .int .i64 ((xv4.e.k % 8 : Nat) : Int), .bool xv4.e.fin, .bool xv4.e.hrd] * R16) * _; simp only [Hp.mul_assoc] <;> rfl) ?_
        refine Gx.front 4 rfl ?_
        refine Gx.front 4 rfl ?_
        refine Gx.front 2 rfl ?_
        refine Gx.front 4 rfl ?_
        refine Gx.front 4 rfl ?_
        exact Gx.round (rs5, ((ka3 : Nat) : Int)) (hsn.first hp6 hhr) (by have e9 := hp6.length_eq; simp only [List.length_cons] at e9; dsimp only at e9 ⊢; omega) ((.cons rfl (.cons rfl (.cons rfl .nil)))) rfl
      · refine Gx.know (m' := [(0, ptr pb 0), (9, ptr r1 0), (2, .int .i64 ((mb' : Nat) : Int)), (10, .tuple #[.bool true, .int .i64 ((ka3 : Nat) : Int), ptr xv4.b 0]), (11, .bool true), (12, .tuple #[.int .i64 ((ka3 : Nat) : Int), ptr xv4.b 0]), (13, .int .i64 ((ka3 : Nat) : Int)), (14, ptr xv4.b 0), (3, .int .i64 ((ka3 : Nat) : Int)), (4, ptr xv4.b 0)]) (.cons rfl (.cons rfl (.cons rfl (.cons rfl (.cons rfl (.cons rfl (.cons rfl (.cons rfl (.cons rfl (.cons rfl .nil)))))))))) ?_
        obtain ⟨xb, hxb, hxl, hxf⟩ := hsn.of hK
        obtain ⟨kj, hkj⟩ := List.getElem?_of_mem hxb
        have hne : ki ≠ kj := fun e => by subst e; rw [hki] at hkj; cases hkj; exact hxl s5
        obtain ⟨R2, hR2⟩ := big_two (p := entH) hki hkj hne
        refine Gx.front 2 rfl ?_
        refine Gx.sepEq (l' := [Hp.rec_ xv4.b [.int .i64 ((xv4.e.k / 8 : Nat) : Int), .int .i64 ((xv4.e.k % 8 : Nat) : Int), .bool xv4.e.fin, .bool xv4.e.hrd], Hp.rec_ xb.b [.int .i64 ((xb.e.k / 8 : Nat) : Int), .int .i64 ((xb.e.k % 8 : Nat) : Int), .bool xb.e.fin, .bool xb.e.hrd], R2, Hp.rec_ pb [.int .i64 ((pn : Nat) : Int), .map (some mb), cv], Hp.iter Try.prog 3 natL vB mb r1 ks rs5, Hp.own FN 1 cv q.lst, R]) (by show Hp.big entH ks * _ = Hp.rec_ xv4.b [.int .i64 ((xv4.e.k / 8 : Nat) : Int), .int .i64 ((xv4.e.k % 8 : Nat) : Int), .bool xv4.e.fin, .bool xv4.e.hrd] * (Hp.rec_ xb.b [.int .i64 ((xb.e.k / 8 : Nat) : Int), .int .i64 ((xb.e.k % 8 : Nat) : Int), .bool xb.e.fin, .bool xb.e.hrd] * (R2 * _)); rw [hR2]; show Hp.rec_ xv4.b [.int .i64 ((xv4.e.k / 8 : Nat) : Int), .int .i64 ((xv4.e.k % 8 : Nat) : Int), .bool xv4.e.fin, .bool xv4.e.hrd] * (Hp.rec_ xb.b [.int .i64 ((xb.e.k / 8 : Nat) : Int), .int .i64 ((xb.e.k % 8 : Nat) : Int), .bool xb.e.fin, .bool xb.e.hrd] * R2) * _ = _; simp only [Hp.mul_assoc]; rfl) ?_
        refine Gx.regionQ Try.mixed (by kernel_rfl) ?_
        refine Gq.val rfl rfl rfl (val_move rfl rfl) ?_
        refine Gq.val rfl rfl rfl (val_nilCheck rfl rfl) ?_
        refine Gq.val rfl rfl rfl (Val.cast (val_fieldAddr rfl Try.underlying55 rfl Try.ty4 rfl rfl) (v' := ptr xv4.b 3) rfl) ?_
        refine Gq.val rfl rfl rfl (val_load rfl Try.ty4 rfl rfl (cell_rec (k := 0) rfl rfl)) ?_
        refine Gq.val rfl rfl rfl (val_not rfl rfl) ?_
        refine Gq.val rfl rfl rfl (val_move rfl rfl) ?_
        refine Gq.slot (t := 20) (v := .bool true) (look_boolT rfl (by rw [hhr]; rfl)) ?_
        refine Gq.valg rfl rfl rfl rfl rfl (val_move rfl rfl) ?_
        refine Gq.valg rfl rfl rfl rfl rfl (val_lss rfl rfl rfl) ?_
        refine Gq.valg rfl rfl rfl rfl rfl (val_move rfl rfl) ?_
        refine Gq.slot (t := 23) (v := .bool false) (look_decF rfl (by omega)) ?_
        refine Gq.valg rfl rfl rfl rfl rfl (val_move rfl rfl) ?_
        refine Gq.valg rfl rfl rfl rfl rfl (val_nilCheck rfl rfl) ?_
        refine Gq.valg rfl rfl rfl rfl rfl (Val.cast (val_fieldAddr rfl Try.underlying55 rfl Try.ty53 rfl rfl) (v' := ptr xv4.b 0) rfl) ?_
        refine Gq.valg rfl rfl rfl rfl rfl (Val.cast (val_loadA rfl Try.ty53 rfl rfl (us := [.int .i64 ((xv4.e.k / 8 : Nat) : Int), .int .i64 ((xv4.e.k % 8 : Nat) : Int)]) rfl (cells_rec_at (k := 0) (i := 0) (n := 2) rfl rfl)) (v' := .agg #[.int .i64 ((xv4.e.k / 8 : Nat) : Int), .int .i64 ((xv4.e.k % 8 : Nat) : Int)]) rfl) ?_
        refine Gq.valg rfl rfl rfl rfl rfl (val_move rfl rfl) ?_
        refine Gq.valg rfl rfl rfl rfl rfl (val_nilCheck rfl rfl) ?_
        refine Gq.valg rfl rfl rfl rfl rfl (Val.cast (val_fieldAddr rfl Try.underlying47 rfl Try.ty45 rfl rfl) (v' := ptr pb 1) rfl) ?_
        refine Gq.valg rfl rfl rfl rfl rfl (val_load rfl Try.ty45 rfl rfl (cell_rec (k := 3) rfl rfl)) ?_
        refine Gq.valg rfl rfl rfl rfl rfl (val_move rfl rfl) ?_
        refine Gq.valg rfl rfl rfl rfl rfl (val_lookup1I rfl Try.underlying45 Try.kN Try.ty50 rfl rfl (i := mb') (hK.small _ hxb) (k := 4) rfl (r := ptr xb.b 0) (by rw [(hK.mem hxb).2]; rfl)) ?_
        refine Gq.valg rfl rfl rfl rfl rfl (val_nilCheck rfl rfl) ?_
        refine Gq.valg rfl rfl rfl rfl rfl (Val.cast (val_fieldAddr rfl Try.underlying55 rfl Try.ty53 rfl rfl) (v' := ptr xb.b 0) rfl) ?_
        refine Gq.valg rfl rfl rfl rfl rfl (Val.cast (val_loadA rfl Try.ty53 rfl rfl (us := [.int .i64 ((xb.e.k / 8 : Nat) : Int), .int .i64 ((xb.e.k % 8 : Nat) : Int)]) rfl (cells_rec_at (k := 1) (i := 0) (n := 2) rfl rfl)) (v' := .agg #[.int .i64 ((xb.e.k / 8 : Nat) : Int), .int .i64 ((xb.e.k % 8 : Nat) : Int)]) rfl) ?_
        refine Gq.valg rfl rfl rfl rfl rfl (val_call (vs := [.agg #[.int .i64 ((xv4.e.k / 8 : Nat) : Int), .int .i64 ((xv4.e.k % 8 : Nat) : Int)], .agg #[.int .i64 ((xb.e.k / 8 : Nat) : Int), .int .i64 ((xb.e.k % 8 : Nat) : Int)]]) rfl Try.fn18 rfl (fun w H => comp_any xv4.e.k xb.e.k)) ?_
        refine Gq.valg rfl rfl rfl rfl rfl (val_lss rfl rfl rfl) ?_
        refine Gq.valg rfl rfl rfl rfl rfl (val_pickF rfl rfl rfl) ?_
        refine Gq.val rfl rfl rfl (val_pickT rfl rfl rfl) ?_
        refine Gq.done ?_
        refine Gx.thenN ?_
        refine Gx.dec rfl (fun h19 => ?_) (fun h19 => ?_)
        · refine Gx.region ?_
          refine Gx.val rfl rfl rfl (val_move rfl rfl) ?_
          refine Gx.val rfl rfl rfl (val_assign rfl rfl) ?_
          refine Gx.done ?_
          refine Gx.blkN ?_
          refine Gx.thenN ?_
          refine Gx.front 2 rfl ?_
          refine Gx.front 2 rfl ?_
          refine Gx.front 2 rfl ?_
          refine Gx.sepEq (l' := [Hp.big entH ks, Hp.rec_ pb [.int .i64 ((pn : Nat) : Int), .map (some mb), cv], Hp.iter Try.prog 3 natL vB mb r1 ks rs5, Hp.own FN 1 cv q.lst, R]) (by show Hp.rec_ xv4.b [.int .i64 ((xv4.e.k / 8 : Nat) : Int), .int .i64 ((xv4.e.k % 8 : Nat) : Int), .bool xv4.e.fin, .bool xv4.e.hrd] * (Hp.rec_ xb.b [.int .i64 ((xb.e.k / 8 : Nat) : Int), .int .i64 ((xb.e.k % 8 : Nat) : Int), .bool xb.e.fin, .bool xb.e.hrd] * (R2 * _)) = Hp.big entH ks * _; rw [hR2]; show _ = Hp.rec_ xv4.b [.int .i64 ((xv4.e.k / 8 : Nat) : Int), .int .i64 ((xv4.e.k % 8 : Nat) : Int), .bool xv4.e.fin, .bool xv4.e.hrd] * (Hp.rec_ xb.b [.int .i64 ((xb.e.k / 8 : Nat) : Int), .int .i64 ((xb.e.k % 8 : Nat) : Int), .bool xb.e.fin, .bool xb.e.hrd] * R2) * _; simp only [Hp.mul_assoc]; rfl) ?_
          refine Gx.front 4 rfl ?_
          refine Gx.front 4 rfl ?_
          refine Gx.front 2 rfl ?_
          refine Gx.front 4 rfl ?_
          refine Gx.front 4 rfl ?_
          exact Gx.round (rs5, ((ka3 : Nat) : Int)) (Seen.less hK hsn hp6 hhr hxb (cmpI_neg.1 h19)) (by have e9 := hp6.length_eq; simp only [List.length_cons] at e9; dsimp only at e9 ⊢; omega) ((.cons rfl (.cons rfl (.cons rfl .nil)))) rfl
        · refine Gx.skip ?_
          refine Gx.blkN ?_
          refine Gx.thenN ?_
          refine Gx.front 2 rfl ?_
          refine Gx.front 2 rfl ?_
          refine Gx.front 2 rfl ?_
          refine Gx.sepEq (l' := [Hp.big entH ks, Hp.rec_ pb [.int .i64 ((pn : Nat) : Int), .map (some mb), cv], Hp.iter Try.prog 3 natL vB mb r1 ks rs5, Hp.own FN 1 cv q.lst, R]) (by show Hp.rec_ xv4.b [.int .i64 ((xv4.e.k / 8 : Nat) : Int), .int .i64 ((xv4.e.k % 8 : Nat) : Int), .bool xv4.e.fin, .bool xv4.e.hrd] * (Hp.rec_ xb.b [.int .i64 ((xb.e.k / 8 : Nat) : Int), .int .i64 ((xb.e.k % 8 : Nat) : Int), .bool xb.e.fin, .bool xb.e.hrd] * (R2 * _)) = Hp.big entH ks * _; rw [hR2]; show _ = Hp.rec_ xv4.b [.int .i64 ((xv4.e.k / 8 : Nat) : Int), .int .i64 ((xv4.e.k % 8 : Nat) : Int), .bool xv4.e.fin, .bool xv4.e.hrd] * (Hp.rec_ xb.b [.int .i64 ((xb.e.k / 8 : Nat) : Int), .int .i64 ((xb.e.k % 8 : Nat) : Int), .bool xb.e.fin, .bool xb.e.hrd] * R2) * _; simp only [Hp.mul_assoc]; rfl) ?_
          refine Gx.front 4 rfl ?_
          refine Gx.front 4 rfl ?_
          refine Gx.front 2 rfl ?_
          refine Gx.front 4 rfl ?_
          refine Gx.front 4 rfl ?_
          exact Gx.round (rs5, ((mb' : Nat) : Int)) (Seen.keep hK hD hsn hp6 hxb (mt cmpI_neg.2 h19)) (by have e9 := hp6.length_eq; simp only [List.length_cons] at e9; dsimp only at e9 ⊢; omega) ((.cons rfl (.cons rfl (.cons rfl .nil)))) rfl

theorem settle_c {W w : World} {pb mb L : Nat} {p : Pt} {ks0 : Ks} {pv : Value} {R : Hp} (hK0 : KOk L ks0 p.got) (hD0 : DK p.got) (hL : L ≤ 1000) (hll : p.lst.length ≤ 100000) (H : Sat W w (Hp.rec_ pb [.int .i64 ((p.n : Nat) : Int), .map (some mb), pv] * (mapB mb ks0 * (Hp.big entH ks0 * (Hp.own FN 1 pv p.lst * R))))) :
    Calls Try.prog 17 #[ptr pb 0] w (Ret W fun v l => ∃ (q : Pt) (ks : Ks) (cv : Value), Stl p q ∧ KOk L ks q.got ∧ v = .tuple #[] ∧ sep l = Hp.rec_ pb [.int .i64 ((q.n : Nat) : Int), .map (some mb), cv] * (mapB mb ks * (Hp.big entH ks * (Hp.own FN 1 cv q.lst * R)))) := by
  have e4 : ∀ a b c d R : Hp, sep [a, b, c, d, R] = a * (b * (c * (d * R))) := fun a b c d R => by show a * (b * (c * (d * (R * 1)))) = _; rw [Hp.mul_one]
  have hIs : IsS pv := isS_own (f := FN) (sz := 1) (xs := p.lst) (R := Hp.rec_ pb [.int .i64 ((p.n : Nat) : Int), .map (some mb), pv] * (mapB mb ks0 * (Hp.big entH ks0 * R))) (H.cast (by ac_rfl))
  refine (settle_raw (pn := p.n) (R := R) hK0 hD0 hL hll hIs (H.cast (e4 ..).symm)).mono ?_
  rintro e w' ⟨v, l, he, ⟨q, ks, cv, h1, h2, h3, h4, h5⟩, H'⟩
  exact ⟨v, l, he, ⟨q, ks, cv, h1, h2, h4, by rw [h5, e4, h3]⟩, H'⟩
theorem final_c {W w : World} {S L mm : Nat} {s : TS} {pv : Value} {pms : List Pm} {R : Hp} (hok : WOk L pms s) (hmm : mm < 4611686018427387904) (hl : pms.length ≤ 6) (H : Sat W w (Hp.rec_ S [pv, .int .i64 ((s.many : Nat) : Int)] * (Hp.own FP 1 pv (pms.map Pm.b) * (Hp.big procH pms * R)))) :
    Calls Try.prog 16 #[ptr S 0, .int .i64 ((mm : Nat) : Int)] w (Ret W fun v l => v = finV (finalT s.ps mm 0) ∧ sep l = Hp.rec_ S [pv, .int .i64 ((s.many : Nat) : Int)] * (Hp.own FP 1 pv (pms.map Pm.b) * (Hp.big procH pms * R))) :=
  (final_any hok hmm hl (H.cast (sep3R ..).symm)).mono fun e w' ⟨v, l, he, ⟨hv, hl⟩, H'⟩ => ⟨v, l, he, ⟨hv, hl.trans (sep3R ..)⟩, H'⟩
end Go.Proofs.Ytfpdbgalannalaa
