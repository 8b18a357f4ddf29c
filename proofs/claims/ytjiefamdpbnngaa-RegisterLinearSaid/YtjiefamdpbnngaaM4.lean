/- What is stored, and who has finished. In plain words. No condition. -/
import Derived.Test.YtjiefamdpbnngaaM3
namespace Go.Proofs.Ytjiefamdpbnngaa
open Go.RowKit
set_option linter.unusedVariables false
set_option linter.unusedSimpArgs false
set_option maxRecDepth 100000

/-! the order of what is stored -/
def stp (s : Sd) : Nat := s.n * 4 + s.who
theorem later_iff {s t : Sd} (hs : s.who < 4) (ht : t.who < 4) : later s t = true ↔ stp t < stp s := by
  unfold later stp
  rw [decide_eq_true_iff]; omega
def atS (cs : List Sd) (i : Nat) : Nat := stp (cs.getD i sd0)
theorem atS_of {cs : List Sd} {i : Nat} {c : Sd} (h : cs[i]? = some c) : atS cs i = stp c := by unfold atS; rw [List.getD_eq_getElem?_getD, h]; rfl
def Src (ops : List Oq) (x : Sd) : Prop := x = sd0 ∨ ∃ (j : Nat) (b : Oq), ops[j]? = some b ∧ b.wr = true ∧ b.sec = true ∧ b.best = x
structure LJ (n : Nat) (cs : List Sd) (ops : List Oq) : Prop where
  cw : ∀ (i : Nat) (c : Sd), cs[i]? = some c → c.who < 4
  bw : ∀ (k : Nat) (o : Oq), ops[k]? = some o → o.best.who < 4
  csrc : ∀ (i : Nat) (c : Sd), cs[i]? = some c → Src ops c
  bsrc : ∀ (k : Nat) (o : Oq), ops[k]? = some o → Src ops o.best
  wv : ∀ (k : Nat) (o : Oq), ops[k]? = some o → o.wr = true → o.sec = true → o.best.val = o.val ∧ o.best.who = o.who ∧ 1 ≤ o.best.n
  rv : ∀ (k : Nat) (o : Oq), ops[k]? = some o → o.wr = false → 0 ≤ o.to → o.val = o.best.val
  dn : ∀ (k : Nat) (o : Oq), ops[k]? = some o → 0 ≤ o.to → o.sec = true
  maj : ∀ (j : Nat) (b : Oq), ops[j]? = some b → 0 ≤ b.to → n < 2 * cp (fun i => decide (stp b.best ≤ atS cs i)) n
  hold : ∀ (k : Nat) (o : Oq), ops[k]? = some o → o.sec = true → o.to < 0 → ∀ i ∈ o.seen, stp o.best ≤ atS cs i
  q : ∀ (k j : Nat) (o b : Oq), ops[k]? = some o → o.sec = false → ops[j]? = some b → 0 ≤ b.to → b.to < o.frm → ∃ Q : Nat → Bool, n < 2 * cp Q n ∧ ∀ i, i < n → Q i = true → stp b.best ≤ atS cs i ∧ (i ∈ o.seen → stp b.best ≤ stp o.best)
  le : ∀ (k j : Nat) (o b : Oq), ops[k]? = some o → o.sec = true → ops[j]? = some b → 0 ≤ b.to → b.to < o.frm → stp b.best ≤ stp o.best ∧ (o.wr = true → stp b.best < stp o.best)
  fr : ∀ (k j : Nat) (o b : Oq), ops[k]? = some o → ops[j]? = some b → k < j → o.frm < b.frm
  two : ∀ (k j : Nat) (o b : Oq), ops[k]? = some o → ops[j]? = some b → k ≠ j → o.who = b.who → (0 ≤ o.to ∧ o.to < b.frm) ∨ (0 ≤ b.to ∧ b.to < o.frm)
  tt : ∀ (k : Nat) (o : Oq), ops[k]? = some o → o.to = -1 ∨ (o.frm : Int) < o.to
theorem LJ.zero (n : Nat) : LJ n (List.replicate n sd0) [] := by
  have hc : ∀ (i : Nat) (c : Sd), (List.replicate n sd0)[i]? = some c → c = sd0 := fun i c h => by
    rw [List.getElem?_replicate] at h
    split at h
    · cases h; rfl
    · cases h
  refine ⟨fun i c h => by rw [hc i c h]; decide, fun k o h => by simp at h, fun i c h => .inl (hc i c h), fun k o h => by simp at h, fun k o h => by simp at h, fun k o h => by simp at h, fun k o h => by simp at h, fun k o h => by simp at h, fun k o h => by simp at h, fun k j o b h => by simp at h, fun k j o b h => by simp at h, fun k j o b h => by simp at h, fun k j o b h => by simp at h, fun k o h => by simp at h⟩
/-- a copy takes what is later -/
theorem storeJ_at {cs : List Sd} {i : Nat} {x : Sd} (hw : ∀ (i : Nat) (c : Sd), cs[i]? = some c → c.who < 4) (hx : x.who < 4) (j : Nat) : atS cs j ≤ atS (storeR cs i x) j := by
  unfold storeR
  cases h : cs[i]? with
  | none => exact Nat.le_refl _
  | some c =>
    dsimp only
    split
    · rename_i hl
      have hl' := (later_iff hx (hw i c h)).1 hl
      by_cases e : i = j
      · subst e
        rw [atS_of h, atS_of (List.getElem?_set_self (List.getElem?_eq_some_iff.1 h).1)]; omega
      · unfold atS
        rw [getD_other e]; exact Nat.le_refl _
    · exact Nat.le_refl _
theorem store_self {cs : List Sd} {i : Nat} {x : Sd} (hw : ∀ (i : Nat) (c : Sd), cs[i]? = some c → c.who < 4) (hx : x.who < 4) (hi : i < cs.length) : stp x ≤ atS (storeR cs i x) i := by
  unfold storeR
  obtain ⟨c, h⟩ := get_of_lt hi
  rw [h]
  dsimp only
  split
  · rw [atS_of (List.getElem?_set_self hi)]; exact Nat.le_refl _
  · rename_i hl
    rw [atS_of h]
    have := mt (later_iff hx (hw i c h)).2 hl
    omega
theorem cp_mono {p q : Nat → Bool} (h : ∀ i, p i = true → q i = true) : ∀ n, cp p n ≤ cp q n
  | 0 => Nat.le_refl _
  | n + 1 => by
    have ih := cp_mono h n
    simp only [cp]
    by_cases e : p n = true
    · rw [if_pos e, if_pos (h n e)]; omega
    · rw [if_neg e]; split <;> omega
theorem LJ.store {n i : Nat} {x : Sd} {cs : List Sd} {ops : List Oq} (h : LJ n cs ops) (hx : x.who < 4) (hs : Src ops x) : LJ n (storeR cs i x) ops := by
  have hm := storeJ_at (i := i) h.cw hx
  refine ⟨fun j c hc => ?_, h.bw, fun j c hc => ?_, h.bsrc, h.wv, h.rv, h.dn, fun j b hb h0 => ?_, fun k o ho h1 h2 j hj => Nat.le_trans (h.hold k o ho h1 h2 j hj) (hm j), fun k j o b ho hsec hb h0 hlt => ?_, h.le, h.fr, h.two, h.tt⟩
  · rcases store_get hc with e | ⟨_, e⟩
    · exact h.cw j c e
    · rw [e]; exact hx
  · rcases store_get hc with e | ⟨_, e⟩
    · exact h.csrc j c e
    · rw [e]; exact hs
  · have h1 := h.maj j b hb h0
    have h2 := cp_mono (p := fun i => decide (stp b.best ≤ atS cs i)) (q := fun j => decide (stp b.best ≤ atS (storeR cs i x) j)) (fun j hj => decide_eq_true (Nat.le_trans (of_decide_eq_true hj) (hm j))) n
    omega
  · obtain ⟨Q, h1, h2⟩ := h.q k j o b ho hsec hb h0 hlt
    exact ⟨Q, h1, fun i hi hq => ⟨Nat.le_trans (h2 i hi hq).1 (hm i), (h2 i hi hq).2⟩⟩
theorem LJ.begin {n m c : Nat} {wr : Bool} {val : Int} {s : RS} (inv : InvR n m s) (h : LJ n s.cs s.ops) (hn : s.now.getD c none = none) (hc : c < 4) : LJ n s.cs (s.ops ++ [newO c wr val m]) := by
  have hcase : ∀ {k : Nat} {o : Oq}, (s.ops ++ [newO c wr val m])[k]? = some o → s.ops[k]? = some o ∨ (k = s.ops.length ∧ o = newO c wr val m) := fun {k o} hk => by
    rcases Nat.lt_or_ge k s.ops.length with hl | hl
    · left; rwa [List.getElem?_append_left hl] at hk
    · rw [List.getElem?_append_right hl] at hk
      have h0 : k - s.ops.length = 0 := by
        have := (List.getElem?_eq_some_iff.1 hk).1
        simp at this; omega
      rw [h0] at hk
      simp at hk
      exact .inr ⟨by omega, hk.symm⟩
  have hsrc : ∀ {x : Sd}, Src s.ops x → Src (s.ops ++ [newO c wr val m]) x := fun hx => by
    rcases hx with e | ⟨j, b, hb, h1⟩
    · exact .inl e
    · exact .inr ⟨j, b, by rw [List.getElem?_append_left (List.getElem?_eq_some_iff.1 hb).1]; exact hb, h1⟩
  refine ⟨h.cw, fun k o ho => ?_, fun i x hx => hsrc (h.csrc i x hx), fun k o ho => ?_, fun k o ho h1 h2 => ?_, fun k o ho h1 h2 => ?_, fun k o ho h1 => ?_, fun j b hb h0 => ?_, fun k o ho h1 h2 => ?_, fun k j o b ho h1 hb h2 h3 => ?_, fun k j o b ho h1 hb h2 h3 => ?_, fun k j o b ho hb hkj => ?_, fun k j o b ho hb hkj hw => ?_, fun k o ho => ?_⟩
  · rcases hcase ho with e | ⟨_, rfl⟩
    · exact h.bw k o e
    · exact (by decide : (0 : Nat) < 4)
  · rcases hcase ho with e | ⟨_, rfl⟩
    · exact hsrc (h.bsrc k o e)
    · exact .inl rfl
  · rcases hcase ho with e | ⟨_, rfl⟩
    · exact h.wv k o e h1 h2
    · cases h2
  · rcases hcase ho with e | ⟨_, rfl⟩
    · exact h.rv k o e h1 h2
    · exact absurd h2 (by decide : ¬ (0 : Int) ≤ -1)
  · rcases hcase ho with e | ⟨_, rfl⟩
    · exact h.dn k o e h1
    · exact absurd h1 (by decide : ¬ (0 : Int) ≤ -1)
  · rcases hcase hb with e | ⟨_, rfl⟩
    · exact h.maj j b e h0
    · exact absurd h0 (by decide : ¬ (0 : Int) ≤ -1)
  · rcases hcase ho with e | ⟨_, rfl⟩
    · exact h.hold k o e h1 h2
    · cases h1
  · rcases hcase hb with e | ⟨_, rfl⟩
    · rcases hcase ho with e' | ⟨_, rfl⟩
      · exact h.q k j o b e' h1 e h2 h3
      · exact ⟨_, h.maj j b e h2, fun i _ hq => ⟨of_decide_eq_true hq, fun hm => by cases hm⟩⟩
    · exact absurd h2 (by decide : ¬ (0 : Int) ≤ -1)
  · rcases hcase hb with e | ⟨_, rfl⟩
    · rcases hcase ho with e' | ⟨_, rfl⟩
      · exact h.le k j o b e' h1 e h2 h3
      · cases h1
    · exact absurd h2 (by decide : ¬ (0 : Int) ≤ -1)
  · rcases hcase ho with e | ⟨rfl, rfl⟩
    · rcases hcase hb with e' | ⟨_, rfl⟩
      · exact h.fr k j o b e e' hkj
      · exact (inv.old k o e).2.2.2.1
    · rcases hcase hb with e' | ⟨rfl, rfl⟩
      · have := (List.getElem?_eq_some_iff.1 e').1; omega
      · omega
  · have key : ∀ {k : Nat} {o : Oq}, s.ops[k]? = some o → o.who = c → 0 ≤ o.to ∧ o.to < (m : Int) := fun {k o} ho hw => by
      refine ⟨Classical.byContradiction fun hlt => ?_, (inv.old k o ho).2.1⟩
      have := (inv.live k o ho (by omega)).1
      rw [hw] at this
      rw [List.getD_eq_getElem?_getD, this] at hn
      cases hn
    rcases hcase ho with e | ⟨rfl, rfl⟩
    · rcases hcase hb with e' | ⟨_, rfl⟩
      · exact h.two k j o b e e' hkj hw
      · exact .inl (key e hw)
    · rcases hcase hb with e' | ⟨rfl, rfl⟩
      · exact .inr (key e' hw.symm)
      · exact absurd rfl hkj
  · rcases hcase ho with e | ⟨_, rfl⟩
    · exact h.tt k o e
    · exact .inl rfl
theorem set_cases {α : Type} {l : List α} {k j : Nat} {o x y : α} (hk : l[k]? = some o) (h : (l.set k x)[j]? = some y) : (j = k ∧ y = x) ∨ (j ≠ k ∧ l[j]? = some y) := by
  by_cases e : k = j
  · subst e
    rw [List.getElem?_set_self (List.getElem?_eq_some_iff.1 hk).1] at h
    cases h; exact .inl ⟨rfl, rfl⟩
  · rw [List.getElem?_set_ne e] at h; exact .inr ⟨fun q => e q.symm, h⟩
theorem Src.set {ops : List Oq} {k : Nat} {o o' : Oq} {x : Sd} (hk : ops[k]? = some o) (hs : o.sec = true → o'.wr = o.wr ∧ o'.sec = true ∧ o'.best = o.best) : Src ops x → Src (ops.set k o') x
  | .inl e => .inl e
  | .inr ⟨j, b, hb, h1, h2, h3⟩ => by
    right
    by_cases e : k = j
    · subst e
      cases hk.symm.trans hb
      obtain ⟨g1, g2, g3⟩ := hs h2
      exact ⟨k, o', List.getElem?_set_self (List.getElem?_eq_some_iff.1 hk).1, g1.trans h1, g2, g3.trans h3⟩
    · exact ⟨j, b, by rw [List.getElem?_set_ne e]; exact hb, h1, h2, h3⟩
/-- one live op changes -/
theorem LJ.upd {n k : Nat} {cs : List Sd} {ops : List Oq} {o o' : Oq} (h : LJ n cs ops) (hk : ops[k]? = some o) (hto : o.to < 0)
    (e1 : o'.who = o.who) (e2 : o'.wr = o.wr) (e3 : o'.frm = o.frm) (hs : o.sec = true → o'.sec = true ∧ o'.best = o.best)
    (hbw : o'.best.who < 4) (hbs : Src (ops.set k o') o'.best) (hwv : o'.wr = true → o'.sec = true → o'.best.val = o'.val ∧ o'.best.who = o'.who ∧ 1 ≤ o'.best.n)
    (hend : o'.to = -1 ∨ (o'.sec = true ∧ (o'.frm : Int) < o'.to ∧ (∀ (j : Nat) (b : Oq), ops[j]? = some b → (b.frm : Int) ≤ o'.to) ∧ (o'.wr = false → o'.val = o'.best.val) ∧ n < 2 * cp (fun i => decide (stp o'.best ≤ atS cs i)) n))
    (hhold : o'.sec = true → o'.to < 0 → ∀ i ∈ o'.seen, stp o'.best ≤ atS cs i)
    (hq : o'.sec = false → ∀ (j : Nat) (b : Oq), ops[j]? = some b → 0 ≤ b.to → b.to < o'.frm → ∃ Q : Nat → Bool, n < 2 * cp Q n ∧ ∀ i, i < n → Q i = true → stp b.best ≤ atS cs i ∧ (i ∈ o'.seen → stp b.best ≤ stp o'.best))
    (hle : o'.sec = true → ∀ (j : Nat) (b : Oq), ops[j]? = some b → 0 ≤ b.to → b.to < o'.frm → stp b.best ≤ stp o'.best ∧ (o'.wr = true → stp b.best < stp o'.best)) : LJ n cs (ops.set k o') := by
  have hsrc : ∀ {x : Sd}, Src ops x → Src (ops.set k o') x := fun hx => hx.set hk fun q => ⟨e2, (hs q).1, (hs q).2⟩
  have hpos : 0 ≤ o'.to → o'.sec = true ∧ (o'.frm : Int) < o'.to ∧ (∀ (j : Nat) (b : Oq), ops[j]? = some b → (b.frm : Int) ≤ o'.to) ∧ (o'.wr = false → o'.val = o'.best.val) ∧ n < 2 * cp (fun i => decide (stp o'.best ≤ atS cs i)) n := fun q => hend.resolve_left (by omega)
  refine ⟨h.cw, fun j x hx => ?_, fun i x hx => hsrc (h.csrc i x hx), fun j x hx => ?_, fun j x hx h1 h2 => ?_, fun j x hx h1 h2 => ?_, fun j x hx h1 => ?_, fun j x hx h0 => ?_, fun j x hx h1 h2 => ?_, fun i j x y hx h1 hy h2 h3 => ?_, fun i j x y hx h1 hy h2 h3 => ?_, fun i j x y hx hy hij => ?_, fun i j x y hx hy hij hw => ?_, fun j x hx => ?_⟩
  · rcases set_cases hk hx with ⟨_, rfl⟩ | ⟨_, e⟩
    · exact hbw
    · exact h.bw j x e
  · rcases set_cases hk hx with ⟨_, rfl⟩ | ⟨_, e⟩
    · exact hbs
    · exact hsrc (h.bsrc j x e)
  · rcases set_cases hk hx with ⟨_, rfl⟩ | ⟨_, e⟩
    · exact hwv h1 h2
    · exact h.wv j x e h1 h2
  · rcases set_cases hk hx with ⟨_, rfl⟩ | ⟨_, e⟩
    · exact (hpos h2).2.2.2.1 h1
    · exact h.rv j x e h1 h2
  · rcases set_cases hk hx with ⟨_, rfl⟩ | ⟨_, e⟩
    · exact (hpos h1).1
    · exact h.dn j x e h1
  · rcases set_cases hk hx with ⟨_, rfl⟩ | ⟨_, e⟩
    · exact (hpos h0).2.2.2.2
    · exact h.maj j x e h0
  · rcases set_cases hk hx with ⟨_, rfl⟩ | ⟨_, e⟩
    · exact hhold h1 h2
    · exact h.hold j x e h1 h2
  · rcases set_cases hk hy with ⟨_, rfl⟩ | ⟨_, ey⟩
    · exfalso
      have hp := hpos h2
      rcases set_cases hk hx with ⟨_, rfl⟩ | ⟨_, ex⟩
      · omega
      · have := hp.2.2.1 i x ex; omega
    · rcases set_cases hk hx with ⟨_, rfl⟩ | ⟨_, ex⟩
      · exact hq h1 j y ey h2 h3
      · exact h.q i j x y ex h1 ey h2 h3
  · rcases set_cases hk hy with ⟨_, rfl⟩ | ⟨_, ey⟩
    · exfalso
      have hp := hpos h2
      rcases set_cases hk hx with ⟨_, rfl⟩ | ⟨_, ex⟩
      · omega
      · have := hp.2.2.1 i x ex; omega
    · rcases set_cases hk hx with ⟨_, rfl⟩ | ⟨_, ex⟩
      · exact hle h1 j y ey h2 h3
      · exact h.le i j x y ex h1 ey h2 h3
  · rcases set_cases hk hx with ⟨i1, rfl⟩ | ⟨_, ex⟩
    · rcases set_cases hk hy with ⟨j1, rfl⟩ | ⟨_, ey⟩
      · omega
      · rw [e3]; exact h.fr k j o y hk ey (by omega)
    · rcases set_cases hk hy with ⟨j1, rfl⟩ | ⟨_, ey⟩
      · rw [e3]; exact h.fr i k x o ex hk (by omega)
      · exact h.fr i j x y ex ey hij
  · rcases set_cases hk hx with ⟨i1, rfl⟩ | ⟨i1, ex⟩
    · rcases set_cases hk hy with ⟨j1, rfl⟩ | ⟨j1, ey⟩
      · omega
      · rcases h.two k j o y hk ey (by omega) (by rw [← e1, hw]) with q | q
        · omega
        · right; rw [e3]; exact q
    · rcases set_cases hk hy with ⟨j1, rfl⟩ | ⟨j1, ey⟩
      · rcases h.two i k x o ex hk (by omega) (by rw [hw, e1]) with q | q
        · left; rw [e3]; exact q
        · omega
      · exact h.two i j x y ex ey hij hw
  · rcases set_cases hk hx with ⟨_, rfl⟩ | ⟨_, e⟩
    · rcases hend with q | q
      · exact .inl q
      · exact .inr q.2.1
    · exact h.tt j x e
/-- behind one copy more, first half -/
theorem LJ.see1 {n k i : Nat} {cs : List Sd} {ops : List Oq} {o : Oq} (h : LJ n cs ops) (hk : ops[k]? = some o) (hto : o.to = -1) (hsec : o.sec = false) (hi : i < cs.length) : LJ n cs (ops.set k (seeR cs i o)) := by
  obtain ⟨c, hc⟩ := get_of_lt hi
  have hb : (seeR cs i o).best = if later c o.best then c else o.best := by unfold seeR; rw [hsec, hc]; rfl
  have hbw := h.bw k o hk
  have hcw := h.cw i c hc
  have hsrc : Src ops (seeR cs i o).best := by
    rw [hb]; split
    · exact h.csrc i c hc
    · exact h.bsrc k o hk
  have hge : stp o.best ≤ stp (seeR cs i o).best ∧ stp c ≤ stp (seeR cs i o).best := by
    rw [hb]
    split
    · rename_i hl
      have := (later_iff hcw hbw).1 hl; omega
    · rename_i hl
      have := mt (later_iff hcw hbw).2 hl; omega
  refine h.upd hk (by omega) rfl rfl rfl (fun q => by rw [hsec] at q; cases q) ?_ (hsrc.set hk fun q => by rw [hsec] at q; cases q) (fun _ q => ?_) (.inl hto) (fun q => ?_) (fun _ j b hb' h0 hlt => ?_) (fun q => ?_)
  · rw [hb]; split <;> assumption
  · have : (seeR cs i o).sec = o.sec := rfl
    rw [this, hsec] at q; cases q
  · have : (seeR cs i o).sec = o.sec := rfl
    rw [this, hsec] at q; cases q
  · obtain ⟨Q, h1, h2⟩ := h.q k j o b hk hsec hb' h0 hlt
    refine ⟨Q, h1, fun j' hj' hq => ⟨(h2 j' hj' hq).1, fun hm => ?_⟩⟩
    have hm' : j' ∈ o.seen ++ [i] := hm
    rcases List.mem_append.1 hm' with hm | hm
    · exact Nat.le_trans ((h2 j' hj' hq).2 hm) hge.1
    · rw [List.mem_singleton] at hm
      subst hm
      have := (h2 j' hj' hq).1
      rw [atS_of hc] at this
      exact Nat.le_trans this hge.2
  · have : (seeR cs i o).sec = o.sec := rfl
    rw [this, hsec] at q; cases q
/-- second half -/
theorem LJ.see2 {n k i : Nat} {cs : List Sd} {ops : List Oq} {o : Oq} (h : LJ n cs ops) (hk : ops[k]? = some o) (hto : o.to = -1) (hsec : o.sec = true) (hi : i < cs.length) : LJ n (storeR cs i o.best) (ops.set k (seeR cs i o)) := by
  have hbw := h.bw k o hk
  have h' := h.store (i := i) hbw (h.bsrc k o hk)
  have hs : (seeR cs i o).best = o.best := by unfold seeR; rw [hsec]; rfl
  have hs2 : (seeR cs i o).sec = true := hsec
  refine h'.upd hk (by omega) rfl rfl rfl (fun q => ⟨hs2, hs⟩) (by rw [hs]; exact hbw) ?_ (fun h1 _ => by rw [hs]; exact h.wv k o hk h1 hsec) (.inl hto) (fun _ _ j hj => ?_) (fun q => by rw [hs2] at q; cases q) (fun _ j b hb h0 hlt => by rw [hs]; exact h.le k j o b hk hsec hb h0 hlt)
  · rw [hs]; exact (h.bsrc k o hk).set hk fun q => ⟨rfl, hs2, hs⟩
  · rw [hs]
    have hm' : j ∈ o.seen ++ [i] := hj
    rcases List.mem_append.1 hm' with hm | hm
    · exact h'.hold k o hk hsec (by omega) j hm
    · rw [List.mem_singleton] at hm
      subst hm
      exact store_self h.cw hbw hi
/-- from the first half to the second -/
theorem LJ.turn1 {n k m : Nat} {cs : List Sd} {ops : List Oq} {o : Oq} (h : LJ n cs ops) (hk : ops[k]? = some o) (hto : o.to = -1) (hsec : o.sec = false) (hw4 : o.who < 4) (hv : o.wr = true → True) (hmaj : n < 2 * cp (fun i => decide (i ∈ o.seen)) n) : LJ n cs (ops.set k (turnO o m)) := by
  have ht : turnO o m = { o with sec := true, seen := [], many := 0, best := if o.wr then ⟨o.best.n + 1, o.who, o.val⟩ else o.best } := by unfold turnO; rw [hsec]; rfl
  have hbw := h.bw k o hk
  have hle0 : ∀ (j : Nat) (b : Oq), ops[j]? = some b → 0 ≤ b.to → b.to < o.frm → stp b.best ≤ stp o.best := fun j b hb h0 hlt => by
    obtain ⟨Q, h1, h2⟩ := h.q k j o b hk hsec hb h0 hlt
    obtain ⟨i, hi, g1, g2⟩ := cp_meet (p := Q) (q := fun i => decide (i ∈ o.seen)) (n := n) (by omega)
    exact (h2 i hi g1).2 (of_decide_eq_true g2)
  rw [ht]
  refine h.upd hk (by omega) rfl rfl rfl (fun q => by rw [hsec] at q; cases q) ?_ ?_ (fun h1 _ => ?_) (.inl hto) (fun _ _ j hj => by cases hj) (fun q => by cases q) (fun _ j b hb h0 hlt => ?_)
  · dsimp only; split
    · exact hw4
    · exact hbw
  · dsimp only
    by_cases hwr : o.wr = true
    · right
      exact ⟨k, _, List.getElem?_set_self (List.getElem?_eq_some_iff.1 hk).1, hwr, rfl, rfl⟩
    · rw [if_neg hwr]
      exact (h.bsrc k o hk).set hk fun q => by rw [hsec] at q; cases q
  · have h1' : o.wr = true := h1
    dsimp only
    rw [if_pos h1']
    exact ⟨rfl, rfl, Nat.le_add_left 1 _⟩
  · have hb0 := hle0 j b hb h0 hlt
    dsimp only
    by_cases hwr : o.wr = true
    · rw [if_pos hwr]
      have : stp o.best < stp ⟨o.best.n + 1, o.who, o.val⟩ := by unfold stp; dsimp only; omega
      exact ⟨by omega, fun _ => by omega⟩
    · rw [if_neg hwr]
      exact ⟨hb0, fun q => absurd q hwr⟩
/-- the end of the second half -/
theorem LJ.turn2 {n k m : Nat} {cs : List Sd} {ops : List Oq} {o : Oq} (h : LJ n cs ops) (hk : ops[k]? = some o) (hto : o.to = -1) (hsec : o.sec = true) (hm : ∀ (j : Nat) (b : Oq), ops[j]? = some b → b.frm < m) (hmaj : n < 2 * cp (fun i => decide (i ∈ o.seen)) n) : LJ n cs (ops.set k (turnO o m)) := by
  have ht : turnO o m = { o with to := (m : Int), val := if o.wr then o.val else o.best.val } := by unfold turnO; rw [hsec]; rfl
  have hbw := h.bw k o hk
  have hfm := hm k o hk
  rw [ht]
  refine h.upd hk (by omega) rfl rfl rfl (fun q => ⟨hsec, rfl⟩) hbw ((h.bsrc k o hk).set hk fun q => ⟨rfl, hsec, rfl⟩) (fun h1 _ => ?_) (.inr ⟨hsec, by show (o.frm : Int) < (m : Int); omega, fun j b hb => by have := hm j b hb; show (b.frm : Int) ≤ (m : Int); omega, fun h1 => ?_, ?_⟩) (fun _ q => ?_) (fun q => by rw [show o.sec = false from q] at hsec; cases hsec) (fun _ j b hb h0 hlt => h.le k j o b hk hsec hb h0 hlt)
  · have h1' : o.wr = true := h1
    obtain ⟨g1, g2, g3⟩ := h.wv k o hk h1' hsec
    dsimp only
    rw [if_pos h1']
    exact ⟨g1, g2, g3⟩
  · have h1' : o.wr = false := h1
    dsimp only
    rw [h1']; rfl
  · have h2 := cp_mono (p := fun i => decide (i ∈ o.seen)) (q := fun i => decide (stp o.best ≤ atS cs i)) (fun i hi => decide_eq_true (h.hold k o hk hsec (by omega) i (of_decide_eq_true hi))) n
    show n < 2 * cp (fun i => decide (stp o.best ≤ atS cs i)) n
    omega
  · have : ((m : Nat) : Int) < 0 := q
    omega
theorem set_set {α : Type} (l : List α) (k : Nat) (x y : α) : (l.set k x).set k y = l.set k y := List.set_set ..
theorem LJ.reach {n m c i : Nat} {s : RS} (inv : InvR n m s) (h1n : 1 ≤ n) (hi : i < n) (h : LJ n s.cs s.ops) : LJ n (reachR s c i m).2.cs (reachR s c i m).2.ops := by
  rcases reach_cases (i := i) inv with e | ⟨k, o, hn, ho, hw, hto, hs⟩
  · rw [e]; exact h
  · rw [reachR_eq hn ho hs]
    have hto1 : o.to = -1 := by have := (inv.old k o ho).2.2.1; omega
    obtain ⟨_, hcp, _⟩ := inv.live k o ho hto
    have hw4 := (inv.old k o ho).1
    have hil : i < s.cs.length := by rw [inv.len]; exact hi
    have hkl := (List.getElem?_eq_some_iff.1 ho).1
    have hseen : (seeR s.cs i o).seen = o.seen ++ [i] := rfl
    have hcp2 : cp (fun j => decide (j ∈ (seeR s.cs i o).seen)) n = o.many + 1 := by
      rw [hcp]
      refine cp_add (k := i) hi (decide_eq_false hs) fun j => ?_
      rw [hseen]
      by_cases e : j ∈ o.seen
      · simp [e]
      · by_cases e2 : i = j
        · simp [e2]
        · simp [e, e2]; exact fun q => e2 q.symm
    have hlen := inv.len
    by_cases hsec : o.sec = true
    · have h2 := h.see2 (i := i) ho hto1 hsec hil
      dsimp only
      rw [if_pos hsec]
      by_cases g : 2 * (o.many + 1) ≤ s.cs.length
      · rw [if_pos g]; exact h2
      · rw [if_neg g]
        have h3 := h2.turn2 (m := m) (List.getElem?_set_self hkl) hto1 hsec (fun j b hb => ?_) (by rw [hcp2]; omega)
        · rwa [set_set] at h3
        · rcases set_cases ho hb with ⟨_, rfl⟩ | ⟨_, e⟩
          · exact (inv.old k o ho).2.2.2.1
          · exact (inv.old j b e).2.2.2.1
    · have hsec' : o.sec = false := by simpa using hsec
      have h2 := h.see1 (i := i) ho hto1 hsec' hil
      dsimp only
      rw [if_neg hsec]
      by_cases g : 2 * (o.many + 1) ≤ s.cs.length
      · rw [if_pos g]; exact h2
      · rw [if_neg g]
        have h3 := h2.turn1 (m := m) (List.getElem?_set_self hkl) hto1 hsec' hw4 (fun _ => trivial) (by rw [hcp2]; omega)
        rwa [set_set] at h3
theorem LJ.step {n m : Nat} {s : RS} (inv : InvR n m s) (h1 : 1 ≤ n) (h : LJ n s.cs s.ops) (c : Cl) : LJ n (stepR s c m).2.cs (stepR s c m).2.ops := by
  unfold stepR
  split
  · exact h
  · split
    · exact h
    · rename_i g1 g2
      split
      · rename_i g3
        unfold beginR
        cases hn : s.now.getD c.who.toNat none with
        | some k => exact h
        | none => exact h.begin inv hn (by omega)
      · split
        · rename_i g3 g4
          exact h.reach inv h1 (by have := inv.len; omega)
        · unfold lateR
          split
          · exact h
          · cases ho : s.ops[c.src.toNat]? with
            | none => exact h
            | some o =>
              dsimp only
              split
              · exact h.store (h.bw _ o ho) (h.bsrc _ o ho)
              · exact h
theorem LJ.run {n : Nat} (h1 : 1 ≤ n) : ∀ (l : List Cl) {m : Nat} {s : RS}, InvR n m s → LJ n s.cs s.ops → LJ n (stR s m l).cs (stR s m l).ops
  | [], m, s, _, h => h
  | c :: l, m, s, inv, h => LJ.run h1 l (inv.step h1 c) (h.step inv h1 c)
theorem LJ.uniq {n : Nat} {cs : List Sd} {ops : List Oq} (h : LJ n cs ops) (hw4 : ∀ (k : Nat) (o : Oq), ops[k]? = some o → o.who < 4) {k j : Nat} {o b : Oq} (ho : ops[k]? = some o) (hb : ops[j]? = some b) (h1 : o.wr = true) (h2 : b.wr = true) (h3 : o.sec = true) (h4 : b.sec = true) (he : stp o.best = stp b.best) : k = j := by
  refine Classical.byContradiction fun hne => ?_
  have a1 := (h.wv k o ho h1 h3).2.1
  have a2 := (h.wv j b hb h2 h4).2.1
  have b1 := hw4 k o ho
  have b2 := hw4 j b hb
  have hw : o.who = b.who := by
    unfold stp at he
    rw [a1, a2] at he; omega
  rcases h.two k j o b ho hb hne hw with ⟨q1, q2⟩ | ⟨q1, q2⟩
  · have := (h.le j k b o hb h4 ho q1 q2).2 h2; omega
  · have := (h.le k j o b ho h3 hb q1 q2).2 h1; omega
end Go.Proofs.Ytjiefamdpbnngaa
