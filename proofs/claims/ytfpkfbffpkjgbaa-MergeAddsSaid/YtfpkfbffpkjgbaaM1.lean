/- Copies together, in plain words. No condition. -/
import Derived.Test.YtfpkfbffpkjgbaaA16
namespace Go.Proofs.Ytfpkfbffpkjgbaa
open Go.RowKit
set_option linter.unusedVariables false
set_option linter.unusedSimpArgs false
set_option maxRecDepth 100000

theorem sp_pos {a b : Sp} : 0 < spC a b ↔ b.n < a.n ∨ (a.n = b.n ∧ b.who < a.who) := by
  unfold spC orL orL orL cmpI
  (repeat' split) <;> omega
theorem sp_zero {a b : Sp} : spC a b = 0 ↔ a.n = b.n ∧ a.who = b.who := by
  unfold spC orL orL orL cmpI
  (repeat' split) <;> omega
theorem nodup_len : ∀ {l m : List Dt}, l.Nodup → (∀ x ∈ l, x ∈ m) → l.length ≤ m.length
  | [], _, _, _ => Nat.zero_le _
  | x :: l, m, h, hs => by
    obtain ⟨h1, h2⟩ := List.nodup_cons.1 h
    have hx := hs x List.mem_cons_self
    have := nodup_len (l := l) (m := m.erase x) h2 fun y hy => (List.mem_erase_of_ne (fun e => h1 (by rw [← e]; exact hy))).2 (hs y (List.mem_cons_of_mem _ hy))
    rw [List.length_erase_of_mem hx] at this
    have hp := List.length_pos_of_mem hx
    rw [List.length_cons]; omega
/-- the counts that each has counted of its own, and of others -/
def ct (c : Cp) (p : Nat) : Int := c.cn.getD p 0
theorem mx_getD : ∀ {a b : List Int} {p : Nat}, a.length = b.length → (mx a b).getD p 0 = mx2 (a.getD p 0) (b.getD p 0)
  | [], [], p, _ => by simp [mx, mx2]
  | [], _ :: _, _, h => by simp at h
  | _ :: _, [], _, h => by simp at h
  | x :: a, y :: b, 0, _ => by simp [mx]
  | x :: a, y :: b, p + 1, h => by simp only [List.length_cons] at h; have := mx_getD (a := a) (b := b) (p := p) (by omega); simpa [mx] using this
theorem mx2_or (x y : Int) : mx2 x y = x ∨ mx2 x y = y := by unfold mx2; split <;> simp
theorem mx2_le (x y : Int) : x ≤ mx2 x y ∧ y ≤ mx2 x y := by unfold mx2; split <;> omega
/-- c is what the copies of S in s are together -/
structure IsJ (n : Nat) (s : List Cp) (S : Nat → Prop) (c : Cp) : Prop where
  ln : c.cn.length = n
  cn1 : ∀ p, ∃ i a, S i ∧ s[i]? = some a ∧ ct a p = ct c p
  cn2 : ∀ p i a, S i → s[i]? = some a → ct a p ≤ ct c p
  la1 : ∃ i a, S i ∧ s[i]? = some a ∧ a.la = c.la
  la2 : ∀ i a, S i → s[i]? = some a → ¬ 0 < spC a.la c.la
  ad : ∀ d, d ∈ c.ad ↔ ∃ i a, S i ∧ s[i]? = some a ∧ d ∈ a.ad
  go : ∀ d, d ∈ c.go ↔ ∃ i a, S i ∧ s[i]? = some a ∧ d ∈ a.go
  au : Up c.ad
  gu : Up c.go
theorem IsJ.self {n i : Nat} {s : List Cp} {a : Cp} (h : s[i]? = some a) (hl : a.cn.length = n) (hu : Up a.ad) (hv : Up a.go) : IsJ n s (fun j => j = i) a where
  ln := hl
  cn1 := fun p => ⟨i, a, rfl, h, rfl⟩
  cn2 := fun p j b hj hb => by subst hj; rw [h] at hb; cases hb; exact Int.le_refl _
  la1 := ⟨i, a, rfl, h, rfl⟩
  la2 := fun j b hj hb => by subst hj; rw [h] at hb; cases hb; rw [sp_pos]; omega
  ad := fun d => ⟨fun q => ⟨i, a, rfl, h, q⟩, fun ⟨j, b, hj, hb, q⟩ => by subst hj; rw [h] at hb; cases hb; exact q⟩
  go := fun d => ⟨fun q => ⟨i, a, rfl, h, q⟩, fun ⟨j, b, hj, hb, q⟩ => by subst hj; rw [h] at hb; cases hb; exact q⟩
  au := hu
  gu := hv
theorem mergeC_zero {a b : Cp} (h : (mergeC a b).1 = 0) : (mergeC a b).2 = mrg a b := by
  unfold mergeC at h ⊢
  split at h
  · cases h
  · split at h
    · cases h
    · rename_i h1 h2; rw [if_neg h1, if_neg h2]
theorem IsJ.merge {n : Nat} {s : List Cp} {S T : Nat → Prop} {a b : Cp} (ha : IsJ n s S a) (hb : IsJ n s T b) : IsJ n s (fun i => S i ∨ T i) (mrg a b) where
  ln := by show (mx a.cn b.cn).length = n; rw [mx_len (by rw [ha.ln, hb.ln]; exact Nat.le_refl _), ha.ln]
  cn1 := fun p => by
    have e : ct (mrg a b) p = mx2 (ct a p) (ct b p) := mx_getD (by rw [ha.ln, hb.ln])
    rw [e]
    rcases mx2_or (ct a p) (ct b p) with q | q
    · obtain ⟨i, c, h1, h2, h3⟩ := ha.cn1 p
      exact ⟨i, c, .inl h1, h2, by rw [h3, q]⟩
    · obtain ⟨i, c, h1, h2, h3⟩ := hb.cn1 p
      exact ⟨i, c, .inr h1, h2, by rw [h3, q]⟩
  cn2 := fun p i c hi hc => by
    have e : ct (mrg a b) p = mx2 (ct a p) (ct b p) := mx_getD (by rw [ha.ln, hb.ln])
    have := mx2_le (ct a p) (ct b p)
    rw [e]
    rcases hi with hi | hi
    · have := ha.cn2 p i c hi hc; omega
    · have := hb.cn2 p i c hi hc; omega
  la1 := by
    show ∃ (i : Nat) (c : Cp), _ ∧ _ ∧ c.la = (if 0 < spC b.la a.la then b.la else a.la)
    split
    · obtain ⟨i, c, h1, h2, h3⟩ := hb.la1
      exact ⟨i, c, .inr h1, h2, h3⟩
    · obtain ⟨i, c, h1, h2, h3⟩ := ha.la1
      exact ⟨i, c, .inl h1, h2, h3⟩
  la2 := fun i c hi hc => by
    show ¬ 0 < spC c.la (if 0 < spC b.la a.la then b.la else a.la)
    split
    · rename_i q
      rcases hi with hi | hi
      · have := ha.la2 i c hi hc
        rw [sp_pos] at this q ⊢; omega
      · exact hb.la2 i c hi hc
    · rename_i q
      rcases hi with hi | hi
      · exact ha.la2 i c hi hc
      · have := hb.la2 i c hi hc
        rw [sp_pos] at this q ⊢; omega
  ad := fun d => by
    show d ∈ uni a.ad b.ad ↔ _
    rw [uni_mem, ha.ad, hb.ad]
    constructor
    · rintro (⟨i, c, h1, h2, h3⟩ | ⟨i, c, h1, h2, h3⟩)
      · exact ⟨i, c, .inl h1, h2, h3⟩
      · exact ⟨i, c, .inr h1, h2, h3⟩
    · rintro ⟨i, c, h1 | h1, h2, h3⟩
      · exact .inl ⟨i, c, h1, h2, h3⟩
      · exact .inr ⟨i, c, h1, h2, h3⟩
  go := fun d => by
    show d ∈ uni a.go b.go ↔ _
    rw [uni_mem, ha.go, hb.go]
    constructor
    · rintro (⟨i, c, h1, h2, h3⟩ | ⟨i, c, h1, h2, h3⟩)
      · exact ⟨i, c, .inl h1, h2, h3⟩
      · exact ⟨i, c, .inr h1, h2, h3⟩
    · rintro ⟨i, c, h1 | h1, h2, h3⟩
      · exact .inl ⟨i, c, h1, h2, h3⟩
      · exact .inr ⟨i, c, h1, h2, h3⟩
  au := uni_up
  gu := uni_up
/-- no two stamps of one number and one who with unlike values -/
def UnS (s : List Cp) : Prop := ∀ a ∈ s, ∀ b ∈ s, spC a.la b.la = 0 → a.la = b.la
theorem IsJ.laM {n : Nat} {s : List Cp} {S : Nat → Prop} {c : Cp} (h : IsJ n s S c) : ∃ a ∈ s, a.la = c.la := by
  obtain ⟨i, a, _, h2, h3⟩ := h.la1; exact ⟨a, List.mem_of_getElem? h2, h3⟩
theorem IsJ.uniq {n : Nat} {s : List Cp} {S T : Nat → Prop} {a b : Cp} (hu : UnS s) (ha : IsJ n s S a) (hb : IsJ n s T b) (hST : ∀ i, S i ↔ T i) : a = b := by
  have e1 : a.cn = b.cn := by
    refine List.ext_getElem (by rw [ha.ln, hb.ln]) fun p h1 h2 => ?_
    obtain ⟨i, x, q1, q2, q3⟩ := ha.cn1 p
    obtain ⟨j, y, r1, r2, r3⟩ := hb.cn1 p
    have u1 := hb.cn2 p i x ((hST i).1 q1) q2
    have u2 := ha.cn2 p j y ((hST j).2 r1) r2
    have ea : ct a p = a.cn[p] := by unfold ct; rw [List.getD_eq_getElem?_getD, List.getElem?_eq_getElem h1]; rfl
    have eb : ct b p = b.cn[p] := by unfold ct; rw [List.getD_eq_getElem?_getD, List.getElem?_eq_getElem h2]; rfl
    omega
  have e2 : a.la = b.la := by
    obtain ⟨i, x, q1, q2, q3⟩ := ha.la1
    obtain ⟨j, y, r1, r2, r3⟩ := hb.la1
    have u1 := hb.la2 i x ((hST i).1 q1) q2
    have u2 := ha.la2 j y ((hST j).2 r1) r2
    rw [← q3, ← r3]
    rw [← r3] at u1
    rw [← q3] at u2
    refine hu x (List.mem_of_getElem? q2) y (List.mem_of_getElem? r2) ?_
    rw [sp_pos] at u1 u2
    rw [sp_zero]; omega
  have e3 : a.ad = b.ad := up_uniq ha.au hb.au fun d => by
    rw [ha.ad, hb.ad]
    exact ⟨fun ⟨i, x, q1, q2⟩ => ⟨i, x, (hST i).1 q1, q2⟩, fun ⟨i, x, q1, q2⟩ => ⟨i, x, (hST i).2 q1, q2⟩⟩
  have e4 : a.go = b.go := up_uniq ha.gu hb.gu fun d => by
    rw [ha.go, hb.go]
    exact ⟨fun ⟨i, x, q1, q2⟩ => ⟨i, x, (hST i).1 q1, q2⟩, fun ⟨i, x, q1, q2⟩ => ⟨i, x, (hST i).2 q1, q2⟩⟩
  cases a; cases b; simp only [Cp.mk.injEq]; exact ⟨e1, e2, e3, e4⟩
/-- all dots are few -/
def FewS (s : List Cp) : Prop := ∃ G : List Dt, G.length ≤ 60 ∧ ∀ c ∈ s, (∀ d ∈ c.ad, d ∈ G) ∧ ∀ d ∈ c.go, d ∈ G
theorem IsJ.few {n : Nat} {s : List Cp} {S : Nat → Prop} {c : Cp} (hf : FewS s) (h : IsJ n s S c) : c.ad.length ≤ 60 ∧ c.go.length ≤ 60 := by
  obtain ⟨G, hG, hs⟩ := hf
  have h1 := nodup_len h.au.nodup (m := G) fun d hd => by
    obtain ⟨i, a, _, q2, q3⟩ := (h.ad d).1 hd
    exact (hs a (List.mem_of_getElem? q2)).1 d q3
  have h2 := nodup_len h.gu.nodup (m := G) fun d hd => by
    obtain ⟨i, a, _, q2, q3⟩ := (h.go d).1 hd
    exact (hs a (List.mem_of_getElem? q2)).2 d q3
  omega
theorem IsJ.ok {n : Nat} {s : List Cp} {S T : Nat → Prop} {a b : Cp} (hu : UnS s) (hf : FewS s) (ha : IsJ n s S a) (hb : IsJ n s T b) : mergeC a b = (0, mrg a b) := by
  have hm := (ha.merge hb).few hf
  obtain ⟨x, hx, ex⟩ := ha.laM
  obtain ⟨y, hy, ey⟩ := hb.laM
  unfold mergeC
  rw [if_neg (fun q => q.2 (by rw [← ex, ← ey]; exact hu x hx y hy (by rw [ex, ey]; exact q.1))), if_neg (by rw [big_ok hm.1 hm.2]; decide)]
/-- each is what some of the first copies are together, itself and those of D among them -/
def RS (n : Nat) (s0 : List Cp) (D : Nat → Nat → Prop) (s : List Cp) : Prop := s.length = n ∧ ∀ i a, s[i]? = some a → ∃ S, IsJ n s0 S a ∧ S i ∧ (∀ j, D i j → S j) ∧ ∀ j, S j → j < n
theorem wrong_merge {n i j : Nat} (hi : i < n) (hj : j < n) : wrongC n ⟨5, i, j, 0, 0⟩ = 0 := by
  unfold wrongC
  rw [if_neg (by unfold kindBad; dsimp only; omega), if_neg (by unfold argBad; dsimp only; omega)]
theorem chg_merge {s : List Cp} {a b : Cp} {i j : Nat} (hb : s[j]? = some b) : chg s a i ⟨5, i, j, 0, 0⟩ = mergeC a b := by
  unfold chg
  rw [if_neg (by dsimp only; omega), if_neg (by dsimp only; omega), if_neg (by dsimp only; omega), if_neg (by dsimp only; omega)]
  show mergeC a (s.getD ((j : Int)).toNat cp0) = _
  rw [Int.toNat_natCast, List.getD_eq_getElem?_getD, hb]; rfl
theorem RS.step {n : Nat} {s0 s : List Cp} {D : Nat → Nat → Prop} {i j : Nat} (hu : UnS s0) (hf : FewS s0) (h : RS n s0 D s) (hi : i < n) (hj : j < n) : RS n s0 (fun a b => D a b ∨ (a = i ∧ b = j)) (stepM n s ⟨5, i, j, 0, 0⟩).2 := by
  obtain ⟨hl, ha⟩ := h
  obtain ⟨a, hai⟩ := get_of_lt (xs := s) (k := i) (by omega)
  obtain ⟨b, hbj⟩ := get_of_lt (xs := s) (k := j) (by omega)
  obtain ⟨S, s1, s2, s3, s4⟩ := ha i a hai
  obtain ⟨T, t1, t2, t3, t4⟩ := ha j b hbj
  have hm := s1.ok hu hf t1
  have hst : stepM n s ⟨5, i, j, 0, 0⟩ = (0, s.set i (mrg a b)) := by
    have := stepM_ok (n := n) (s := s) (x := ⟨5, i, j, 0, 0⟩) (c := a) (i := i) (wrong_merge hi hj) rfl hai (by rw [chg_merge hbj, hm])
    rw [this, chg_merge hbj, hm]
  rw [hst]
  refine ⟨by rw [List.length_set]; exact hl, fun k c hc => ?_⟩
  by_cases e : i = k
  · subst e
    rw [List.getElem?_set_self (by omega)] at hc; cases hc
    refine ⟨_, s1.merge t1, .inl s2, fun x hx => ?_, fun x hx => ?_⟩
    · rcases hx with hx | ⟨_, rfl⟩
      · exact .inl (s3 x hx)
      · exact .inr t2
    · rcases hx with hx | hx
      · exact s4 x hx
      · exact t4 x hx
  · rw [List.getElem?_set_ne e] at hc
    obtain ⟨U, u1, u2, u3, u4⟩ := ha k c hc
    refine ⟨U, u1, u2, fun x hx => ?_, u4⟩
    rcases hx with hx | ⟨rfl, _⟩
    · exact u3 x hx
    · exact absurd rfl e
theorem RS.mono {n : Nat} {s0 s : List Cp} {D E : Nat → Nat → Prop} (h : RS n s0 D s) (hE : ∀ a b, E a b → b ≠ a → D a b) : RS n s0 E s := ⟨h.1, fun i a ha => by
  obtain ⟨S, s1, s2, s3, s4⟩ := h.2 i a ha
  refine ⟨S, s1, s2, fun j hj => ?_, s4⟩
  by_cases e : j = i
  · subst e; exact s2
  · exact s3 j (hE i j hj e)⟩
section
variable {n : Nat} {s0 : List Cp}
theorem RS.mgs (hu : UnS s0) (hf : FewS s0) {i : Nat} (hi : i < n) : ∀ (j : Nat) {s : List Cp} {D : Nat → Nat → Prop}, j ≤ n → RS n s0 D s → RS n s0 (fun a b => D a b ∨ (a = i ∧ b < j)) (stM n s (mgs i j))
  | 0, s, D, _, h => h.mono fun a b q _ => by rcases q with q | q; exact q; omega
  | j + 1, s, D, hj, h => by
    have ih := RS.mgs hu hf hi j (by omega) h
    rw [Go.Proofs.Ytfpkfbffpkjgbaa.mgs]
    split
    · rename_i hne
      rw [stM_app]
      refine (ih.step hu hf hi (show j < n by omega)).mono fun a b q hq => ?_
      rcases q with q | q
      · exact .inl (.inl q)
      · by_cases e : b = j
        · exact .inr ⟨q.1, e⟩
        · exact .inl (.inr ⟨q.1, by omega⟩)
    · rename_i he
      refine ih.mono fun a b q hq => ?_
      rcases q with q | q
      · exact .inl q
      · exact .inr ⟨q.1, by omega⟩
theorem RS.rws (hu : UnS s0) (hf : FewS s0) : ∀ (i : Nat) {s : List Cp} {D : Nat → Nat → Prop}, i ≤ n → RS n s0 D s → RS n s0 (fun a b => D a b ∨ (a < i ∧ b < n)) (stM n s (rws n i))
  | 0, s, D, _, h => h.mono fun a b q _ => by rcases q with q | q; exact q; omega
  | i + 1, s, D, hi, h => by
    have ih := RS.rws hu hf i (by omega) h
    rw [Go.Proofs.Ytfpkfbffpkjgbaa.rws, stM_app]
    refine (RS.mgs hu hf (show i < n by omega) n (Nat.le_refl _) ih).mono fun a b q hq => ?_
    rcases q with q | q
    · exact .inl (.inl q)
    · by_cases e : a = i
      · exact .inr ⟨e, q.2⟩
      · exact .inl (.inr ⟨by omega, q.2⟩)
theorem RS.tms (hu : UnS s0) (hf : FewS s0) {s : List Cp} {D : Nat → Nat → Prop} (h : RS n s0 D s) : RS n s0 (fun a b => a < n ∧ b < n) (stM n s (tms n 2)) := by
  show RS n s0 _ (stM n s (([] ++ Go.Proofs.Ytfpkfbffpkjgbaa.rws n n) ++ Go.Proofs.Ytfpkfbffpkjgbaa.rws n n))
  rw [List.nil_append, stM_app]
  exact (RS.rws hu hf n (Nat.le_refl _) (RS.rws hu hf n (Nat.le_refl _) h)).mono fun a b q _ => .inr q
/-- behind all rounds each is what all were together -/
theorem synced_all (hu : UnS s0) (hf : FewS s0) (hl : s0.length = n) (hs : ∀ c ∈ s0, c.cn.length = n ∧ Up c.ad ∧ Up c.go) : (stM n s0 (Go.Proofs.Ytfpkfbffpkjgbaa.tms n 2)).length = n ∧ ∀ c ∈ stM n s0 (Go.Proofs.Ytfpkfbffpkjgbaa.tms n 2), IsJ n s0 (fun i => i < n) c := by
  have h0 : RS n s0 (fun _ _ => False) s0 := ⟨hl, fun i a ha => by
    obtain ⟨h1, h2, h3⟩ := hs a (List.mem_of_getElem? ha)
    have := (List.getElem?_eq_some_iff.1 ha).1
    exact ⟨_, IsJ.self ha h1 h2 h3, rfl, fun j hj => hj.elim, fun j hj => by subst hj; omega⟩⟩
  obtain ⟨h1, h2⟩ := h0.tms hu hf
  refine ⟨h1, fun c hc => ?_⟩
  obtain ⟨i, hi⟩ := List.getElem?_of_mem hc
  obtain ⟨S, s1, s2, s3, s4⟩ := h2 i c hi
  have hin : i < n := by have := (List.getElem?_eq_some_iff.1 hi).1; omega
  have e : S = fun i => i < n := funext fun j => propext ⟨s4 j, fun hj => s3 j ⟨hin, hj⟩⟩
  exact e ▸ s1
end
end Go.Proofs.Ytfpkfbffpkjgbaa
