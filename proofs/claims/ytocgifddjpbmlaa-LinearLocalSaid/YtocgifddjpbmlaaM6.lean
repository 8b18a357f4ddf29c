/- An order of all, of the orders of each register. Plain words. No condition. -/
import Derived.Test.YtocgifddjpbmlaaB5
namespace Go.Proofs.Ytocgifddjpbmlaa
open Go.RowKit
set_option linter.unusedVariables false
set_option linter.unusedSimpArgs false
set_option maxRecDepth 100000

def ofP (r : Int) (a : Op) : Bool := decide (a.reg = r)
def ofL (h : List Op) (r : Int) : List Op := h.filter (ofP r)
section
variable {h : List Op} {r : Int}
theorem of_get {i : Nat} {a : Op} (hi : h[i]? = some a) (hp : a.reg = r) : (ofL h r)[rk (ofP r) h i]? = some a := rk_get (ofP r) hi (by simp [ofP, hp])
theorem of_inv {j : Nat} {a : Op} (hj : (ofL h r)[j]? = some a) : ∃ i, h[i]? = some a ∧ a.reg = r ∧ rk (ofP r) h i = j := by
  obtain ⟨i, hi, hp, hr⟩ := rk_inv (ofP r) hj
  exact ⟨i, hi, by simpa [ofP] using hp, hr⟩
theorem of_ok (hok : OkH h) : OkH (ofL h r) := by
  refine ⟨Nat.le_trans (List.length_filter_le ..) hok.len, fun j a hj => ?_, fun i j a b hi hj hne hw => ?_⟩
  · obtain ⟨i, hi, _, _⟩ := of_inv hj; exact hok.reg _ _ hi
  · obtain ⟨i', hi', _, e1⟩ := of_inv hi
    obtain ⟨j', hj', _, e2⟩ := of_inv hj
    exact hok.two _ _ _ _ hi' hj' (fun e => hne (by rw [← e1, ← e2, e])) hw
/-! from all to one register -/
def kpO (h : List Op) (r : Int) (i : Nat) : Bool := match h[i]? with | some a => ofP r a | none => false
theorem kpO_iff {i : Nat} {a : Op} (hi : h[i]? = some a) : kpO h r i = true ↔ a.reg = r := by unfold kpO; rw [hi]; simp [ofP]
def trO (h : List Op) (r : Int) (l : List Nat) : List Nat := (l.filter (kpO h r)).map (rk (ofP r) h)
theorem mem_trO {l : List Nat} (G : Gd h l) {i : Nat} {a : Op} (hi : h[i]? = some a) (hk : a.reg = r) : rk (ofP r) h i ∈ trO h r l ↔ i ∈ l := by
  unfold trO
  rw [List.mem_map]
  constructor
  · rintro ⟨j, hj, e⟩
    rw [List.mem_filter] at hj
    obtain ⟨b, hb⟩ := get_of_lt (G.lt j hj.1)
    have h1 := (kpO_iff hb).1 hj.2
    have := rk_inj (ofP r) hb hi (by simp [ofP, h1]) (by simp [ofP, hk]) e
    exact this ▸ hj.1
  · exact fun hm => ⟨i, List.mem_filter.2 ⟨hm, (kpO_iff hi).2 hk⟩, rfl⟩
theorem regs_trO (h0 : 0 ≤ r) (hok : OkH h) : ∀ (l : List Nat) (R R' : Nat → Int), R r.toNat = R' r.toNat → (trO h r l).foldl (goR (ofL h r)) R r.toNat = l.foldl (goR h) R' r.toNat
  | [], R, R', e => e
  | i :: l, R, R', e => by
    cases q : h[i]? with
    | none =>
      have hk : ¬ kpO h r i = true := by unfold kpO; rw [q]; simp
      rw [show trO h r (i :: l) = trO h r l by simp [trO, hk], List.foldl_cons, show goR h R' i = R' by unfold goR; rw [q]]
      exact regs_trO h0 hok l R R' e
    | some a =>
      by_cases hk : a.reg = r
      · rw [show trO h r (i :: l) = rk (ofP r) h i :: trO h r l by simp [trO, (kpO_iff q).2 hk], List.foldl_cons, List.foldl_cons]
        refine regs_trO h0 hok l _ _ ?_
        unfold goR
        rw [of_get q hk, q]
        simp only [stepR]
        split
        · unfold updR; rw [hk]; simp
        · exact e
      · have hkk : ¬ kpO h r i = true := fun hh => hk ((kpO_iff q).1 hh)
        rw [show trO h r (i :: l) = trO h r l by simp [trO, hkk], List.foldl_cons]
        refine regs_trO h0 hok l _ _ ?_
        unfold goR
        rw [q]
        simp only [stepR]
        split
        · unfold updR
          have := (hok.reg _ _ q).1
          rw [if_neg (show ¬ r.toNat = a.reg.toNat by omega)]; exact e
        · exact e
theorem may_trO (h0 : 0 ≤ r) (hok : OkH h) {l : List Nat} {i : Nat} (G : Gd h l) (hk : kpO h r i = true) (H : mayB h l i = true) : mayB (ofL h r) (trO h r l) (rk (ofP r) h i) = true := by
  obtain ⟨a, hi⟩ := get_of_lt (mayB_lt H).1
  obtain ⟨h1, h2, h3⟩ := (mayB_iff hi).1 H
  have hr := (kpO_iff hi).1 hk
  refine (mayB_iff (of_get hi hr)).2 ⟨fun hm => h1 ((mem_trO G hi hr).1 hm), ?_, fun j b hj hm hab => ?_⟩
  · refine h2.imp id fun q => ⟨q.1, ?_⟩
    rw [hr] at q ⊢
    unfold regsL at q ⊢
    rw [regs_trO h0 hok l _ _ rfl]; exact q.2
  · obtain ⟨k, hk0, hkr, rfl⟩ := of_inv hj
    exact h3 k b hk0 (fun hm' => hm ((mem_trO G hk0 hkr).2 hm')) hab
theorem ext_trO (h0 : 0 ≤ r) (hok : OkH h) {l m : List Nat} (E : Ext h l m) : Gd h l → Ext (ofL h r) (trO h r l) (trO h r m) := by
  induction E with
  | @done l hf => exact fun G => .done (fullB_iff.2 fun j a hj ha => by
      obtain ⟨i, hi, hr, rfl⟩ := of_inv hj
      exact (mem_trO G hi hr).2 (fullB_iff.1 hf i a hi ha))
  | @step l m i hm E ih =>
    intro G
    have := ih (G.may hm)
    by_cases hk : kpO h r i = true
    · rw [show trO h r (l ++ [i]) = trO h r l ++ [rk (ofP r) h i] by simp [trO, hk]] at this
      exact .step (may_trO h0 hok G hk hm) this
    · rw [show trO h r (l ++ [i]) = trO h r l by simp [trO, hk]] at this; exact this
end
/-! from each register to all -/
/-- a list of places of one register, that is an order of it -/
structure Vd (h : List Op) (r : Nat) (M : List Nat) : Prop where
  nd : M.Nodup
  reg : ∀ i ∈ M, ∃ a, h[i]? = some a ∧ a.reg = (r : Int)
  all : ∀ (i : Nat) (a : Op), h[i]? = some a → a.reg = (r : Int) → 0 ≤ a.to → i ∈ M
  may : ∀ (q i : Nat) (a : Op), M[q]? = some i → h[i]? = some a → (a.write = true ∨ (0 ≤ a.to ∧ regsL h (M.take q) r = a.val)) ∧ ∀ (j : Nat) (b : Op), h[j]? = some b → b.reg = (r : Int) → ¬ j ∈ M.take q → ¬ aheadB b a = true
open Classical in
noncomputable def og (h : List Op) (r : Int) (j : Nat) : Nat := if H : ∃ i a, h[i]? = some a ∧ a.reg = r ∧ rk (ofP r) h i = j then H.choose else 0
theorem og_spec {h : List Op} {r : Int} {j : Nat} {a : Op} (hj : (ofL h r)[j]? = some a) : h[og h r j]? = some a ∧ a.reg = r ∧ rk (ofP r) h (og h r j) = j := by
  obtain ⟨i, hi, hr, e⟩ := of_inv hj
  have H : ∃ i a, h[i]? = some a ∧ a.reg = r ∧ rk (ofP r) h i = j := ⟨i, a, hi, hr, e⟩
  unfold og
  rw [dif_pos H]
  obtain ⟨b, hb, hbr, e2⟩ := H.choose_spec
  have := rk_inj (ofP r) hb hi (by simp [ofP, hbr]) (by simp [ofP, hr]) (e2.trans e.symm)
  rw [this] at hb e2 ⊢
  cases hi.symm.trans hb
  exact ⟨hi, hr, e2⟩
theorem og_rk {h : List Op} {r : Int} {i : Nat} {a : Op} (hi : h[i]? = some a) (hr : a.reg = r) : og h r (rk (ofP r) h i) = i := by
  obtain ⟨h1, h2, h3⟩ := og_spec (of_get hi hr)
  exact rk_inj (ofP r) h1 hi (by simp [ofP, h2]) (by simp [ofP, hr]) h3
theorem vd_of {h : List Op} {r : Nat} {m : List Nat} (E : Ext (ofL h r) [] m) : Vd h r (m.map (og h r)) := by
  have G := E.gd (Gd.nil _)
  have hinj : ∀ x ∈ m, ∀ y ∈ m, og h r x = og h r y → x = y := fun x hx y hy e => by
    obtain ⟨a, ha⟩ := get_of_lt (G.lt x hx)
    obtain ⟨b, hb⟩ := get_of_lt (G.lt y hy)
    rw [← (og_spec ha).2.2, ← (og_spec hb).2.2, e]
  have hregs : ∀ (l : List Nat) (R : Nat → Int), (∀ j ∈ l, j < (ofL h r).length) → (l.map (og h r)).foldl (goR h) R = l.foldl (goR (ofL h r)) R := by
    intro l
    induction l with
    | nil => intro R _; rfl
    | cons j l ih =>
      intro R hl
      obtain ⟨a, ha⟩ := get_of_lt (hl j (by simp))
      rw [List.map_cons, List.foldl_cons, List.foldl_cons, show goR h R (og h r j) = goR (ofL h r) R j by unfold goR; rw [(og_spec ha).1, ha]]
      exact ih _ fun k hk => hl k (by simp [hk])
  refine ⟨?_, ?_, fun i a hi hr h0 => ?_, fun q i a hq hi => ?_⟩
  · have hp : m.Pairwise (fun x y => og h r x ≠ og h r y) := by
      have := G.nd
      refine List.Pairwise.imp_of_mem ?_ this
      exact fun {x y} hx hy hne e => hne (hinj x hx y hy e)
    exact List.pairwise_map.2 hp
  · intro i hi
    obtain ⟨j, hj, rfl⟩ := List.mem_map.1 hi
    obtain ⟨a, ha⟩ := get_of_lt (G.lt j hj)
    exact ⟨a, (og_spec ha).1, (og_spec ha).2.1⟩
  · exact List.mem_map.2 ⟨_, fullB_iff.1 E.full _ a (of_get hi hr) h0, og_rk hi hr⟩
  · rw [List.getElem?_map] at hq
    cases e : m[q]? with
    | none => rw [e] at hq; cases hq
    | some j =>
      rw [e] at hq; cases hq
      have hm := E.at q j (Nat.zero_le _) e
      obtain ⟨b, hb⟩ := get_of_lt (mayB_lt hm).1
      obtain ⟨g1, g2, g3⟩ := og_spec hb
      cases hi.symm.trans g1
      obtain ⟨h1, h2, h3⟩ := (mayB_iff hb).1 hm
      refine ⟨h2.imp id fun p => ⟨p.1, ?_⟩, fun k c hk hkr hkm hab => h3 _ c (of_get hk hkr) (fun hm' => hkm ?_) hab⟩
      · have p2 := p.2
        rw [g2] at p2
        rw [← p2]
        unfold regsL
        rw [← List.map_take, hregs _ _ fun j hj => G.lt j (List.mem_of_mem_take hj)]
        rfl
      · rw [← List.map_take]
        exact List.mem_map.2 ⟨_, hm', og_rk hk hkr⟩
theorem take_mem {α : Type} {l : List α} {k : Nat} {x y : α} (h : l[k]? = some y) : x ∈ l.take (k + 1) ↔ x ∈ l.take k ∨ x = y := by
  rw [take_of h, List.mem_append]; simp
theorem min_head {h : List Op} (M : Nat → List Nat) (k : Nat → Nat) (hv : ∀ r, r < 4 → Vd h r (M r)) (hex : ∃ r, r < 4 ∧ k r < (M r).length) :
    ∃ (r i : Nat) (a : Op), r < 4 ∧ (M r)[k r]? = some i ∧ h[i]? = some a ∧ ∀ (r' i' : Nat) (a' : Op), r' < 4 → (M r')[k r']? = some i' → h[i']? = some a' → a.fr.toNat ≤ a'.fr.toNat := by
  obtain ⟨r, hr, hk⟩ := hex
  obtain ⟨i, hi⟩ := get_of_lt hk
  obtain ⟨a, ha, _⟩ := (hv r hr).reg i (List.mem_of_getElem? hi)
  obtain ⟨t, ⟨r, i, a, hr, hi, ha, e⟩, hmin⟩ := least_nat (p := fun t => ∃ (r i : Nat) (a : Op), r < 4 ∧ (M r)[k r]? = some i ∧ h[i]? = some a ∧ a.fr.toNat = t) _ ⟨r, i, a, hr, hi, ha, rfl⟩
  exact ⟨r, i, a, hr, hi, ha, fun r' i' a' h1 h2 h3 => by rw [e]; exact hmin _ ⟨r', i', a', h1, h2, h3, rfl⟩⟩
theorem all_of {h : List Op} (hok : OkH h) (M : Nat → List Nat) (hv : ∀ r, r < 4 → Vd h r (M r)) : ∀ (d : Nat) (k : Nat → Nat) (l : List Nat),
    ((M 0).length - k 0) + ((M 1).length - k 1) + ((M 2).length - k 2) + ((M 3).length - k 3) = d → Gd h l →
    (∀ (i : Nat) (a : Op), h[i]? = some a → (i ∈ l ↔ i ∈ (M a.reg.toNat).take (k a.reg.toNat))) → (∀ r, r < 4 → regsL h l r = regsL h ((M r).take (k r)) r) → ∃ m, Ext h l m := by
  intro d
  induction d with
  | zero =>
    intro k l hd G hm _
    refine ⟨l, .done (fullB_iff.2 fun i a hi h0 => (hm i a hi).2 ?_)⟩
    have hr := hok.reg _ _ hi
    have := (hv a.reg.toNat (by omega)).all i a hi (by omega) h0
    have hk : (M a.reg.toNat).length ≤ k a.reg.toNat := by
      rcases (show a.reg.toNat = 0 ∨ a.reg.toNat = 1 ∨ a.reg.toNat = 2 ∨ a.reg.toNat = 3 by omega) with e | e | e | e <;> rw [e] <;> omega
    rw [List.take_of_length_le hk]; exact this
  | succ d ih =>
    intro k l hd G hm hR
    obtain ⟨r, i, a, hr, hi, ha, hmin⟩ := min_head M k hv (by
      rcases (show k 0 < (M 0).length ∨ k 1 < (M 1).length ∨ k 2 < (M 2).length ∨ k 3 < (M 3).length by omega) with e | e | e | e
      · exact ⟨0, by omega, e⟩
      · exact ⟨1, by omega, e⟩
      · exact ⟨2, by omega, e⟩
      · exact ⟨3, by omega, e⟩)
    obtain ⟨a2, ha2, har⟩ := (hv r hr).reg i (List.mem_of_getElem? hi)
    cases ha.symm.trans ha2
    have hart : a.reg.toNat = r := by omega
    have hnot : ¬ i ∈ (M r).take (k r) := fun hmm => by
      have hnd := (hv r hr).nd
      have hsp : (M r) = (M r).take (k r) ++ (M r).drop (k r) := (List.take_append_drop ..).symm
      rw [hsp, List.nodup_append] at hnd
      exact hnd.2.2 i hmm i (by rw [List.drop_eq_getElem_cons (List.getElem?_eq_some_iff.1 hi).1, (List.getElem?_eq_some_iff.1 hi).2]; simp) rfl
    obtain ⟨v1, v2⟩ := (hv r hr).may (k r) i a hi ha
    have hmay : mayB h l i = true := (mayB_iff ha).2 ⟨fun hmm => hnot (hart ▸ (hm i a ha).1 hmm), by rw [hart, hR r hr]; exact v1, fun j b hj hjl hab => by
      obtain ⟨b0, b1⟩ := aheadB_iff.1 hab
      have hbr := hok.reg _ _ hj
      have har2 := hok.reg _ _ ha
      have hbM := (hv b.reg.toNat (by omega)).all j b hj (by omega) b0
      have hbn : ¬ j ∈ (M b.reg.toNat).take (k b.reg.toNat) := fun q => hjl ((hm j b hj).2 q)
      have hkl : k b.reg.toNat < (M b.reg.toNat).length := Nat.lt_of_not_le fun hle => hbn (by rw [List.take_of_length_le hle]; exact hbM)
      obtain ⟨y, hy⟩ := get_of_lt hkl
      obtain ⟨c, hc, hcr⟩ := (hv b.reg.toNat (by omega)).reg y (List.mem_of_getElem? hy)
      have hcf := hok.reg _ _ hc
      have h1 := hmin _ y c (by omega) hy hc
      have h2 := ((hv b.reg.toNat (by omega)).may _ y c hy hc).2 j b hj (by omega) hbn
      rw [aheadB_iff] at h2
      omega⟩
    have G2 := G.may hmay
    obtain ⟨m, E⟩ := ih (fun s => if s = r then k r + 1 else k s) (l ++ [i]) (by
      have := (List.getElem?_eq_some_iff.1 hi).1
      rcases (show r = 0 ∨ r = 1 ∨ r = 2 ∨ r = 3 by omega) with e | e | e | e <;> subst e <;> simp <;> omega) G2 (fun j b hj => by
        rw [List.mem_append]
        by_cases e : b.reg.toNat = r
        · rw [e, if_pos rfl, take_mem hi, hm j b hj, e]; simp
        · rw [if_neg e, hm j b hj]
          constructor
          · rintro (q | q)
            · exact q
            · simp at q; subst q; cases ha.symm.trans hj; exact absurd hart e
          · exact .inl) (fun s hs => by
        rw [regsL_snoc ha]
        by_cases e : s = r
        · subst e
          rw [if_pos rfl, take_of hi, regsL_snoc ha]
          unfold stepR
          split
          · unfold updR; rw [hart]; simp
          · exact hR s hs
        · rw [if_neg e]
          unfold stepR
          split
          · unfold updR; rw [if_neg (by omega)]; exact hR s hs
          · exact hR s hs)
    exact ⟨m, .step hmay E⟩
theorem local_is {h : List Op} (hok : OkH h) : (FL h []).isSome = true ↔ ∀ r : Nat, r < 4 → (FL (ofL h r) []).isSome = true := by
  constructor
  · intro H r hr
    obtain ⟨m, E⟩ := FL_iff.1 H
    exact FL_iff.2 ⟨_, ext_trO (by omega) hok E (Gd.nil h)⟩
  · intro H
    have hM : ∀ r : Nat, ∃ M, r < 4 → Vd h r M := fun r => by
      by_cases hr : r < 4
      · obtain ⟨m, E⟩ := FL_iff.1 (H r hr)
        exact ⟨_, fun _ => vd_of E⟩
      · exact ⟨[], fun q => absurd q hr⟩
    refine FL_iff.2 (all_of hok (fun r => (hM r).choose) (fun r hr => (hM r).choose_spec hr) _ (fun _ => 0) [] rfl (Gd.nil h) (fun i a hi => by simp) (fun r hr => rfl))
end Go.Proofs.Ytocgifddjpbmlaa
