/- What is put in while it is dropped is in. In plain words. No condition. -/
import Derived.Test.YtfpkfbffpkjgbaaA18
namespace Go.Proofs.Ytfpkfbffpkjgbaa
open Go.RowKit
set_option linter.unusedVariables false
set_option linter.unusedSimpArgs false
set_option maxRecDepth 100000

theorem nxt_gt {l : List Dt} {who : Int} : ∀ e ∈ l, e.who = who → e.n + 1 ≤ nxt l who := by
  have mono : ∀ (l : List Dt) (k : Int), k ≤ l.foldl (fun k d => if d.who = who then mx2 k (d.n + 1) else k) k := fun l => by
    induction l with
    | nil => intro k; exact Int.le_refl _
    | cons d l ih =>
      intro k
      rw [List.foldl_cons]
      refine Int.le_trans ?_ (ih _)
      split
      · exact (mx2_le _ _).1
      · exact Int.le_refl _
  have key : ∀ (l : List Dt) (k : Int), ∀ e ∈ l, e.who = who → e.n + 1 ≤ l.foldl (fun k d => if d.who = who then mx2 k (d.n + 1) else k) k := fun l => by
    induction l with
    | nil => intro k e he; cases he
    | cons d l ih =>
      intro k e he hw
      rw [List.foldl_cons]
      rcases List.mem_cons.1 he with rfl | he
      · refine Int.le_trans ?_ (mono l _)
        rw [if_pos hw]; exact (mx2_le _ _).2
      · exact ih _ e he hw
  exact key l 1
def addS (it : Int) : Sy := ⟨3, 0, 0, it, 0⟩
def dropS (it : Int) : Sy := ⟨4, 1, 0, it, 0⟩
def addL (it : Int) (dr : Bool) : List Sy := if dr = true then [] else [addS it]
theorem good_of {n : Nat} {k : Int} {c : Cp} (h : CpB n k c) (h1 : 1 ≤ n) (h6 : n ≤ 6) : GoodC n c := by
  have hla := h.la
  have hD : ∀ l : List Dt, (∀ d ∈ l, DtB n k d) → l.any (badD n) = false := fun l hl => by
    rw [List.any_eq_false]
    intro d hd
    have := hl d hd
    unfold DtB at this
    unfold badD
    rw [decide_eq_true_eq]; omega
  refine ⟨?_, ?_, up_rises h.au, up_rises h.gu⟩
  · unfold big; exact decide_eq_false (by have := h.al; have := h.gl; omega)
  · unfold badC
    rw [hD _ h.ar, hD _ h.gr, Bool.or_false, Bool.or_false, show c.cn.any badV = false from by
      rw [List.any_eq_false]
      intro v hv
      have := h.cv v hv
      unfold badV; rw [decide_eq_true_eq]; omega, Bool.or_false]
    unfold baseB
    exact decide_eq_false (by have := h.cn; omega)
section
variable {s : List Cp} {a b c : Cp} {it : Int}
theorem filter_drop {l : List Dt} {d : Dt} : d ∈ l.filter (fun d => !decide (d.item ≠ it)) ↔ d ∈ l ∧ d.item = it := by
  rw [List.mem_filter]; simp
theorem drop_step (h1 : s[1]? = some b) (hu : Up b.ad) (hgo : ∀ d ∈ b.go, d ∈ b.ad) (hl : b.ad.length ≤ 60) (hit : 0 ≤ it ∧ it < 4) : stepM 2 s (dropS it) = (0, s.set 1 ⟨b.cn, b.la, b.ad, uni b.go (b.ad.filter fun d => !decide (d.item ≠ it))⟩) := by
  have hw : wrongC (2 : Nat) (dropS it) = 0 := by
    unfold wrongC dropS
    rw [if_neg (by unfold kindBad; dsimp only; omega), if_neg (by unfold argBad; dsimp only; omega)]
  have hlen : (uni b.go (b.ad.filter fun d => !decide (d.item ≠ it))).length ≤ 60 := Nat.le_trans (nodup_len uni_up.nodup (m := b.ad) fun d hd => by
    rcases uni_mem.1 hd with q | q
    · exact hgo d q
    · exact (filter_drop.1 q).1) hl
  have hc : chg s b 1 (dropS it) = (0, ⟨b.cn, b.la, b.ad, uni b.go (b.ad.filter fun d => !decide (d.item ≠ it))⟩) := by
    rw [chg_k4 (by rfl)]
    exact szC_neg (c := ⟨b.cn, b.la, b.ad, uni b.go (b.ad.filter fun d => !decide (d.item ≠ it))⟩) (big_ok hl hlen)
  rw [stepM_ok (i := 1) hw rfl h1 (by rw [hc]), hc]
theorem add_step (h0 : s[0]? = some a) (hl : a.ad.length ≤ 59) (hg : a.go.length ≤ 60) (hit : 0 ≤ it ∧ it < 4) : stepM 2 s (addS it) = (0, s.set 0 ⟨a.cn, a.la, uni a.ad [⟨it, 0, nxt a.ad 0⟩], a.go⟩) := by
  have hw : wrongC (2 : Nat) (addS it) = 0 := by
    unfold wrongC addS
    rw [if_neg (by unfold kindBad; dsimp only; omega), if_neg (by unfold argBad; dsimp only; omega)]
  have hlen : (uni a.ad [⟨it, 0, nxt a.ad 0⟩]).length ≤ 60 := by have := uni_len a.ad [⟨it, 0, nxt a.ad 0⟩]; rw [List.length_singleton] at this; omega
  have hc : chg s a 0 (addS it) = (0, ⟨a.cn, a.la, uni a.ad [⟨it, 0, nxt a.ad 0⟩], a.go⟩) := by
    rw [chg_k3 (by rfl)]
    exact szC_neg (c := ⟨a.cn, a.la, uni a.ad [⟨it, 0, nxt a.ad 0⟩], a.go⟩) (big_ok hlen hg)
  rw [stepM_ok (i := 0) hw rfl h0 (by rw [hc]), hc]
end
theorem adds_law {xs : List Sy} {it : Int} {dr : Bool} (hx : xs.length ≤ 58) (hit : 0 ≤ it ∧ it < 4) : (stM 2 (ms0 2) (((xs ++ tms 2 2) ++ addL it dr) ++ [dropS it] ++ tms 2 2)).length = 2 ∧ ∀ c ∈ stM 2 (ms0 2) (((xs ++ tms 2 2) ++ addL it dr) ++ [dropS it] ++ tms 2 2), (∃ d ∈ c.ad, d ∉ c.go ∧ d.item = it) ↔ dr = false := by
  obtain ⟨G, hI⟩ := InvM.run xs (InvM.start (n := 2) (by omega)) (Int.le_refl 0)
  have hA : 0 + adds xs ≤ 58 := by have := adds_len xs; omega
  obtain ⟨G1, hI1⟩ := InvM.run (tms 2 2) hI (by omega)
  obtain ⟨G2, hI2⟩ := InvM.run (((xs ++ tms 2 2) ++ addL it dr) ++ [dropS it]) (InvM.start (n := 2) (by omega)) (Int.le_refl 0)
  have hA2 : 0 + adds (((xs ++ tms 2 2) ++ addL it dr) ++ [dropS it]) ≤ 60 := by
    have h1 : adds (addL it dr) ≤ 1 := Nat.le_trans (adds_len _) (by unfold addL; split <;> simp)
    have h2 : adds [dropS it] = 0 := rfl
    rw [adds_app, adds_app, adds_app, adds_tms, h2]; omega
  have hm := hI.meets (show 0 + adds xs ≤ 60 by omega)
  obtain ⟨hs1, hs2⟩ := hI2.sync hA2
  rw [stM_app _ (tms 2 2)]
  refine ⟨hs1, fun c hc => ?_⟩
  have hj := hs2 c hc
  have hl1 := hI1.bd.len
  obtain ⟨a, ha⟩ := get_of_lt (xs := stM 2 (stM 2 (ms0 2) xs) (tms 2 2)) (k := 0) (by omega)
  obtain ⟨b, hb⟩ := get_of_lt (xs := stM 2 (stM 2 (ms0 2) xs) (tms 2 2)) (k := 1) (by omega)
  have hab := hm a (List.mem_of_getElem? ha) b (List.mem_of_getElem? hb)
  subst hab
  have ham := List.mem_of_getElem? ha
  have hac := hI1.bd.all a ham
  have hgo := hI1.goA a ham
  have hal : a.ad.length ≤ 58 := by
    have h1 := nodup_len hac.au.nodup (hI1.adG a ham)
    have h2 := hI1.gl
    rw [adds_tms] at h2; omega
  obtain ⟨s, hs⟩ : ∃ s, s = stM 2 (stM 2 (ms0 2) xs) (tms 2 2) := ⟨_, rfl⟩
  rw [← hs] at ha hb hl1
  have hst : stM 2 (ms0 2) (((xs ++ tms 2 2) ++ addL it dr) ++ [dropS it]) = (stepM 2 (stM 2 s (addL it dr)) (dropS it)).2 := by
    rw [stM_app, stM_app, stM_app, ← hs]; rfl
  rw [hst] at hj
  cases dr with
  | true =>
    have e1 : stM 2 s (addL it true) = s := rfl
    rw [e1, drop_step hb hac.au hgo hac.al hit] at hj
    refine ⟨fun ⟨d, h1, h2, h3⟩ => ?_, fun h => by cases h⟩
    exfalso
    refine h2 ((hj.go d).2 ⟨1, _, by omega, List.getElem?_set_self (by omega), uni_mem.2 (.inr (filter_drop.2 ⟨?_, h3⟩))⟩)
    obtain ⟨i, x, q1, q2, q3⟩ := (hj.ad d).1 h1
    rcases at_set (by omega) q2 with ⟨_, rfl⟩ | ⟨e, q2⟩
    · exact q3
    · obtain rfl : i = 0 := by omega
      rw [ha] at q2; cases q2; exact q3
  | false =>
    have e1 : stM 2 s (addL it false) = (stepM 2 s (addS it)).2 := rfl
    rw [e1, add_step ha (by omega) hac.gl hit] at hj
    dsimp only at hj
    rw [drop_step (by rw [List.getElem?_set_ne (by omega)]; exact hb) hac.au hgo hac.al hit] at hj
    refine ⟨fun _ => rfl, fun _ => ?_⟩
    have hnew : (⟨it, 0, nxt a.ad 0⟩ : Dt) ∉ a.ad := fun q => by
      have := nxt_gt _ q rfl
      dsimp only at this; omega
    refine ⟨⟨it, 0, nxt a.ad 0⟩, (hj.ad _).2 ⟨0, _, by omega, (List.getElem?_set_ne (by omega)).trans (List.getElem?_set_self (by omega)), uni_mem.2 (.inr List.mem_cons_self)⟩, fun q => ?_, rfl⟩
    obtain ⟨i, x, q1, q2, q3⟩ := (hj.go _).1 q
    rcases at_set (by rw [List.length_set]; omega) q2 with ⟨_, rfl⟩ | ⟨e, q2⟩
    · rcases uni_mem.1 q3 with r | r
      · exact hnew (hgo _ r)
      · exact hnew (filter_drop.1 r).1
    · obtain rfl : i = 0 := by omega
      rw [List.getElem?_set_self (by omega)] at q2; cases q2
      exact hnew (hgo _ q3)
end Go.Proofs.Ytfpkfbffpkjgbaa
