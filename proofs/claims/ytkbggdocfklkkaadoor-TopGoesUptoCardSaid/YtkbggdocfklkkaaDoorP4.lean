/- It goes on: what is paid. In plain words. No condition. -/
import Derived.Test.YtkbggdocfklkkaaDoorK3
namespace Go.Proofs.YtkbggdocfklkkaaDoor.Mt
open Go.RowKit
set_option linter.unusedVariables false
set_option linter.unusedSimpArgs false
set_option maxRecDepth 100000

theorem goes_bl {T t k f : Nat} {c : MC} {s : MS} (bd : BdM T c s) (o : OkM c) (iv : InvM c s) (fw : Few c f) (kn : KnI c s) (tp : TopI t c s) (hb : ∀ b, b < s.bl.length → rndM s b ≤ t)
    (hk : k < s.bl.length) (hkc : certM c s k = true) (hkb : ∀ b, b < s.bl.length → certM c s b = true → rndM s b ≤ rndM s k) (ht : t + 3 ≤ 1000) (h40 : s.bl.length + 2 ≤ 40) : (stM c s (goesL c.n k t s.bl.length)).bl = s.bl ++ [⟨(k : Int), t + 2⟩] ++ [⟨(s.bl.length : Int), t + 3⟩] := by
  have hn7 := o.n7
  have hvl := bd.vlen
  have hpos := bd.pos
  have hkt := hb k hk
  have hnd := fw.sum
  have hfw := fw.few
  have p1 := Ph1.all (t := t) o hk hkc (by omega) (by omega) ⟨rfl, rfl, bd.mlen, fun j hj => by
    obtain ⟨b, h1, h2, h3⟩ := kn j hj
    have := hkb b h1 h2
    have := tp.vo j hj
    omega, fun j _ h => absurd h (Nat.not_lt_zero _), fun j _ hj => tp.gv j hj⟩ c.n (Nat.le_refl _)
  unfold goesL
  rw [stM_app]
  obtain ⟨s1, hs1⟩ : ∃ s1, s1 = stM c s (pairsL k (t + 1) c.n) := ⟨_, rfl⟩
  rw [← hs1] at p1 ⊢
  rw [stM_app, block_step (by rw [p1.bl]; exact hk) (by rw [p1.cert]; exact hkc) (by rw [p1.rnd]; omega) (by omega) (by rw [p1.bl]; omega)]
  obtain ⟨s2, hs2⟩ : ∃ s2 : MS, s2 = ⟨s1.bl ++ [⟨(k : Int), t + 2⟩], s1.vt ++ [0], s1.ms, s1.lt, s1.gv⟩ := ⟨_, rfl⟩
  rw [← hs2]
  have b2 : s2.bl = s.bl ++ [⟨(k : Int), t + 2⟩] := by rw [hs2, ← p1.bl]
  have v2 : ∀ b, voteM s2 b = voteM s b := fun b => by rw [hs2, vote_app]; unfold voteM; rw [p1.vt]
  have l2 : s2.bl.length = s.bl.length + 1 := by rw [b2]; simp
  have vl2 : s2.vt.length = s2.bl.length := by rw [l2, hs2]; simp [p1.vt, hvl]
  have ra : s2.bl[s.bl.length]? = some ⟨(k : Int), t + 2⟩ := by rw [b2, List.getElem?_append_right (Nat.le_refl _), Nat.sub_self]; rfl
  have old2 : ∀ b, b < s.bl.length → s2.bl[b]? = s.bl[b]? := fun b hb => by rw [b2, app_lt hb]
  have rk2 : rndM s2 k = rndM s k := by unfold rndM; rw [old2 k hk]
  have pa : parM s2 s.bl.length = k := by rw [parM_of ra]; rfl
  have va : voteM s2 s.bl.length = 0 := by rw [v2]; unfold voteM; rw [List.getElem?_eq_none (by omega)]; rfl
  have p3 := Ph3.all (c := c) (s := s2) (b := s.bl.length) (r := t + 2) hpos (by omega) vl2 (rndM_of ra) (.inr (by
    rw [pa, rk2, show t + 2 - 1 = t + 1 from rfl]
    exact pass_all o fw fun j h1 h2 => by rw [hs2]; exact p1.told j h1 h2)) ⟨rfl, rfl, rfl, by rw [hs2]; exact p1.ml, fun _ _ => rfl, fun j h => absurd h (Nat.not_lt_zero _), fun j _ => by rw [va]; exact Nat.zero_testBit j, fun j hj => by
    have : memM s2 j = memM s1 j := by rw [hs2]; rfl
    rw [this]
    have := (p1.vo j hj).1
    omega⟩ c.n (Nat.le_refl _)
  rw [stM_app]
  obtain ⟨s3, hs3⟩ : ∃ s3, s3 = stM c s2 (votesL s.bl.length c.n) := ⟨_, rfl⟩
  rw [← hs3] at p3 ⊢
  have c3 : certM c s3 s.bl.length = true := by
    unfold certM
    exact decide_eq_true (.inr (Nat.le_trans (by omega) (pop_all (by omega) fun j hj => p3.done j hj)))
  have k3 : certM c s3 k = true := by
    unfold certM at hkc ⊢
    rw [p3.other k (by omega), v2]; exact hkc
  have ra3 : rndM s3 s.bl.length = t + 2 := by rw [p3.rnd, rndM_of ra]
  rw [stM_app, block_step (by rw [p3.bl, l2]; omega) c3 (by rw [ra3]; omega) (by omega) (by rw [p3.bl, l2]; omega)]
  obtain ⟨s4, hs4⟩ : ∃ s4 : MS, s4 = ⟨s3.bl ++ [⟨(s.bl.length : Int), t + 3⟩], s3.vt ++ [0], s3.ms, s3.lt, s3.gv⟩ := ⟨_, rfl⟩
  rw [← hs4]
  have b4 : s4.bl = s2.bl ++ [⟨(s.bl.length : Int), t + 3⟩] := by rw [hs4, ← p3.bl]
  have v4 : ∀ b, voteM s4 b = voteM s3 b := fun b => by rw [hs4, vote_app]
  have l4 : s4.bl.length = s.bl.length + 2 := by rw [b4]; simp [l2]
  have vl4 : s4.vt.length = s4.bl.length := by rw [l4, hs4]; simp [p3.vl, vl2, l2]
  have rb : s4.bl[s.bl.length + 1]? = some ⟨(s.bl.length : Int), t + 3⟩ := by rw [b4, List.getElem?_append_right (by omega), l2, Nat.sub_self]; rfl
  have old4 : ∀ b, b < s.bl.length + 1 → s4.bl[b]? = s2.bl[b]? := fun b hb => by rw [b4, app_lt (by omega)]
  have ra4 : rndM s4 s.bl.length = t + 2 := by unfold rndM; rw [old4 _ (by omega), ra]; rfl
  have pb : parM s4 (s.bl.length + 1) = s.bl.length := by rw [parM_of rb]; rfl
  have vb : voteM s4 (s.bl.length + 1) = 0 := by rw [v4]; unfold voteM; rw [List.getElem?_eq_none (by rw [p3.vl, vl2, l2]; exact Nat.le_refl _)]; rfl
  have p5 := Ph3.all (c := c) (s := s4) (b := s.bl.length + 1) (r := t + 3) (by omega) (by omega) vl4 (rndM_of rb) (.inl (by rw [pb, ra4])) ⟨rfl, rfl, rfl, by rw [hs4]; exact p3.ml, fun _ _ => rfl, fun j h => absurd h (Nat.not_lt_zero _), fun j _ => by rw [vb]; exact Nat.zero_testBit j, fun j hj => by
    have : memM s4 j = memM s3 j := by rw [hs4]; rfl
    rw [this]
    have := (p3.vo j hj).1
    omega⟩ c.n (Nat.le_refl _)
  obtain ⟨s5, hs5⟩ : ∃ s5, s5 = stM c s4 (votesL (s.bl.length + 1) c.n) := ⟨_, rfl⟩
  rw [← hs5] at p5 ⊢
  rw [p5.bl, b4, b2]
end Go.Proofs.YtkbggdocfklkkaaDoor.Mt
namespace Go.Proofs.YtkbggdocfklkkaaDoor
theorem pathN_fuel (l : List (Int × Int)) (h : Chn.OkC l) : ∀ (n m b : Nat), b ≤ n → b ≤ m → b < l.length → Chn.ups l n b = Chn.ups l m b
  | 0, 0, _, _, _, _ => rfl
  | 0, m + 1, b, h1, _, _ => by
    obtain rfl : b = 0 := by omega
    rfl
  | n + 1, 0, b, _, h1, _ => by
    obtain rfl : b = 0 := by omega
    rfl
  | n + 1, m + 1, b, h1, h2, h3 => by
    unfold Chn.ups
    split
    · rfl
    · rename_i h0
      have := h.prlt (by omega) h3
      rw [pathN_fuel l h n m (Chn.pr l b) (by omega) (by omega) (by omega)]
theorem path_up {l : List (Int × Int)} (h : Chn.OkC l) {b : Nat} (h0 : 0 < b) (hb : b < l.length) : Chn.pathL l b = Chn.pathL l (Chn.pr l b) ++ [(b : Int)] := by
  have hp := h.prlt h0 hb
  obtain ⟨n, rfl⟩ : ∃ n, b = n + 1 := ⟨b - 1, by omega⟩
  unfold Chn.pathL
  rw [show Chn.ups l (n + 1) (n + 1) = (n + 1) :: Chn.ups l n (Chn.pr l (n + 1)) from if_neg (by omega), pathN_fuel l h n (Chn.pr l (n + 1)) (Chn.pr l (n + 1)) (by omega) (Nat.le_refl _) (by omega)]
  simp [Chn.nI]
theorem path_zero (l : List (Int × Int)) : Chn.pathL l 0 = [0] := rfl
theorem path_anc {l : List (Int × Int)} (h : Chn.OkC l) {a b : Nat} (ha : Chn.Anc l a b) (hb : b < l.length) : ∃ t, Chn.pathL l b = Chn.pathL l a ++ t := by
  induction ha with
  | self => exact ⟨[], (List.append_nil _).symm⟩
  | step h0 _ ih =>
    have hp := h.prlt h0 hb
    obtain ⟨t, ht⟩ := ih (by omega)
    exact ⟨t ++ [_], by rw [path_up h h0 hb, ht, List.append_assoc]⟩
theorem path_lt {l : List (Int × Int)} (h : Chn.OkC l) {b : Nat} {x : Int} (hb : b < l.length) (hx : x ∈ Chn.pathL l b) : ∃ k : Nat, x = (k : Int) ∧ k ≤ b := by
  unfold Chn.pathL Chn.nI at hx
  rw [List.mem_reverse, List.mem_map] at hx
  obtain ⟨k, h1, rfl⟩ := hx
  exact ⟨k, rfl, h.anc_le ((h.ups_mem b b (Nat.le_refl _) hb k).1 h1) hb⟩
/-- a longer list of blocks: the paths are as they were -/
theorem path_keep {l l' : List (Int × Int)} (h : Chn.OkC l) (h' : Chn.OkC l') (he : ∀ b, b < l.length → l'[b]? = l[b]?) (hl : l.length ≤ l'.length) : ∀ (n b : Nat), b ≤ n → b < l.length → Chn.pathL l' b = Chn.pathL l b
  | 0, b, h1, _ => by
    obtain rfl : b = 0 := by omega
    rfl
  | n + 1, b, h1, h2 => by
    by_cases h0 : b = 0
    · subst h0; rfl
    · have e : Chn.pr l' b = Chn.pr l b := by unfold Chn.pr; rw [he b h2]
      have hp := h.prlt (by omega) h2
      rw [path_up h (by omega) h2, path_up h' (by omega) (by omega), e, path_keep h h' he hl n _ (by omega) (by omega)]
/-- what the rows give, filled up, and one more -/
def rowAt (pays : List Row) (k : Nat) : Row := (pays[k]?).getD ⟨none, [], 0⟩
def ownL (pays : List Row) (k : Nat) : List Row := (List.range k).map (rowAt pays)
theorem ownL_len (pays : List Row) (k : Nat) : (ownL pays k).length = k := by unfold ownL; rw [List.length_map, List.length_range]
theorem ownL_succ (pays : List Row) (k : Nat) : ownL pays (k + 1) = ownL pays k ++ [rowAt pays k] := by unfold ownL; rw [List.range_succ, List.map_append]; rfl
theorem rowAt_in {pays : List Row} {k : Nat} {r : Row} (h : pays[k]? = some r) : rowAt pays k = r := by unfold rowAt; rw [h]; rfl
theorem rowAt_out {pays : List Row} {k : Nat} (h : pays.length ≤ k) : rowAt pays k = ⟨none, [], 0⟩ := by unfold rowAt; rw [List.getElem?_eq_none h]; rfl
theorem ownL_mem {pays : List Row} {k : Nat} {r : Row} (h : r ∈ ownL pays k) : r ∈ pays ∨ r = ⟨none, [], 0⟩ := by
  unfold ownL at h
  obtain ⟨i, _, rfl⟩ := List.mem_map.1 h
  unfold rowAt
  cases e : pays[i]? with
  | none => exact .inr rfl
  | some r => exact .inl (List.mem_of_getElem? e)
theorem own_at {pays : List Row} {k a : Nat} {m : Row} (h : k < a) : paysAt (ownL pays a ++ [m]) k = paysAt pays k := by
  unfold paysAt
  rw [List.getElem?_append_left (by rw [ownL_len]; exact h)]
  unfold ownL
  rw [List.getElem?_map, List.getElem?_range h]
  show ((some (rowAt pays k)).map Row.xs).getD [] = _
  unfold rowAt
  cases pays[k]? <;> rfl
theorem own_last {pays : List Row} {a : Nat} {m : Row} : paysAt (ownL pays a ++ [m]) a = m.xs := by
  refine paysAt_in ?_
  rw [List.getElem?_append_right (by rw [ownL_len]; exact Nat.le_refl _), ownL_len, Nat.sub_self]; rfl
theorem paid_same {pays own : List Row} : ∀ {p : List Int}, (∀ x ∈ p, paysAt own x.toNat = paysAt pays x.toNat) → paidL own p = paidL pays p
  | [], _ => rfl
  | x :: p, h => by
    have e : ∀ (q : List Row), paidL q (x :: p) = paysAt q x.toNat ++ paidL q p := fun _ => rfl
    rw [e, e, h x (List.mem_cons_self ..), paid_same fun y hy => h y (List.mem_cons_of_mem _ hy)]
theorem paid_app (pays : List Row) (p q : List Int) : paidL pays (p ++ q) = paidL pays p ++ paidL pays q := List.flatMap_append ..
/-- all that was paid comes first, more comes last -/
theorem top_paid {T t k f : Nat} {c : Mt.MC} {s : Mt.MS} {pays : List Row} {m : Row} {ds ds2 : List Bool} (bd : Mt.BdM T c s) (o : Mt.OkM c) (iv : Mt.InvM c s) (fw : Mt.Few c f) (kn : Mt.KnI c s) (tp : Mt.TopI t c s) (hb : ∀ b, b < s.bl.length → Mt.rndM s b ≤ t)
    (hk : k < s.bl.length) (hkc : Mt.certM c s k = true) (hkb : ∀ b, b < s.bl.length → Mt.certM c s b = true → Mt.rndM s b ≤ Mt.rndM s k) (ht : t + 3 ≤ 1000) (h40 : s.bl.length + 2 ≤ 40)
    (hds : Chn.IsDec (Mt.blsP s.bl) (Mt.certL c s) s.bl.length ds) (hds2 : Chn.IsDec (Mt.blsP (Mt.stM c s (Mt.goesL c.n k t s.bl.length)).bl) (Mt.certL c (Mt.stM c s (Mt.goesL c.n k t s.bl.length))) (Mt.stM c s (Mt.goesL c.n k t s.bl.length)).bl.length ds2) {T2 : Nat} (bd2 : Mt.BdM T2 c (Mt.stM c s (Mt.goesL c.n k t s.bl.length))) :
    ∃ r, paysB (Mt.stM c s (Mt.goesL c.n k t s.bl.length)).bl ds2 (ownL pays s.bl.length ++ [m]) = paysB s.bl ds pays ++ r ++ m.xs := by
  obtain ⟨hg1, hg2, hg3⟩ := Mt.goes bd o iv fw kn tp hb hk hkc hkb ht h40
  have hbl := Mt.goes_bl bd o iv fw kn tp hb hk hkc hkb ht h40
  have iv2 : Mt.InvM c (Mt.stM c s (Mt.goesL c.n k t s.bl.length)) := Mt.InvM.run o _ bd iv
  obtain ⟨hkl, hkeep, hkc2⟩ := Mt.run_keep o (Mt.goesL c.n k t s.bl.length) bd
  have hpos := bd.pos
  generalize Mt.stM c s (Mt.goesL c.n k t s.bl.length) = s2 at hg1 hg2 hg3 hbl iv2 bd2 hkl hkeep hkc2 hds2 ⊢
  obtain ⟨a, ha⟩ : ∃ a, a = s.bl.length := ⟨_, rfl⟩
  rw [← ha] at hg1 hg2 hg3 hkl hk hpos ⊢
  have hl : (Mt.blsP s.bl).length = a := by rw [ha]; exact List.length_map ..
  have hl2 : (Mt.blsP s2.bl).length = a + 2 := by rw [← hg1]; exact List.length_map ..
  have hdl : ds.length = a := hds.1.trans hl
  have hdl2 : ds2.length = a + 2 := hds2.1.trans hl2
  have he : ∀ b, b < (Mt.blsP s.bl).length → (Mt.blsP s2.bl)[b]? = (Mt.blsP s.bl)[b]? := fun b hb => by rw [List.getElem?_map, List.getElem?_map, hkeep b (by omega)]
  have ha2 : s2.bl[a]? = some ⟨(k : Int), t + 2⟩ := by rw [hbl, List.append_assoc, List.getElem?_append_right (by omega), ← ha, Nat.sub_self]; rfl
  have da : ds2[a]? = some true := (hds2.2 a).2 ⟨a + 1, by omega, hg2⟩
  have da1 : ds2[a + 1]? = some false := by
    obtain ⟨x, hx⟩ := get_of_lt (xs := ds2) (k := a + 1) (by omega)
    cases x with
    | false => exact hx
    | true =>
      obtain ⟨q, q1, q2⟩ := (hds2.2 (a + 1)).1 hx
      obtain ⟨l0, l1, l2, l3, l4, l5⟩ := Mt.dec_lock q2
      have := (bd2.par_lt l0 l1).1
      have := bd2.okc.anc_le l5 (by omega)
      omega
  have hlast : lastB s2.bl ds2 ds2.length = some a := by
    rw [hdl2, last_no da1]
    cases e : lastB s2.bl ds2 a with
    | none => exact last_first da e
    | some b =>
      have hba := (lastB_lt e).1
      obtain ⟨x, hx⟩ := get_of_lt (xs := s.bl) (k := b) (by omega)
      refine last_up da e ha2 (by rw [hkeep b (by omega)]; exact hx) ?_
      have := hb b (by omega)
      rw [Mt.rndM_of hx] at this
      show x.rnd ≤ t + 2
      omega
  have hpr : Chn.pr (Mt.blsP s2.bl) a = k := by unfold Chn.pr; rw [List.getElem?_map, ha2]; rfl
  have hpa : Chn.pathL (Mt.blsP s2.bl) a = Chn.pathL (Mt.blsP s.bl) k ++ [(a : Int)] := by
    rw [path_up bd2.okc hpos (by omega), hpr, path_keep bd.okc bd2.okc he (by omega) k k (Nat.le_refl _) (by omega)]
  have e2 : paysB s2.bl ds2 (ownL pays a ++ [m]) = paidL pays (Chn.pathL (Mt.blsP s.bl) k) ++ m.xs := by
    unfold paysB
    rw [hlast]
    show paidL (ownL pays a ++ [m]) (Chn.pathL (Mt.blsP s2.bl) a) = _
    rw [hpa, paid_app, paid_same (pays := pays) (own := ownL pays a ++ [m]) fun x hx => by
      obtain ⟨q, rfl, hq⟩ := path_lt bd.okc (by omega) hx
      rw [Int.toNat_natCast]; exact own_at (by omega)]
    congr 1
    show paysAt _ _ ++ [] = _
    rw [List.append_nil, Int.toNat_natCast, own_last]
  rw [e2]
  have hdk : ds2[k]? = some true := (hds2.2 k).2 ⟨a + 1, by omega, hg3⟩
  cases e : lastB s.bl ds ds.length with
  | none => exact ⟨paidL pays (Chn.pathL (Mt.blsP s.bl) k), by unfold paysB; rw [e]; rfl⟩
  | some b0 =>
    obtain ⟨h1, h2⟩ := lastB_lt e
    obtain ⟨q, q1, q2⟩ := (hds.2 b0).1 h2
    have hd2 := Mt.dec_up bd (by omega) (fun b hb => hkeep b hb) hkc2 (by omega) q2
    have hanc := Mt.dec_line bd2 o iv2 fw (show b0 ≤ a by omega) hg2 hd2
    have hanc2 := bd2.okc.anc_up hanc (by omega) (by omega)
    rw [hpr] at hanc2
    obtain ⟨r, hr⟩ := path_anc bd2.okc hanc2 (by omega)
    rw [path_keep bd.okc bd2.okc he (by omega) k k (Nat.le_refl _) (by omega), path_keep bd.okc bd2.okc he (by omega) b0 b0 (Nat.le_refl _) (by omega)] at hr
    exact ⟨paidL pays r, by unfold paysB; rw [e]; show _ = paidL pays _ ++ _ ++ _; rw [hr, paid_app]⟩
end Go.Proofs.YtkbggdocfklkkaaDoor
