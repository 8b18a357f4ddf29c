/- What was noted stays. In plain words. No condition. -/
import Derived.Test.YtanipkddfngnnaaM2
namespace Go.Proofs.Ytanipkddfngnnaa
open Go.RowKit
set_option linter.unusedVariables false
set_option linter.unusedSimpArgs false
set_option maxRecDepth 100000

/-- what was noted stays -/
structure LeS (s t : SS) : Prop where
  len : t.ps.length = s.ps.length
  ow : ∀ (i : Nat) (p r : Pr), s.ps[i]? = some p → t.ps[i]? = some r → p.ow ≠ -1 → r.ow = p.ow
  nt : ∀ a, (s.w a).nt <+: (t.w a).nt
  cl : ∀ a, (s.w a).cl = true → (t.w a).cl = true ∧ (t.w a).nt = (s.w a).nt
theorem LeS.refl (s : SS) : LeS s s := ⟨rfl, fun i p r h1 h2 _ => by cases h1.symm.trans h2; rfl, fun _ => List.prefix_rfl, fun _ h => ⟨h, rfl⟩⟩
theorem LeS.trans {s t u : SS} (h : LeS s t) (h' : LeS t u) : LeS s u := by
  refine ⟨h'.len.trans h.len, fun i p r h1 h2 h3 => ?_, fun a => (h.nt a).trans (h'.nt a), fun a q => ?_⟩
  · obtain ⟨z, hz⟩ := get_of_lt (xs := t.ps) (k := i) (by rw [h.len]; exact (List.getElem?_eq_some_iff.1 h1).1)
    have e := h.ow i p z h1 hz h3
    rw [← e]; exact h'.ow i z r hz h2 (by rw [e]; exact h3)
  · obtain ⟨g1, g2⟩ := h.cl a q
    obtain ⟨g3, g4⟩ := h'.cl a g1
    exact ⟨g3, g4.trans g2⟩
theorem LeS.note (s : SS) (i : Nat) : LeS s (noteS s i) := by
  refine ⟨?_, fun j p r h1 h2 h3 => ?_, fun a => ?_, fun a h => ?_⟩
  · unfold noteS; split
    · split
      · show (s.ps.set i _).length = _; rw [List.length_set]
      · rfl
    · rfl
  · unfold noteS at h2; split at h2
    · rename_i q hq
      split at h2
      · rename_i hc
        rcases set_casesQ h2 with ⟨rfl, rfl⟩ | ⟨_, h2⟩
        · cases hq.symm.trans h1; exact absurd hc h3
        · cases h1.symm.trans h2; rfl
      · cases h1.symm.trans h2; rfl
    · cases h1.symm.trans h2; rfl
  · rcases note_way s i a with e | e
    · rw [e]; exact List.prefix_rfl
    · rw [e]; exact List.prefix_rfl
  · rcases note_way s i a with e | e
    · rw [e]; exact ⟨h, rfl⟩
    · rw [e]; exact ⟨h, rfl⟩
theorem LeS.way {s : SS} {k : Nat} {p p' : Pr} {a : Sm × Sm} {x : Wm} (hp : s.ps[k]? = some p) (ho : p'.ow = p.ow) (h1 : (s.w a).nt <+: x.nt) (h2 : (s.w a).cl = true → x.cl = true ∧ x.nt = (s.w a).nt) : LeS s ⟨s.ps.set k p', upW s.w a x⟩ := by
  refine ⟨by show (s.ps.set k p').length = _; rw [List.length_set], fun j q r g1 g2 g3 => ?_, fun b => ?_, fun b h => ?_⟩
  · rcases set_casesQ g2 with ⟨rfl, rfl⟩ | ⟨_, g2⟩
    · cases hp.symm.trans g1; exact ho
    · cases g1.symm.trans g2; rfl
  · show _ <+: (upW s.w a x b).nt
    unfold upW; split
    · rename_i e; rw [e]; exact h1
    · exact List.prefix_rfl
  · show (upW s.w a x b).cl = true ∧ (upW s.w a x b).nt = _
    unfold upW; split
    · rename_i e; subst e; exact h2 h
    · exact ⟨h, rfl⟩
theorem LeS.step {M : Int} {n m : Nat} {s : SS} (hb : BdS m M n s) (hn : n ≤ 6) (c : Mv) : LeS s (stepS s c).2 := by
  unfold stepS
  split
  · exact LeS.refl s
  · split
    · exact LeS.refl s
    · rename_i h2
      have h6 : isN s.ps.length c.who = true := by
        cases e : isN s.ps.length c.who
        · exact absurd e h2
        · rfl
      obtain ⟨i, e1, e2⟩ := isN_yes h6
      have e2' := e2
      rw [hb.len] at e2'
      split
      · split
        · split
          · exact LeS.note s _
          · exact LeS.refl s
        · exact LeS.refl s
      · split
        · exact LeS.refl s
        · rename_i h3
          have h5 : isN s.ps.length c.oth = true := by
            cases e : isN s.ps.length c.oth
            · exact absurd (.inl e) h3
            · rfl
          obtain ⟨j, e3, e4⟩ := isN_yes h5
          rw [hb.len] at e4
          have hne : j ≠ i := fun e => h3 (.inr (by rw [e1, e3, e]))
          rw [e1, e3, Int.toNat_natCast, Int.toNat_natCast]
          obtain ⟨p, hp⟩ := get_of_lt (xs := s.ps) e2
          split
          · have hnk : smN j ≠ smN i := fun e => hne (smN_inj (by omega) (by omega) e)
            cases hq : (s.w (smN j, smN i)).q with
            | nil => unfold takeS; rw [hq]; exact LeS.refl s
            | cons x l =>
              by_cases hx : x = -1
              · subst hx
                rw [take_mark_eq hq hp hnk]
                refine (LeS.note s i).trans ?_
                obtain ⟨p', hp'⟩ := get_of_lt (xs := (noteS s i).ps) (k := i) (by rw [(LeS.note s i).len]; exact e2)
                have h9 := LeS.way (a := (smN j, smN i)) (x := ⟨l, (s.w (smN j, smN i)).nt, true⟩) hp' rfl (by rw [note_w hnk]; exact List.prefix_rfl) (fun _ => ⟨rfl, by rw [note_w hnk]⟩)
                rw [List.set_getElem?_self' hp'] at h9; exact h9
              · unfold takeS; rw [hq]; dsimp only; rw [hp]; dsimp only; rw [if_neg hx]
                refine LeS.way hp rfl ?_ fun h => ⟨h, ?_⟩
                · dsimp only; split
                  · exact List.prefix_append _ _
                  · exact List.prefix_rfl
                · dsimp only; rw [if_neg (fun q => by rw [h] at q; cases q.2)]
          · unfold sendS; rw [hp]; dsimp only
            split
            · exact LeS.refl s
            · exact LeS.way hp rfl List.prefix_rfl fun h => ⟨h, rfl⟩
theorem LeS.run {M : Int} {n : Nat} (hn : n ≤ 6) : ∀ (l : List Mv) {m : Nat} {s : SS}, BdS m M n s → LeS s (stS s l)
  | [], m, s, _ => LeS.refl s
  | c :: l, m, s, hb => (LeS.step hb hn c).trans (LeS.run hn l (hb.step hn c))
theorem LeS.front {M : Int} {n m : Nat} {s : SS} (hn : n ≤ 6) (hb : BdS m M n s) (cs : List Mv) (k : Nat) : LeS (stS s (cs.take k)) (stS s cs) := by
  have h := LeS.run hn (cs.drop k) (hb.run hn (cs.take k))
  rw [← stS_app, List.take_append_drop] at h; exact h
theorem LeS.nts {s t : SS} (h : LeS s t) (n k : Nat) : nts s n k <+: nts t n k := by
  unfold Go.Proofs.Ytanipkddfngnnaa.nts; split
  · exact List.prefix_rfl
  · exact h.nt _
theorem LeS.ntsD {s t : SS} {n k : Nat} (h : LeS s t) (hn : 0 < n) (hd : DoneS s n) (hk : k < n * n) : (Go.Proofs.Ytanipkddfngnnaa.nts t n k).length = (Go.Proofs.Ytanipkddfngnnaa.nts s n k).length := by
  unfold Go.Proofs.Ytanipkddfngnnaa.nts; split
  · rfl
  · rename_i e
    rw [(h.cl _ (hd.2 _ _ ((Nat.div_lt_iff_lt_mul hn).2 hk) (Nat.mod_lt _ hn) e)).2]
theorem LeS.done {s t : SS} {n : Nat} (h : LeS s t) (hd : DoneS s n) : DoneS t n := by
  refine ⟨fun r hr => ?_, fun i j hi hj hne => (h.cl _ (hd.2 i j hi hj hne)).1⟩
  obtain ⟨i, hi⟩ := List.getElem?_of_mem hr
  obtain ⟨p, hp⟩ := get_of_lt (xs := s.ps) (k := i) (by rw [← h.len]; exact (List.getElem?_eq_some_iff.1 hi).1)
  have h9 := hd.1 p (List.mem_of_getElem? hp)
  rw [h.ow i p r hp hi h9]; exact h9
theorem LeS.own {s t : SS} {i : Nat} {x y : Int} (h : LeS s t) (hx : (s.ps.map Pr.ow)[i]? = some x) (hy : (t.ps.map Pr.ow)[i]? = some y) (h0 : 0 ≤ x) : y = x := by
  rw [List.getElem?_map] at hx hy
  cases e : s.ps[i]? with
  | none => rw [e] at hx; cases hx
  | some p =>
    cases e2 : t.ps[i]? with
    | none => rw [e2] at hy; cases hy
    | some r =>
      rw [e] at hx; rw [e2] at hy; cases hx; cases hy
      exact h.ow i p r e e2 (by omega)
end Go.Proofs.Ytanipkddfngnnaa
