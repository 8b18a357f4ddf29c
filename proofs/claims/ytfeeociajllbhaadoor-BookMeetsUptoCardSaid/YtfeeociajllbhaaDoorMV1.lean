/- What is refused. No condition. -/
import Derived.Test.YtfeeociajllbhaaDoorMA8
import Derived.Test.YtfeeociajllbhaaDoorMM4
namespace Go.Proofs.YtfeeociajllbhaaDoor.Mt
open Go.RowKit
set_option linter.unusedVariables false
set_option linter.unusedSimpArgs false
set_option maxRecDepth 100000

def Valid (k f : Int) (L : Nat) (cs : List Sy) : Prop := 1 ≤ k ∧ k ≤ 7 ∧ cs.length ≤ 120 ∧ 0 ≤ f ∧ f ≤ (((k.toNat - 1) / 3 : Nat) : Int) ∧ L >>> k.toNat = 0
theorem play_bad {W : World} {k f : Int} {L : Nat} {sv : Value} {cs : List Sy} (hs : SlS FM 5 W sv cs) (hbad : ¬ Valid k f L cs) :
    Calls Tryd.prog 4 #[.int .i64 k, .int .i64 f, .int .u32 ((L : Nat) : Int), sv] W fun e w' => ∃ v, e = .returned v ∧ (∃ z : Int, z ≠ 0 ∧ v = .tuple #[.agg #[.slice none 0 0, .slice none 0 0, .slice none 0 0, .slice none 0 0], .int .i64 z]) ∧ Below W.heap.size W w' := by
  by_cases h1 : k < 1 ∨ 7 < k ∨ 120 < (cs.length : Int)
  · exact (play_no1 hs h1).mono fun e w' ⟨he, hb⟩ => ⟨_, he, ⟨1, by decide, rfl⟩, hb⟩
  obtain ⟨n, rfl⟩ : ∃ n : Nat, k = (n : Int) := ⟨k.toNat, by omega⟩
  by_cases h2 : f < 0 ∨ ((n - 1) / 3 : Nat) < f
  · exact (play_no3 hs (by omega) (by omega) (by omega) h2).mono fun e w' ⟨he, hb⟩ => ⟨_, he, ⟨3, by decide, rfl⟩, hb⟩
  obtain ⟨f', rfl⟩ : ∃ f' : Nat, f = (f' : Int) := ⟨f.toNat, by omega⟩
  refine (play_no2 hs (by omega) (by omega) (by omega) (by omega) ?_).mono fun e w' ⟨he, hb⟩ => ⟨_, he, ⟨2, by decide, rfl⟩, hb⟩
  intro h3
  exact hbad ⟨by omega, by omega, by omega, by omega, by rw [Int.toNat_natCast]; omega, by rw [Int.toNat_natCast]; exact h3⟩
/-- what is decided is one list -/
theorem dec_uniq {l : List (Int × Int)} {cs ds ds' : List Bool} {n : Nat} (h : Chn.IsDec l cs n ds) (h' : Chn.IsDec l cs n ds') : ds = ds' := by
  refine List.ext_getElem? fun i => ?_
  rcases Nat.lt_or_ge i ds.length with q | q
  · obtain ⟨x, hx⟩ := get_of_lt q
    obtain ⟨y, hy⟩ := get_of_lt (xs := ds') (k := i) (by rw [h'.1, ← h.1]; exact q)
    have e := (h.2 i).trans (h'.2 i).symm
    unfold Chn.On at e
    rw [hx, hy] at e ⊢
    cases x <;> cases y <;> simp_all
  · rw [List.getElem?_eq_none q, List.getElem?_eq_none (by rw [h'.1, ← h.1]; exact q)]
theorem dec_own {W w : World} {l : List Bk} {cs ds : List Bool} {v : Value} {R : Hp} (hds : Chn.IsDec (blsP l) cs l.length ds) (H : Sat W w (decH l cs v * R)) : Sat W w (Hp.own FB 1 v ds * R) := by
  obtain ⟨ds', h, H'⟩ := decH.open_ H
  rw [dec_uniq hds h]; exact H'
theorem dec_exists (l : List (Int × Int)) (cs : List Bool) (n : Nat) (hn : ∀ c b, c < n → Chn.DecBy l cs c b → b < l.length) : ∃ ds, Chn.IsDec l cs n ds := by
  refine ⟨(List.range l.length).map fun b => @decide (∃ c, c < n ∧ Chn.DecBy l cs c b) (Classical.propDecidable _), by rw [List.length_map, List.length_range], fun b => ?_⟩
  unfold Chn.On
  rw [List.getElem?_map]
  rcases Nat.lt_or_ge b l.length with h | h
  · rw [List.getElem?_range h, Option.map_some, Option.some.injEq]
    exact @decide_eq_true_iff _ (Classical.propDecidable _)
  · rw [List.getElem?_eq_none (by rw [List.length_range]; exact h)]
    constructor
    · intro q; cases q
    · rintro ⟨c, h1, h2⟩
      exact absurd (hn c b h1 h2) (Nat.not_lt.2 h)
theorem dec_here {T : Nat} {c : MC} {s : MS} (bd : BdM T c s) : ∃ ds, Chn.IsDec (blsP s.bl) (certL c s) s.bl.length ds := dec_exists _ _ _ fun k b hk h => by
  obtain ⟨h0, h1, h2, h3, h4, h5⟩ := dec_lock h
  have := (bd.par_lt h0 h1).1
  have := bd.okc.anc_le h5 (by rw [List.length_map]; omega)
  rw [List.length_map]; omega
end Go.Proofs.YtfeeociajllbhaaDoor.Mt
