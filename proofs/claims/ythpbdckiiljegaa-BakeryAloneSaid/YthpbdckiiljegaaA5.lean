/- The bakery's machine as a part of memory that shares nothing. -/
import Derived.Test.YthpbdckiiljegaaA4
import Derived.Test.YthpbdckiiljegaaS3
namespace Go.Proofs.Ythpbdckiiljegaa
open Go.RowKit
set_option linter.unusedVariables false

abbrev shopAt (S g o cap : Nat) (vi : Value) (ps : List Pr) (ins : List Nat) : Hp :=
  Hp.rec_ S [.slice (some ⟨g, o, none⟩) ps.length cap, vi] * (Hp.own FP 5 (.slice (some ⟨g, o, none⟩) ps.length cap) ps * Hp.own FI 1 vi ins)
def shopH (S : Nat) (s : St) : Hp := fun h => ∃ g o cap vi, shopAt S g o cap vi s.1 s.2 h

theorem shopH.open_ {W w : World} {S : Nat} {s : St} {R : Hp} (H : Sat W w (shopH S s * R)) : ∃ g o cap vi, Sat W w (shopAt S g o cap vi s.1 s.2 * R) := by
  obtain ⟨hb, m, hm, h1, h2, hd, rfl, ⟨g, o, cap, vi, p⟩, r⟩ := H
  exact ⟨g, o, cap, vi, hb, _, hm, h1, h2, hd, rfl, p, r⟩
theorem shopH.shut {W w : World} {S g o cap : Nat} {vi : Value} {s : St} {R : Hp} (H : Sat W w (shopAt S g o cap vi s.1 s.2 * R)) : Sat W w (shopH S s * R) := H.mono fun m h => ⟨g, o, cap, vi, h⟩

theorem Sat.own_ne {α β : Type} {f : α → List Value} {f' : β → List Value} {sz sz' : Nat} {W w : World} {v v' : Value} {xs : List α} {ys : List β} {R : Hp} (H : Sat W w (Hp.own f sz v xs * (Hp.own f' sz' v' ys * R))) {g : Nat} (hg : v.ownBlock = some g) : v'.ownBlock ≠ some g := by
  intro hg'
  obtain ⟨hb, m, hm, h1, h2, hd, rfl, p, h3, h4, hd2, rfl, q, _⟩ := H
  rcases p with ⟨rfl, _⟩ | ⟨g1, _, _, rfl, _, o1, _, rfl⟩
  · cases hg
  rcases q with ⟨rfl, _⟩ | ⟨g2, _, _, rfl, _, o2, _, rfl⟩
  · cases hg'
  cases hg
  cases hg'
  rcases hd g1 with e | e <;> simp [single] at e
theorem Sat.own_ne_blk {α : Type} {f : α → List Value} {sz b : Nat} {W w : World} {v : Value} {xs : List α} {p : Obj → Prop} {R : Hp} (H : Sat W w (Hp.own f sz v xs * (Hp.blk b p * R))) : v.ownBlock ≠ some b := by
  intro hg
  obtain ⟨hb, m, hm, h1, h2, hd, rfl, q, h3, h4, hd2, rfl, ⟨o2, _, rfl⟩, _⟩ := H
  rcases q with ⟨rfl, _⟩ | ⟨g1, _, _, rfl, _, o1, _, rfl⟩
  · cases hg
  cases hg
  rcases hd g1 with e | e <;> simp [single] at e

theorem shop_of {W w : World} {S g o cap : Nat} {vi : Value} {ps : List Pr} {ins : List Nat} {R : Hp} (H : Sat W w (shopAt S g o cap vi ps ins * R)) :
    ShopAt w (fun k => k = S ∨ k = g ∨ vi.ownBlock = some k) W.heap.size S g o cap vi ps ins := by
  have H1 := H.assoc
  have H2 := H1.drop.assoc
  have n1 : g ≠ S := (show Sat W w (Hp.own FP 5 (.slice (some ⟨g, o, none⟩) ps.length cap) ps * (Hp.rec_ S [.slice (some ⟨g, o, none⟩) ps.length cap, vi] * (Hp.own FI 1 vi ins * R))) from H.cast (by ac_rfl)).ne_own
  have n2 : vi.ownBlock ≠ some S := (show Sat W w (Hp.own FI 1 vi ins * (Hp.rec_ S [.slice (some ⟨g, o, none⟩) ps.length cap, vi] * (Hp.own FP 5 (.slice (some ⟨g, o, none⟩) ps.length cap) ps * R))) from H.cast (by ac_rfl)).own_ne_blk
  have n3 : vi.ownBlock ≠ some g := H2.own_ne rfl
  have hr := H1.rec_
  have hp := H2.ows
  have hi := H2.drop.ows
  refine ⟨hr, hp, hi, n1.symm, n2, n3, .inl rfl, .inr (.inl rfl), fun k hk => .inr (.inr hk), fun k hk => ?_, fun k hk => ?_⟩
  · rcases hk with rfl | rfl | hk
    · exact H1.lo
    · exact (hp.lt _ rfl).1
    · exact (hi.lt _ hk).1
  · rcases hk with rfl | rfl | hk
    · exact hr.1
    · exact (hp.lt _ rfl).2
    · exact (hi.lt _ hk).2

theorem own_part {α : Type} {f : α → List Value} {sz base : Nat} {w : World} {v : Value} {xs : List α} (h : OwS f sz w base v xs) : ∃ m, Hp.own f sz v xs m ∧ ∀ k, m k = if v.ownBlock = some k then w.heap[k]? else none := by
  have h0 := h
  rcases h with ⟨rfl, rfl⟩ | ⟨g, o, cap, rfl, hb, hlt, hc, hs, he⟩
  · exact ⟨fun _ => none, .inl ⟨rfl, rfl, rfl⟩, fun k => by simp [Value.ownBlock]⟩
  · obtain ⟨ob, ho⟩ : ∃ ob, w.heap[g]? = some ob := ⟨_, Array.getElem?_eq_getElem hlt⟩
    refine ⟨single g ob, .inr ⟨g, o, cap, rfl, hc, ob, (isRow_of h0 ho).1, rfl⟩, fun k => ?_⟩
    by_cases e : (Value.slice (some ⟨g, o, none⟩) xs.length cap).ownBlock = some k
    · rw [if_pos e]; cases e; simp [single, ho]
    · rw [if_neg e]
      have : k ≠ g := fun h => e (by rw [h]; rfl)
      simp [single, this]

theorem shop_part {w : World} {F : Nat → Prop} {B S g o cap : Nat} {vi : Value} {ps : List Pr} {ins : List Nat} (h : ShopAt w F B S g o cap vi ps ins) :
    ∃ m, shopAt S g o cap vi ps ins m ∧ ∀ k ob, m k = some ob → w.heap[k]? = some ob ∧ F k := by
  obtain ⟨m2, p2, e2⟩ := own_part h.procs
  obtain ⟨m3, p3, e3⟩ := own_part h.ins_
  obtain ⟨ob, ho⟩ : ∃ ob, w.heap[S]? = some ob := ⟨_, Array.getElem?_eq_getElem h.rec_.1⟩
  refine ⟨_, ⟨single S ob, _, fun k => ?_, rfl, ⟨ob, fun i u hu => ?_, rfl⟩, m2, m3, fun k => ?_, rfl, p2, p3⟩, fun k ob' hk => ?_⟩
  · by_cases e : k = S
    · subst e
      right
      rw [e2, e3, if_neg (by simp only [Value.ownBlock]; intro e; cases e; exact h.sg rfl), if_neg h.si]; rfl
    · left; simp [single, e]
  · obtain ⟨q1, q2⟩ := h.rec_.2 i u hu
    rw [cell_of_block ho] at q1
    rw [free_of_block ho] at q2
    exact ⟨q1, by simpa using q2⟩
  · rw [e2, e3]
    by_cases e : (Value.slice (some ⟨g, o, none⟩) ps.length cap).ownBlock = some k
    · right
      rw [if_neg]
      intro e'
      cases e
      exact h.gi e'
    · left; rw [if_neg e]
  · by_cases e : k = S
    · subst e
      simp [single] at hk
      subst hk
      exact ⟨ho, h.fs⟩
    · simp only [single, if_neg e, Option.none_or, e2, e3] at hk
      split at hk
      · rename_i e1
        cases e1
        obtain ⟨ob2, ho2⟩ : ∃ ob2, w.heap[g]? = some ob2 := ⟨_, Array.getElem?_eq_getElem (h.procs.lt g rfl).2⟩
        rw [ho2] at hk
        simp at hk
        subst hk
        exact ⟨ho2, h.fg⟩
      · simp only [Option.none_or] at hk
        split at hk
        · rename_i e1
          exact ⟨hk, h.fi k e1⟩
        · cases hk

theorem step_sat {W w : World} {n j S i : Nat} {s : St} {p : Pr} {R : Hp} (H : Sat W w (shopH S s * R)) (hg : Good n j s) (hi : s.1[i]? = some p) (hn : n ≤ 4) (hj : j ≤ 500) :
    Calls Try.prog (12 + p.at_) #[.pointer (some ⟨S, 0, none⟩), .int .i64 i] w fun e w' => (∃ v, e = .returned v) ∧ Sat W w' (shopH S (stepS s i) * R) := by
  obtain ⟨g, o, cap, vi, H⟩ := shopH.open_ H
  have hs := shop_of H
  refine (step_any ⟨g, o, cap, vi, hs⟩ hg hi hn hj H.size).mono ?_
  rintro e w' ⟨he, F', ⟨g', o', cap', vi', hs'⟩, hk, hsub⟩
  refine ⟨he, shopH.shut (g := g') (o := o') (cap := cap') (vi := vi') (H.change hk.os hk.tape hk.output hk.size fun m hm hin => ?_)⟩
  have hdom : ∀ k, (k = S ∨ k = g ∨ vi.ownBlock = some k) → m k ≠ none := fun k hk => by
    obtain ⟨h1, h2, hd, rfl, ⟨o1, _, rfl⟩, h3, h4, hd2, rfl, p2, p3⟩ := hm
    rcases p2 with ⟨e, _⟩ | ⟨g2, o2, c2, e, _, ob2, _, rfl⟩
    · cases e
    cases e
    rcases hk with rfl | rfl | hk
    · simp [single]
    · rcases hd k with h | h
      · simp [single] at h ⊢
        try simp [h]
      · simp [single] at h
    · rcases p3 with ⟨rfl, _⟩ | ⟨g3, o3, c3, rfl, _, ob3, _, rfl⟩
      · cases hk
      · cases hk
        simp only [single]
        split
        · simp
        · simp only [Option.none_or]
          split
          · simp
          · simp
  obtain ⟨m', p', q'⟩ := shop_part hs'
  refine ⟨m', p', fun k ob hm' => ?_, fun k hlt hn => hk.block k hlt (fun hf => hdom k hf hn)⟩
  obtain ⟨a1, a2⟩ := q' k ob hm'
  refine ⟨a1, ?_⟩
  by_cases hlt : k < w.heap.size
  · exact .inl (hdom k (hsub k hlt a2))
  · exact .inr (by omega)

end Go.Proofs.Ythpbdckiiljegaa
