/- Own slices cut. Over any program. No condition. -/
import Derived.Test.YtcblkjjkpffjhaaDoorX9
namespace Go.Proofs.YtcblkjjkpffjhaaDoor
open Go.RowKit
set_option linter.unusedVariables false
set_option linter.unusedSimpArgs false

theorem own_cut {α : Type} {f : α → List Value} {sz : Nat} {v : Value} {xs : List α} {h : Part} {lo hi : Nat} (h1 : lo ≤ hi) (h2 : hi ≤ xs.length) (H : Hp.own f sz v xs h) : Hp.own f sz (sCut sz lo hi v) ((xs.take hi).drop lo) h := by
  have hl : ((xs.take hi).drop lo).length = hi - lo := by simp; omega
  rcases H with ⟨rfl, rfl, rfl⟩ | ⟨g, off, cap, rfl, hc, o, ho, rfl⟩
  · simp at h2
    obtain rfl : lo = 0 := by omega
    subst h2
    exact .inl ⟨by simp [sCut], by simp, rfl⟩
  · obtain ⟨hs, he⟩ := ho
    by_cases hcl : cap = lo
    · have e0 : hi - lo = 0 := by omega
      refine .inr ⟨g, off, cap - lo, ?_, by rw [hl]; omega, o, ⟨fun j hj => ?_, fun j x hx => ?_⟩, rfl⟩
      · rw [hl]; simp [sCut, hcl]
      · rw [hcl] at hj; simp at hj
      · have := (List.getElem?_eq_some_iff.1 hx).1; rw [hl] at this; omega
    · refine .inr ⟨g, off + lo * sz, cap - lo, ?_, by rw [hl]; omega, o, ⟨fun j hj => ?_, fun j x hx i u hu => ?_⟩, rfl⟩
      · rw [hl]; simp [sCut, hcl, addr_add]
      · have : lo * sz + j < cap * sz := by
          rw [Nat.sub_mul] at hj; omega
        have := hs (lo * sz + j) this
        rw [← Nat.add_assoc] at this; exact this
      · have hj := (List.getElem?_eq_some_iff.1 hx).1
        rw [hl] at hj
        rw [List.getElem?_drop, List.getElem?_take, if_pos (by omega)] at hx
        have := he (lo + j) x hx i u hu
        rw [show off + lo * sz + (j * sz + i) = off + ((lo + j) * sz + i) by rw [Nat.add_mul]; omega]
        exact this
section
variable {P : Program} {c : Cx} {m m' : List (Nat × Value)} {l l' : List Hp} {o : Oper} {x y z : Operand} {v u u' : Value} {T T' S : TypeId} {K : Act → World → Prop}
theorem Gx.ownCut {α : Type} {f : α → List Value} {sz : Nat} {xs : List α} {k : Nat} (lo hi : Nat) (hk : l[k]? = some (Hp.own f sz v xs)) (h1 : lo ≤ hi) (h2 : hi ≤ xs.length) (hl : l.set k (Hp.own f sz (sCut sz lo hi v) ((xs.take hi).drop lo)) = l') (h : Gx c m l' K) : Gx c m l K :=
  Gx.part hk (fun _ H => own_cut h1 h2 H) (hl ▸ h)
theorem sCut_isS {sz lo hi : Nat} (h : IsS v) : IsS (sCut sz lo hi v) := by obtain ⟨a, n, q, rfl⟩ := h; exact ⟨_, _, _, rfl⟩
theorem val_cutO {α : Type} {f : α → List Value} {sz bytes : Nat} {e : TypeId} {d : TypeDesc} {z' : Value} {xs : List α} {k k' : IntKind} {i i' : Int} {lo up n : Nat} (ho : o.op = .slice T x (some y) (some z) none) (hT : P.underlying T = some (.slice e)) (hE : Ty P e d sz bytes z') (hx : evo m x = some v) (hk : l[n]? = some (Hp.own f sz v xs))
    (hy : evo m y = some (.int k i)) (hi : i = (lo : Int)) (hz : evo m z = some (.int k' i')) (hi' : i' = (up : Int)) (h1 : lo ≤ up) (h2 : up ≤ xs.length) : Val P c m l o (sCut sz lo up v) := Val.of fun a w s H => by
  have e1 : (underlying T).run P w = .ok (.slice e) w := run_underlying hT w
  subst hi hi'
  rcases (H.at_ hk).ows with ⟨rfl, rfl⟩ | ⟨g, off, cap, rfl, hb, hlt, hcap, hsp, hel⟩
  · simp at h2; subst h2
    obtain rfl : lo = 0 := by omega
    simp [execOp, ho, s.ev hx, s.ev hy, s.ev hz, Instr.sliceAt, Instr.slice, e1, Result.andThen, Instr.sliceBounds, Instr.sliceBound, asIntOf, hE.size, sCut]
  · have q1 : (0 : Int) ≤ (up : Int) ∧ (up : Int) ≤ (cap : Int) := by omega
    have q3 : up ≤ cap := by omega
    have q2 : (0 : Int) ≤ (lo : Int) ∧ (lo : Int) ≤ (up : Int) := by omega
    simp [execOp, ho, s.ev hx, s.ev hy, s.ev hz, Instr.sliceAt, Instr.slice, e1, Result.andThen, Instr.sliceBounds, Instr.sliceBound, asIntOf, q1, q2, q3, h1, hE.size, sCut]
theorem val_cutToO {α : Type} {f : α → List Value} {sz bytes : Nat} {e : TypeId} {d : TypeDesc} {z' : Value} {xs : List α} {k' : IntKind} {i' : Int} {up n : Nat} (ho : o.op = .slice T x none (some z) none) (hT : P.underlying T = some (.slice e)) (hE : Ty P e d sz bytes z') (hx : evo m x = some v) (hk : l[n]? = some (Hp.own f sz v xs))
    (hz : evo m z = some (.int k' i')) (hi' : i' = (up : Int)) (h2 : up ≤ xs.length) : Val P c m l o (sCut sz 0 up v) := Val.of fun a w s H => by
  have e1 : (underlying T).run P w = .ok (.slice e) w := run_underlying hT w
  subst hi'
  rcases (H.at_ hk).ows with ⟨rfl, rfl⟩ | ⟨g, off, cap, rfl, hb, hlt, hcap, hsp, hel⟩
  · simp at h2; subst h2
    simp [execOp, ho, s.ev hx, s.ev hz, Instr.sliceAt, Instr.slice, e1, Result.andThen, Instr.sliceBounds, Instr.sliceBound, asIntOf, hE.size, sCut]
  · have q1 : (0 : Int) ≤ (up : Int) ∧ (up : Int) ≤ (cap : Int) := by omega
    have q3 : up ≤ cap := by omega
    simp [execOp, ho, s.ev hx, s.ev hz, Instr.sliceAt, Instr.slice, e1, Result.andThen, Instr.sliceBounds, Instr.sliceBound, asIntOf, q1, q3, hE.size, sCut]
theorem val_cutFromO {α : Type} {f : α → List Value} {sz bytes : Nat} {e : TypeId} {d : TypeDesc} {z' : Value} {xs : List α} {k : IntKind} {i : Int} {lo n : Nat} (ho : o.op = .slice T x (some y) none none) (hT : P.underlying T = some (.slice e)) (hE : Ty P e d sz bytes z') (hx : evo m x = some v) (hk : l[n]? = some (Hp.own f sz v xs))
    (hy : evo m y = some (.int k i)) (hi : i = (lo : Int)) (h1 : lo ≤ xs.length) : Val P c m l o (sCut sz lo xs.length v) := Val.of fun a w s H => by
  have e1 : (underlying T).run P w = .ok (.slice e) w := run_underlying hT w
  subst hi
  rcases (H.at_ hk).ows with ⟨rfl, rfl⟩ | ⟨g, off, cap, rfl, hb, hlt, hcap, hsp, hel⟩
  · simp at h1; subst h1
    simp [execOp, ho, s.ev hx, s.ev hy, Instr.sliceAt, Instr.slice, e1, Result.andThen, Instr.sliceBounds, Instr.sliceBound, asIntOf, hE.size, sCut]
  · have q2 : (0 : Int) ≤ (lo : Int) ∧ (lo : Int) ≤ (xs.length : Int) := by omega
    simp [execOp, ho, s.ev hx, s.ev hy, Instr.sliceAt, Instr.slice, e1, Result.andThen, Instr.sliceBounds, Instr.sliceBound, asIntOf, q2, h1, hE.size, sCut]
end
end Go.Proofs.YtcblkjjkpffjhaaDoor
