/- Decided. -/
import Derived.Test.YthcaedmkhghogaaA7
namespace Go.Proofs.Ythcaedmkhghogaa
open Go.RowKit
set_option linter.unusedVariables false

def OkD (l : List (Int × Int)) (cs : List Bool) : Prop := OkC l ∧ cs.length = l.length
set_option maxHeartbeats 4000000 in
theorem dec_any {W : World} {v vc : Value} {l : List (Int × Int)} {cs : List Bool} (h : SlS FK 2 W v l) (hc : SlS SB 1 W vc cs) (hwf : ∀ t ∈ l, (Lit.int .i64 t.2).wf = true) :
    Calls Try.prog 8 #[v, vc] W fun e w' => (∃ (ov : Value) (c : Int), e = .returned (.tuple #[ov, .int .i64 c]) ∧ (c = 0 ↔ OkD l cs) ∧ (c ≠ 0 → ov = .slice none 0 0) ∧ (c = 0 → ∃ ds, SlS SB 1 w' ov ds ∧ IsDec l cs l.length ds)) ∧ Below W.heap.size W w' := by
  have HCK := Lib.hid (check_any h)
  have HD := Lib.hid (fun hok hlen (w1 : World) (hb : Below W.heap.size W w1) => decided_any (W := w1) hok hlen (h.below hb) (hc.below hb) hwf)
  obtain ⟨al, cl, rfl, _⟩ := h.form
  obtain ⟨ac, cc, rfl, _⟩ := hc.form
  clear h hc hwf
  go_enter Try.func8, Try.ntmps8
  go_wp2_with fail
  refine HCK.out.mono ?_
  rintro e w1 ⟨⟨c, rfl, hc⟩, hb⟩
  have HB := Lib.hid hb
  have HCC := Lib.hid hc
  clear hb hc
  by_cases hc : c = 0
  rotate_left
  · have hc1 : (c != 0) = true := by simpa using hc
    have hc2 : (c == 0) = false := by simpa using hc
    have HN := Lib.hid (show ¬ OkD l cs from fun h => hc (HCC.out.2 h.1))
    have HC0 := Lib.hid hc
    clear hc
    go_wp2_with fail
    go_ret2
    exact ⟨⟨_, c, rfl, by simp [HN.out, HC0.out], fun _ => rfl, fun h => absurd h HC0.out⟩, HB.out⟩
  subst hc
  have HOK := Lib.hid (HCC.out.1 rfl)
  by_cases hl : cs.length = l.length
  rotate_left
  · have hl1 : ((cs.length : Int) != (l.length : Int)) = true := by simp; omega
    have hl2 : ((cs.length : Int) == (l.length : Int)) = false := by simp; omega
    have HN := Lib.hid (show ¬ OkD l cs from fun h => hl h.2)
    clear hl
    go_wp2_with fail
    go_ret2
    exact ⟨⟨_, 2, rfl, by simp [HN.out], fun _ => rfl, fun h => by simp at h⟩, HB.out⟩
  · have HOD := Lib.hid (show OkD l cs from ⟨HOK.out, hl⟩)
    have HDD := Lib.hid (HD.out HOK.out hl _ HB.out)
    rw [hl] at HDD ⊢
    clear hl
    go_wp2_with fail
    refine HDD.out.mono ?_
    rintro e w2 ⟨⟨ov, ds, rfl, hs, hd⟩, hb⟩
    have HB2 := Lib.hid (HB.out.trans (hb.mono HB.out.size))
    have HF := Lib.hid (And.intro hs hd)
    clear hs hd hb
    go_wp2_with fail
    go_ret2
    exact ⟨⟨_, 0, rfl, ⟨fun _ => HOD.out, fun _ => rfl⟩, fun h => absurd rfl h, fun _ => ⟨ds, HF.out.1, HF.out.2⟩⟩, HB2.out⟩
end Go.Proofs.Ythcaedmkhghogaa
