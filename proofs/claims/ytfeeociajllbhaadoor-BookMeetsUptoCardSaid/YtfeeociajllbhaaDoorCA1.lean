/- Up from a block: the iterator's walk; all of it in a list. -/
import Derived.Test.YtfeeociajllbhaaDoorW2
import Derived.Test.YtfeeociajllbhaaDoorW1
import Derived.Test.YtfeeociajllbhaaDoorProg
import Derived.Outline
namespace Go.Proofs.YtfeeociajllbhaaDoor
open Go.RowKit Go.Shelf
set_option linter.unusedVariables false
attribute [local go_sem] Oper.semAt_some
namespace Chn
abbrev FK (b : Int × Int) : List Value := [.int .i64 b.1, .int .i64 b.2]
theorem FK_len (v : Int × Int) : (FK v).length = 2 := rfl

/-- places, each the parent of the one ahead, down to the first one's none -/
structure IsUp (l : List (Int × Int)) (xs : List Nat) : Prop where
  lt : ∀ (i b : Nat), xs[i]? = some b → b < l.length
  next : ∀ (i b : Nat) (x : Int × Int), xs[i]? = some b → l[b]? = some x → x.1 = match xs[i + 1]? with | some c => (c : Int) | none => -1
  down : ∀ (i b c : Nat), xs[i]? = some b → xs[i + 1]? = some c → c < b

def at1 (xs : List Nat) (i : Nat) : Int := match xs[i]? with | some c => (c : Int) | none => -1

set_option maxHeartbeats 2000000 in
theorem up_any {W w : World} {vl : Value} {l : List (Int × Int)} {xs : List Nat} {Bb Bl lp : Nat} {B : Nat → Hp} {R : Hp} (hs : SlS FK 2 W vl l) (hu : IsUp l xs) (hl : l.length ≤ 40)
    (hY : Yields Tryd.prog W lp (fun k => #[.int .i64 (at1 xs k)]) xs.length B)
    (H : Sat W w (B 0 * (Hp.rec_ Bb [.int .i64 (at1 xs 0)] * (Hp.rec_ Bl [vl] * R)))) :
    Calls Tryd.prog 34 (#[.func (.yield lp) #[] #[]] ++ #[.pointer (some ⟨Bb, 0, none⟩), .pointer (some ⟨Bl, 0, none⟩)]) w fun e w' => (∃ v, e = .returned v) ∧ Sat W w' (B xs.length * (Hp.rec_ Bb [.int .i64 (-1)] * (Hp.rec_ Bl [vl] * R))) := by
  obtain ⟨al, cl, rfl, _⟩ := hs.form
  have HH := Lib.hid H
  have HS := Lib.hid hs
  clear H hs
  refine (callsIn_wide (n := 0)).1 (callsIn_of_wp Tryd.func34 rfl trivial ?_ rfl)
  simp only [Tryd.ntmps34, List.size_toArray, List.length_cons, List.length_nil, Nat.reduceAdd, Nat.reduceSub, Array.replicate_succ, Array.replicate_zero, List.push_toArray, List.append_toArray, List.nil_append, List.cons_append]
  gi_wp2
  gi_loopw [] (fun wr => ∃ k : Nat, k ≤ xs.length ∧ Sat W wr (B k * (Hp.rec_ Bb [.int .i64 (at1 xs k)] * (Hp.rec_ Bl [.slice al l.length cl] * R)))) (fun wr => match wr.cell? ⟨Bb, 0, none⟩ with | some v => (intOf v + 1).toNat | none => 0)
  case atStart => exact ⟨0, Nat.zero_le _, HH.out⟩
  case round =>
    obtain ⟨k, hk, hsat⟩ := hrel
    have c0 := hsat.sw.cell 0 rfl
    by_cases hlt : k < xs.length
    · obtain ⟨b, hb⟩ := get_of_lt hlt
      have hbl := hu.lt k b hb
      obtain ⟨x, hx⟩ := get_of_lt hbl
      have hat : at1 xs k = (b : Int) := by unfold at1; rw [hb]
      have hat2 : x.1 = at1 xs (k + 1) := hu.next k b x hb hx
      have hdn : at1 xs (k + 1) < (b : Int) := by
        unfold at1
        cases hc : xs[k + 1]? with
        | none => simp; omega
        | some c => have := hu.down k b c hb hc; simp; omega
      obtain ⟨fn, tmps, assign, body, hy, hR⟩ := hY k wr _ hlt hsat
      dsimp only at hy
      rw [hat] at hy c0
      have i0 : (0 : Int) ≤ (b : Int) := by omega
      have i1 : (b : Int) < (l.length : Int) := by omega
      have HR := Lib.hid hR
      have HD := Lib.hid (And.intro hdn (And.intro hx (And.intro hat2 hat)))
      have C0 := Lib.hid c0
      clear hR hsat hat hat2 hdn hb hx
      gi_wp2
      refine ⟨rfl, HR.out.mono ?_⟩
      rintro e w3 ⟨rfl, hs3⟩
      rw [HD.out.2.2.2] at hs3
      have d0 := hs3.sw.cell 0 rfl
      have d1 := hs3.up2.cell 0 rfl
      have f0 := hs3.sw.free 0 rfl
      obtain ⟨b0, off, rfl, hlb, hcx⟩ := (HS.out.below hs3.below).el HD.out.2.1
      have x0 : w3.cell? ⟨b0, off + b * 2, none⟩ = some (.int .i64 x.1) := hcx 0 _ rfl
      have H5 := Lib.hid (hs3.sw.set 0 (.int .i64 x.1))
      clear hcx hs3
      gi_wp2
      go_roundw
      case rel => exact ⟨k + 1, by omega, by rw [← HD.out.2.2.1]; exact H5.out.sw⟩
      case measure =>
        have h5 := H5.out.cell 0 rfl
        rw [C0.out, h5, HD.out.2.2.1]
        have := HD.out.1
        simp [intOf]; omega
    · obtain rfl : k = xs.length := by omega
      have hat : at1 xs xs.length = -1 := by unfold at1; rw [List.getElem?_eq_none (Nat.le_refl _)]
      rw [hat] at c0 hsat
      have HS5 := Lib.hid hsat
      clear hsat hat
      gi_wp2
      go_end0
      exact ⟨⟨_, rfl⟩, HS5.out⟩
end Chn
end Go.Proofs.YtfeeociajllbhaaDoor
