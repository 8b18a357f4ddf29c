/- Maps whose order is nobody's. No condition. -/
import Derived.Test.YtcblkjjkpffjhaaDoorA3
namespace Go.Proofs.YtcblkjjkpffjhaaDoor
open Go.RowKit
set_option linter.unusedVariables false
set_option linter.unusedSimpArgs false
set_option maxRecDepth 100000

/-- a map that is handed over, and one that is gone through: their order is nobody's -/
def gotH (c : Cp) (d : Nat) (way : List Nat) (s : Nat) (x : Bool) (b : Nat) : Hp := Hp.ex fun ms : Mb => Hp.pure (GOT c d way s x ms) * Hp.map Tryd.prog 3 natL boolV b ms
def gotR (c : Cp) (d : Nat) (way : List Nat) (s : Nat) (x : Bool) (b r : Nat) : Hp := Hp.ex fun ms : Mb => Hp.pure (GOT c d way s x ms) * Hp.iter Tryd.prog 3 natL boolV b r ms ms
theorem gotH.open_ {c : Cp} {d : Nat} {way : List Nat} {s : Nat} {x : Bool} {b : Nat} {W w : World} {R : Hp} (H : Sat W w (gotH c d way s x b * R)) : ∃ ms, GOT c d way s x ms ∧ Sat W w (Hp.map Tryd.prog 3 natL boolV b ms * R) := by
  obtain ⟨ms, H⟩ := H.ex
  obtain ⟨h1, H⟩ := (H.cast (Hp.mul_assoc ..)).pure
  exact ⟨ms, h1, H⟩
theorem gotR.open_ {c : Cp} {d : Nat} {way : List Nat} {s : Nat} {x : Bool} {b r : Nat} {W w : World} {R : Hp} (H : Sat W w (gotR c d way s x b r * R)) : ∃ ms, GOT c d way s x ms ∧ Sat W w (Hp.iter Tryd.prog 3 natL boolV b r ms ms * R) := by
  obtain ⟨ms, H⟩ := H.ex
  obtain ⟨h1, H⟩ := (H.cast (Hp.mul_assoc ..)).pure
  exact ⟨ms, h1, H⟩
theorem gotH.shut {c : Cp} {d : Nat} {way : List Nat} {s : Nat} {x : Bool} {b : Nat} {ms : Mb} {W w : World} {R : Hp} (h : GOT c d way s x ms) (H : Sat W w (Hp.map Tryd.prog 3 natL boolV b ms * R)) : Sat W w (gotH c d way s x b * R) :=
  Sat.exI (p := fun ms : Mb => Hp.pure (GOT c d way s x ms) * Hp.map Tryd.prog 3 natL boolV b ms) ms ((Sat.pureI h H).cast (Hp.mul_assoc ..).symm)
theorem gotR.shut {c : Cp} {d : Nat} {way : List Nat} {s : Nat} {x : Bool} {b r : Nat} {ms : Mb} {W w : World} {R : Hp} (h : GOT c d way s x ms) (H : Sat W w (Hp.iter Tryd.prog 3 natL boolV b r ms ms * R)) : Sat W w (gotR c d way s x b r * R) :=
  Sat.exI (p := fun ms : Mb => Hp.pure (GOT c d way s x ms) * Hp.iter Tryd.prog 3 natL boolV b r ms ms) ms ((Sat.pureI h H).cast (Hp.mul_assoc ..).symm)
theorem eff_rangeH {cx : Cx} {m : List (Nat × Value)} {l : List Hp} {o : Oper} {T : TypeId} {y : Operand} {e : TypeId} {c : Cp} {d : Nat} {way : List Nat} {s : Nat} {x : Bool} {b k : Nat} (ho : o.op = .range T y) (hT : Tryd.prog.underlying T = some (.map 3 e)) (hx : evo m y = some (.map (some b))) (hk : l[k]? = some (gotH c d way s x b)) :
    Eff Tryd.prog cx m l o (fun v l'' => ∃ r, v = ptr r 0 ∧ l'' = l.set k (gotR c d way s x b r)) := fun a w st H => by
  obtain ⟨ms, hg, H1⟩ := gotH.open_ (H.at_ hk)
  have hkl := (List.getElem?_eq_some_iff.1 hk).1
  have H2 : Sat cx.W w (sep (l.set k (Hp.map Tryd.prog 3 natL boolV b ms))) := Sat.back hk rfl H1
  have hk2 : (l.set k (Hp.map Tryd.prog 3 natL boolV b ms))[k]? = some (Hp.map Tryd.prog 3 natL boolV b ms) := List.getElem?_set_self hkl
  refine EffAt.mono (Eff.at_ st H2 (eff_range (k := k) ho hT hx hk2)) ?_
  rintro v w2 ⟨_, ⟨r, rfl, rfl⟩, H3⟩
  refine ⟨_, ⟨r, rfl, rfl⟩, ?_⟩
  have hk3 : ((l.set k (Hp.map Tryd.prog 3 natL boolV b ms)).set k (Hp.iter Tryd.prog 3 natL boolV b r ms ms))[k]? = some (Hp.iter Tryd.prog 3 natL boolV b r ms ms) := List.getElem?_set_self (by rw [List.length_set]; exact hkl)
  refine Sat.back hk3 (by rw [List.set_set, List.set_set]) (gotR.shut hg (H3.at_ hk3))
theorem spread0_H {W : World} {c : Cp} {wv : Value} {way : List Nat} {s : Nat} {x : Bool} (htr : c.tr < 4294967296) (hli : c.li < 18446744073709551616) (hT : HT W) (hs : SlS FN 1 W wv way) (h1w : 1 ≤ way.length) (h6 : ∀ i ∈ way, i < 7) (hs128 : s < 128) (h4 : way.length ≤ 4) :
    Calls Tryd.prog 9 #[.agg #[.int .u32 ((c.tr : Nat) : Int), .int .u64 ((c.li : Nat) : Int)], wv, .int .u32 ((s : Nat) : Int), .int .i64 ((0 : Nat) : Int), .bool x] W (Ret W fun v l9 => ∃ b, v = .map (some b) ∧ l9 = [gotH c 0 way s x b]) := by
  refine (spread0 htr hli hT hs h1w h6 hs128 h4).mono ?_
  rintro e w' ⟨v, l, he, ⟨b, ms, hv, rfl, hg⟩, H⟩
  refine ⟨v, _, he, ⟨b, hv, rfl⟩, ?_⟩
  have H1 : Sat W w' (Hp.map Tryd.prog 3 natL boolV b ms * 1) := H
  exact gotH.shut hg H1
end Go.Proofs.YtcblkjjkpffjhaaDoor
