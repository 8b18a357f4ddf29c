/- A copy of a map; the keys of a map as a slice: by the shelf's contracts, turned to parts of memory. No condition. -/
import Derived.Test.YtmkhjlmhobihmaaD1
import Derived.Test.YtmkhjlmhobihmaaX13
import Derived.Shelf.SlMaps.Clone
import Derived.Shelf.SlIterI.Nil
import Derived.Shelf.SlIterI.Collect
import Derived.Ground.GgzProg
import Derived.Ground.SlmcProg
namespace Go.Proofs.Ytmkhjlmhobihmaa
open Go.RowKit Go.Maps Go.Sort Go.Shelf Go.WideShapes
open Go.WideElems (Fit rg)
set_option linter.unusedVariables false
set_option linter.unusedSimpArgs false
set_option maxRecDepth 100000

def Try.cloneA_ren : Go.Shelf.Ren := ⟨fun | 5 => 13 | 7 => 21 | n => n, fun | 23 => 38 | 25 => 3 | 3 => 3 | 4 => 4 | 20 => 20 | n => n, fun | n => n⟩
theorem Try.cloneA : Go.Proofs.SlLaysW.n5 Try.prog Try.cloneA_ren := {
  mixed := by kernel_rfl
  f5 := ⟨Try.f13.name, by decide, Try.func13.trans (congrArg some (by kernel_rfl))⟩
  f7 := Try.func21.trans (congrArg some (by kernel_rfl))
  t4 := Try.underlying4
  a4 := Try.isAgg4
  z4 := Try.sizeOf4
  v4 := Try.zeroValue4
  t20 := Try.underlying20
  a20 := Try.isAgg20
  z20 := Try.sizeOf20
  v20 := Try.zeroValue20
  t23 := Try.underlying38
  a23 := Try.isAgg38
  z23 := Try.sizeOf38
  v23 := Try.zeroValue38 }
def Try.keysA_ren : Go.Shelf.Ren := ⟨fun | 7 => 18 | 10 => 23 | n => n, fun | 23 => 38 | 26 => 3 | 3 => 3 | 28 => 45 | 0 => 0 | 27 => 44 | 33 => 51 | 4 => 4 | n => n, fun | n => n⟩
theorem Try.keysA : Go.Proofs.SlLaysZI.n7 Try.prog Try.keysA_ren := {
  mixed := by kernel_rfl
  f7 := ⟨Try.f18.name, by decide, Try.func18.trans (congrArg some (by kernel_rfl))⟩
  f10 := ⟨Try.f23.name, by decide, Try.func23.trans (congrArg some (by kernel_rfl))⟩
  t0 := Try.underlying0
  a0 := Try.isAgg0
  z0 := Try.sizeOf0
  v0 := Try.zeroValue0
  t4 := Try.underlying4
  a4 := Try.isAgg4
  z4 := Try.sizeOf4
  v4 := Try.zeroValue4
  t23 := Try.underlying38
  a23 := Try.isAgg38
  z23 := Try.sizeOf38
  v23 := Try.zeroValue38
  t26 := Try.underlying3
  a26 := Try.isAgg3
  z26 := Try.sizeOf3
  v26 := Try.zeroValue3
  t27 := Try.underlying44
  a27 := Try.isAgg44
  z27 := Try.sizeOf44
  v27 := Try.zeroValue44
  t28 := Try.underlying45
  a28 := Try.isAgg45
  z28 := Try.sizeOf45
  v28 := Try.zeroValue45
  t33 := Try.underlying51
  a33 := Try.isAgg51
  z33 := Try.sizeOf51
  v33 := Try.zeroValue51 }
def Try.collA_ren : Go.Shelf.Ren := ⟨fun | 8 => 17 | 11 => 22 | n => n, fun | 26 => 3 | 28 => 45 | 24 => 22 | 0 => 0 | 33 => 51 | 4 => 4 | n => n, fun | n => n⟩
theorem Try.collA : Go.Proofs.SlLaysZI.n8 Try.prog Try.collA_ren := {
  mixed := by kernel_rfl
  f8 := ⟨Try.f17.name, by decide, Try.func17.trans (congrArg some (by kernel_rfl))⟩
  f11 := ⟨Try.f22.name, by decide, Try.func22.trans (congrArg some (by kernel_rfl))⟩
  t0 := Try.underlying0
  a0 := Try.isAgg0
  z0 := Try.sizeOf0
  v0 := Try.zeroValue0
  t24 := Try.underlying22
  a24 := Try.isAgg22
  z24 := Try.sizeOf22
  v24 := Try.zeroValue22
  t26 := Try.underlying3
  a26 := Try.isAgg3
  z26 := Try.sizeOf3
  v26 := Try.zeroValue3
  t28 := Try.underlying45
  a28 := Try.isAgg45
  z28 := Try.sizeOf45
  v28 := Try.zeroValue45
  i26 := by kernel_rfl }

theorem clone_any {W w : World} {b : Nat} {ms : Ms} {R : Hp} (H : Sat W w (mapI b ms * R)) : Calls Try.prog 13 #[.map (some b)] w (Ret W fun v l => ∃ b', v = .map (some b') ∧ sep l = mapI b' ms * (mapI b ms * R)) := by
  obtain ⟨_, o, ho, es, clock, rfl, F, hp⟩ := H.blk
  refine (AnyW.maps_Clone Try.cloneA b es clock w ho).mono fun e w' ⟨he, hw⟩ => ?_
  subst hw
  refine ⟨_, [mapI w.heap.size ms, mapI b ms, R], he, ⟨_, rfl, by show _ * (_ * (_ * 1)) = _; rw [Hp.mul_one]⟩, (H.alloc_blk (p := isMap Try.prog 3 intL intV ms) _ ⟨es, clock, rfl, F, hp⟩).cast (by show _ = _ * (_ * (_ * 1)); rw [Hp.mul_one]; rfl)⟩
theorem keys_of {es : Array MapEntry} {ms : Ms} (hp : (es.toList.map (rg Try.prog 3 heldR)).Perm (ms.map (toE intL intV))) {D : DataW Value} (hD : D = .map ((es.toList.map (rg Try.prog 3 heldR)).foldr DataW.insert [])) : (intKeys D).Perm (keysM ms) ∧ Maps.size D = ms.length := by
  subst hD
  have h1 := (sorted_perm (es.toList.map (rg Try.prog 3 heldR))).trans hp
  refine ⟨?_, by rw [size_eq, h1.length_eq, List.length_map]⟩
  have := h1.map (fun p => intOf p.1)
  refine this.trans ?_
  rw [List.map_map]
  exact List.Perm.of_eq (List.map_congr_left fun p _ => rfl)
theorem collect_any {W w : World} {bb b : Nat} {ms : Ms} {R : Hp} (H : Sat W w (Hp.rec_ bb [.map (some b)] * (mapI b ms * R))) (hl : ms.length ≤ 1000) : Calls Try.prog 17 #[.func (.func 23) #[] #[ptr bb 0]] w (Ret W fun v l => ∃ (cv : Value) (ss : List Int), ss.Perm (keysM ms) ∧ cv = v ∧ sep l = Hp.own FI 1 cv ss * (Hp.rec_ bb [.map (some b)] * (mapI b ms * R))) := by
  have hm : w.cell? ⟨bb, 0, none⟩ = some (.map (some b)) := H.cell 0 rfl
  have hbb : bb < w.heap.size := H.rec_.1
  obtain ⟨_, o, ho, es, clock, rfl, F, hp⟩ := H.drop.blk
  obtain ⟨D, hD⟩ : ∃ D : DataW Value, D = .map ((es.toList.map (rg Try.prog 3 heldR)).foldr DataW.insert []) := ⟨_, rfl⟩
  obtain ⟨k1, k2⟩ := keys_of hp hD
  have hown : w.ownsMap Try.prog 3 heldR b es.size D := ⟨es, clock, ho, F, Nat.le_refl _, hD⟩
  have hseq : SeqGives Fence.wide 1 Try.prog 23 #[ptr bb 0] encZ (fun ss => ss.Perm (intKeys D)) (Maps.size D) w :=
    AnyZI.keys_gives (ρ := Try.keysA_ren) { Try.keysA with } Fence.wide _ trivial rfl (by omega) bb b es.size D _ hbb hm hown
  have cS := AnyZI.collect_in Try.collA Fence.wide 3 trivial trivial rfl (by omega) 23 #[ptr bb 0] trivial (enters_of Try.func23 (by kernel_rfl) rfl) (fun ss => ss.Perm (intKeys D)) (Maps.size D) (by rw [k2]; unfold maxLen; omega) (by rw [k2]; omega) w hseq
  change CallsIn _ _ Try.prog 17 _ _ _ at cS
  refine (callsIn_wide.1 cS).mono fun e w' ⟨v, ss, he, hS, hrow, _, hb⟩ => ?_
  have hO : OwS FI 1 w' w.heap.size v ss := OwS.of_row hrow rfl fun j x hx i u hu => by
    cases i with
    | zero => simp at hu; subst hu; rw [Nat.mul_one, Nat.add_zero, List.getElem?_map, hx]; rfl
    | succ i => simp at hu
  have h2 := H.nest (Sat.ofOws hb hO)
  exact ⟨v, [Hp.own FI 1 v ss, Hp.rec_ bb [.map (some b)], mapI b ms, R], he, ⟨v, ss, hS.trans k1, rfl, by show _ * (_ * (_ * (_ * 1))) = _; rw [Hp.mul_one]⟩, h2.cast (by show _ = _ * (_ * (_ * (_ * 1))); rw [Hp.mul_one])⟩
end Go.Proofs.Ytmkhjlmhobihmaa
