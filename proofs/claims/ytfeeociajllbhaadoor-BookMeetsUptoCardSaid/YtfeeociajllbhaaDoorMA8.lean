/- Which are decided; a script played. The walks. No condition. -/
import Derived.Test.YtfeeociajllbhaaDoorMM1
import Derived.Test.YtfeeociajllbhaaDoorMA7
import Derived.Test.YtfeeociajllbhaaDoorCA7
namespace Go.Proofs.YtfeeociajllbhaaDoor.Mt
open Go.RowKit
set_option linter.unusedVariables false
set_option linter.unusedSimpArgs false
set_option maxRecDepth 100000

def toP (b : Bk) : Int × Int := (b.par, (b.rnd : Int))
abbrev blsP (l : List Bk) : List (Int × Int) := l.map toP
theorem SlS_map {α β : Type} {f : α → List Value} {g : β → List Value} {t : α → β} {sz : Nat} {w : World} {v : Value} {xs : List α} (h : SlS f sz w v xs) (ht : ∀ x, g (t x) = f x) : SlS g sz w v (xs.map t) := by
  obtain ⟨a, cap, rfl, hm, hn, hc⟩ := h
  refine ⟨a, cap, by rw [List.length_map], by rw [List.length_map]; exact hm, by rw [List.length_map]; exact hn, fun j x hx => ?_⟩
  rw [List.getElem?_map] at hx
  cases e : xs[j]? with
  | none => rw [e] at hx; cases hx
  | some y =>
    rw [e] at hx; cases hx
    obtain ⟨b, off, h1, h2, h3⟩ := hc j y e
    exact ⟨b, off, h1, h2, fun i u hu => h3 i u (by rw [← ht]; exact hu)⟩
theorem sls_toP {w : World} {v : Value} {l : List Bk} (h : SlS FK 2 w v l) : SlS Chn.FK 2 w v (blsP l) := SlS_map h fun _ => rfl
theorem BdM.okc {T : Nat} {c : MC} {s : MS} (h : BdM T c s) : Chn.OkC (blsP s.bl) := by
  refine ⟨by simpa using h.pos, by simpa using h.b40, by rw [List.getElem?_map, h.first]; rfl, fun i x hi hx => ?_⟩
  rw [List.getElem?_map] at hx
  cases e : s.bl[i]? with
  | none => rw [e] at hx; cases hx
  | some y =>
    rw [e] at hx; cases hx
    obtain ⟨p, z, h1, h2, h3, h4⟩ := h.par i y hi e
    exact ⟨p, toP z, h1, h2, by rw [List.getElem?_map, h3]; rfl, by show ((z.rnd : Nat) : Int) < (y.rnd : Int); omega⟩
theorem BdM.wfp {T : Nat} {c : MC} {s : MS} (h : BdM T c s) : ∀ t ∈ blsP s.bl, (Lit.int .i64 t.2).wf = true := by
  intro t ht
  obtain ⟨b, hb, rfl⟩ := List.mem_map.1 ht
  obtain ⟨i, hi⟩ := List.mem_iff_getElem?.1 hb
  have := h.rnd i b hi
  show (Lit.int .i64 ((b.rnd : Nat) : Int)).wf = true
  have e1 : IntKind.i64.min = -9223372036854775808 := rfl
  have e2 : IntKind.i64.max = 9223372036854775807 := rfl
  simp only [Lit.wf, e1, e2]
  rw [Bool.and_eq_true, decide_eq_true_iff, decide_eq_true_iff]
  omega
def certL (c : MC) (s : MS) : List Bool := (List.range s.bl.length).map (certM c s)
/-- the marks of what is decided -/
def decH (l : List Bk) (cs : List Bool) (v : Value) : Hp := Hp.ex fun ds : List Bool => Hp.pure (Chn.IsDec (blsP l) cs l.length ds) * Hp.own FB 1 v ds
abbrev Tq := Option Addr × Nat × Nat
def tQ : Value → Tq
  | .tuple #[.slice a n c, _] => (a, n, c)
  | .slice a n c => (a, n, c)
  | _ => (none, 0, 0)
theorem eff_callQ {P : Program} {c : Cx} {m : List (Nat × Value)} {l : List Hp} {o : Oper} {f : FuncId} {xs : List Operand} {ts : Array TypeId} {vs : List Value} {F' : Tq → Value} {p : Tq → Hp} (ho : o.op = .call { callee := .value (.func f), args := xs.toArray, argTypes := ts }) (F : Fnc P f) (hx : evoL m xs = some vs)
    (h : ∀ w, Sat c.W w (sep l) → Calls P f vs.toArray w (Ret w fun v l' => ∃ q : Tq, v = F' q ∧ l' = [p q])) : Eff P c m l o (fun v l'' => ∃ q : Tq, v = F' q ∧ l'' = p q :: l) := fun a w s H => by
  refine EffAt.mono (eff_callN ho F hx h a w s H) ?_
  rintro v w' ⟨l1, ⟨l2, ⟨q, rfl, rfl⟩, rfl⟩, h3⟩
  exact ⟨_, ⟨q, rfl, rfl⟩, h3⟩
theorem check_yes {W : World} {v : Value} {l : List (Int × Int)} (hok : Chn.OkC l) (h : SlS Chn.FK 2 W v l) : Calls Tryd.prog 21 #[v] W fun e w' => e = .returned (.int .i64 0) ∧ Below W.heap.size W w' := by
  refine (Chn.check_any h).mono ?_
  rintro e w' ⟨⟨c, rfl, hc⟩, hb⟩
  obtain rfl := hc.2 hok
  exact ⟨rfl, hb⟩
theorem decided_q {W : World} {v vc : Value} {l : List Bk} {cs : List Bool} (hok : Chn.OkC (blsP l)) (hlen : cs.length = l.length) (h : SlS FK 2 W v l) (hc : SlS FB 1 W vc cs) (hwf : ∀ t ∈ blsP l, (Lit.int .i64 t.2).wf = true) :
    Calls Tryd.prog 22 #[v, vc] W (Ret W fun v l' => ∃ q : Tq, v = .slice q.1 q.2.1 q.2.2 ∧ l' = [decH l cs (.slice q.1 q.2.1 q.2.2)]) := by
  refine (Chn.decided_any hok (by rw [hlen, List.length_map]) (sls_toP h) hc hwf).mono ?_
  rintro e w' ⟨ov, ds, rfl, H, hd⟩
  obtain ⟨a, n, c, rfl⟩ := isS_own H
  refine ⟨_, _, rfl, ⟨(a, n, c), rfl, rfl⟩, ?_⟩
  show Sat W w' (decH l cs (.slice a n c) * 1)
  refine Sat.exI (p := fun ds : List Bool => Hp.pure (Chn.IsDec (blsP l) cs l.length ds) * Hp.own FB 1 (.slice a n c) ds) ds ?_
  exact ((Sat.pureI (by rwa [List.length_map] at hd) H)).cast (Hp.mul_assoc ..).symm
theorem take_snoc' {α : Type} {l : List α} {i : Nat} {x : α} (h : l[i]? = some x) : l.take (i + 1) = l.take i ++ [x] := by rw [List.take_add_one, h]; rfl
theorem stM_snoc {c : MC} {s : MS} {l : List Sy} {i : Nat} {x : Sy} (h : l[i]? = some x) : stM c s (l.take (i + 1)) = (stepM c (stM c s (l.take i)) x).2 := by rw [take_snoc' h, stM_app]; rfl
theorem codesM_snoc {c : MC} {s : MS} {l : List Sy} {i : Nat} {x : Sy} (h : l[i]? = some x) : codesM c s (l.take (i + 1)) = codesM c s (l.take i) ++ [(stepM c (stM c s (l.take i)) x).1] := by rw [take_snoc' h, codesM_app]; rfl
theorem dec_yes {W : World} {bv wv : Value} {l : List Bk} {cs : List Bool} (hok : Chn.OkC (blsP l)) (hlen : cs.length = l.length) (hs : SlS FK 2 W bv l) (hc : SlS FB 1 W wv cs) (hwf : ∀ t ∈ blsP l, (Lit.int .i64 t.2).wf = true) :
    Calls Tryd.prog 10 #[bv, wv] W (Ret W fun v l' => ∃ q : Tq, v = .tuple #[.slice q.1 q.2.1 q.2.2, .int .i64 0] ∧ l' = [decH l cs (.slice q.1 q.2.1 q.2.2)]) := by
  refine Gx.enter (l := []) Tryd.func10 rfl Tryd.ntmps10 rfl (Sat.start W) ?_
  refine Gx.know (m' := [(0, bv), (1, wv)]) (.cons rfl (.cons rfl .nil)) ?_
  refine Gx.seq ?_
  refine Gx.region ?_
  refine Gx.val rfl rfl rfl (val_assign rfl rfl) ?_
  refine Gx.val rfl rfl rfl (val_assign rfl rfl) ?_
  refine Gx.done ?_
  refine Gx.thenN ?_
  refine Gx.seq ?_
  refine Gx.seq ?_
  refine Gx.region ?_
  refine Gx.val rfl rfl rfl (val_move rfl rfl) ?_
  refine Gx.val rfl rfl rfl (val_call (vs := [bv]) rfl Tryd.fn21 rfl (fun w H => check_yes hok (sls_toP (hs.below H.below)))) ?_
  refine Gx.val rfl rfl rfl (val_assign rfl rfl) ?_
  refine Gx.done ?_
  refine Gx.thenN ?_
  refine Gx.seq ?_
  refine Gx.region ?_
  refine Gx.val rfl rfl rfl (val_move rfl rfl) ?_
  refine Gx.val rfl rfl rfl (Val.cast (val_neq rfl rfl rfl) (v' := .bool false) rfl) ?_
  refine Gx.done ?_
  refine Gx.thenN ?_
  refine Gx.f rfl ?_
  refine Gx.skip ?_
  refine Gx.thenN ?_
  refine Gx.seq ?_
  refine Gx.seq ?_
  refine Gx.region ?_
  refine Gx.val rfl rfl rfl (val_move rfl rfl) ?_
  refine Gx.val rfl rfl rfl (val_len rfl Tryd.underlying28 rfl (len_base hc)) ?_
  refine Gx.val rfl rfl rfl (val_move rfl rfl) ?_
  refine Gx.val rfl rfl rfl (val_len rfl Tryd.underlying27 rfl (len_base hs)) ?_
  refine Gx.val rfl rfl rfl (val_neq rfl rfl rfl) ?_
  refine Gx.done ?_
  refine Gx.thenN ?_
  refine Gx.decF rfl (by omega) ?_
  refine Gx.skip ?_
  refine Gx.thenN ?_
  refine Gx.seq ?_
  refine Gx.region ?_
  refine Gx.val rfl rfl rfl (val_move rfl rfl) ?_
  refine Gx.val rfl rfl rfl (val_move rfl rfl) ?_
  refine Gx.eff rfl rfl rfl (eff_callQ (F' := fun q => .slice q.1 q.2.1 q.2.2) (p := fun q => decH l cs (.slice q.1 q.2.1 q.2.2)) (vs := [bv, wv]) rfl Tryd.fn22 rfl (fun w H => decided_q hok hlen (hs.below H.below) (hc.below H.below) hwf)) ?_
  rintro _ _ ⟨q, rfl, rfl⟩
  refine Gx.norm (l' := [decH l cs (.slice q.1 q.2.1 q.2.2)]) rfl ?_
  refine Gx.val rfl rfl rfl (val_assign rfl rfl) ?_
  refine Gx.val rfl rfl rfl (val_assign rfl rfl) ?_
  refine Gx.done ?_
  refine Gx.thenN ?_
  refine Gx.ret ?_
  refine Gx.ret2 Tryd.results10 rfl rfl ?_
  exact ⟨q, rfl, rfl⟩

theorem play_no1 {W : World} {k f : Int} {L : Nat} {sv : Value} {cs : List Sy} (hs : SlS FM 5 W sv cs) (hbad : k < 1 ∨ 7 < k ∨ 120 < (cs.length : Int)) :
    Calls Tryd.prog 4 #[.int .i64 k, .int .i64 f, .int .u32 ((L : Nat) : Int), sv] W fun e w' => e = .returned (.tuple #[.agg #[.slice none 0 0, .slice none 0 0, .slice none 0 0, .slice none 0 0], .int .i64 1]) ∧ Below W.heap.size W w' := by
  refine calls_pure (Gx.enter (l := []) Tryd.func4 rfl Tryd.ntmps4 rfl (Sat.start W) ?_)
  refine Gx.know (m' := [(0, .int .i64 k), (1, .int .i64 f), (2, .int .u32 ((L : Nat) : Int)), (3, sv)]) (.cons rfl (.cons rfl (.cons rfl (.cons rfl .nil)))) ?_
  refine Gx.seq ?_
  refine Gx.region ?_
  refine Gx.eff rfl rfl rfl (eff_alloc rfl Tryd.ty30 (vs := [.slice none 0 0, .slice none 0 0, .slice none 0 0, .slice none 0 0]) rfl) ?_
  rintro _ _ ⟨b1, rfl, rfl⟩
  refine Gx.val rfl rfl rfl (val_assign rfl rfl) ?_
  refine Gx.done ?_
  refine Gx.thenN ?_
  refine Gx.seq ?_
  refine Gx.seq ?_
  refine Gx.region ?_
  refine Gx.val rfl rfl rfl (val_move rfl rfl) ?_
  refine Gx.val rfl rfl rfl (val_lss rfl rfl rfl) ?_
  refine Gx.val rfl rfl rfl (val_move rfl rfl) ?_
  refine Gx.cases (t := 17) rfl (fun h2 => ?_) (fun h2 => ?_)
  · refine Gx.skipg rfl rfl rfl rfl rfl rfl ?_
    refine Gx.skipg rfl rfl rfl rfl rfl rfl ?_
    refine Gx.val rfl rfl rfl (val_pickT rfl rfl rfl) ?_
    refine Gx.val rfl rfl rfl (val_move rfl rfl) ?_
    refine Gx.skipg rfl rfl rfl rfl rfl rfl ?_
    refine Gx.skipg rfl rfl rfl rfl rfl rfl ?_
    refine Gx.skipg rfl rfl rfl rfl rfl rfl ?_
    refine Gx.val rfl rfl rfl (val_pickT rfl rfl rfl) ?_
    refine Gx.done ?_
    refine Gx.thenN ?_
    refine Gx.t rfl ?_
    refine Gx.seq ?_
    refine Gx.region ?_
    refine Gx.val rfl rfl rfl (val_build rfl (qs := []) rfl rfl (fun w => by go_simp) (v := .agg #[.slice none 0 0, .slice none 0 0, .slice none 0 0, .slice none 0 0])) ?_
    refine Gx.eff0 rfl rfl (eff_store rfl Tryd.ty30 rfl rfl (us := [.slice none 0 0, .slice none 0 0, .slice none 0 0, .slice none 0 0]) rfl rfl rfl (k := 0) rfl (rfl) (vs' := [.slice none 0 0, .slice none 0 0, .slice none 0 0, .slice none 0 0]) (rfl) (l' := [Hp.rec_ b1 [.slice none 0 0, .slice none 0 0, .slice none 0 0, .slice none 0 0]]) rfl) ?_
    rintro _ _ rfl
    refine Gx.val rfl rfl rfl (val_assign rfl rfl) ?_
    refine Gx.done ?_
    refine Gx.thenN ?_
    refine Gx.ret ?_
    refine Gx.thenR ?_
    refine Gx.retC2 Tryd.results4 Tryd.ty30 rfl rfl (us := [.slice none 0 0, .slice none 0 0, .slice none 0 0, .slice none 0 0]) rfl (k := 0) rfl rfl ?_
    rfl
  · refine Gx.valg rfl rfl rfl rfl rfl (val_move rfl rfl) ?_
    refine Gx.valg rfl rfl rfl rfl rfl (val_gtr rfl rfl rfl) ?_
    refine Gx.val rfl rfl rfl (val_pickF rfl rfl rfl) ?_
    refine Gx.val rfl rfl rfl (val_move rfl rfl) ?_
    refine Gx.cases (t := 21) rfl (fun h3 => ?_) (fun h3 => ?_)
    · refine Gx.skipg rfl rfl rfl rfl rfl rfl ?_
      refine Gx.skipg rfl rfl rfl rfl rfl rfl ?_
      refine Gx.skipg rfl rfl rfl rfl rfl rfl ?_
      refine Gx.val rfl rfl rfl (val_pickT rfl rfl rfl) ?_
      refine Gx.done ?_
      refine Gx.thenN ?_
      refine Gx.t rfl ?_
      refine Gx.seq ?_
      refine Gx.region ?_
      refine Gx.val rfl rfl rfl (val_build rfl (qs := []) rfl rfl (fun w => by go_simp) (v := .agg #[.slice none 0 0, .slice none 0 0, .slice none 0 0, .slice none 0 0])) ?_
      refine Gx.eff0 rfl rfl (eff_store rfl Tryd.ty30 rfl rfl (us := [.slice none 0 0, .slice none 0 0, .slice none 0 0, .slice none 0 0]) rfl rfl rfl (k := 0) rfl (rfl) (vs' := [.slice none 0 0, .slice none 0 0, .slice none 0 0, .slice none 0 0]) (rfl) (l' := [Hp.rec_ b1 [.slice none 0 0, .slice none 0 0, .slice none 0 0, .slice none 0 0]]) rfl) ?_
      rintro _ _ rfl
      refine Gx.val rfl rfl rfl (val_assign rfl rfl) ?_
      refine Gx.done ?_
      refine Gx.thenN ?_
      refine Gx.ret ?_
      refine Gx.thenR ?_
      refine Gx.retC2 Tryd.results4 Tryd.ty30 rfl rfl (us := [.slice none 0 0, .slice none 0 0, .slice none 0 0, .slice none 0 0]) rfl (k := 0) rfl rfl ?_
      rfl
    · refine Gx.valg rfl rfl rfl rfl rfl (val_move rfl rfl) ?_
      refine Gx.valg rfl rfl rfl rfl rfl (val_len rfl Tryd.underlying23 rfl (len_base hs)) ?_
      refine Gx.valg rfl rfl rfl rfl rfl (val_gtr rfl rfl rfl) ?_
      refine Gx.val rfl rfl rfl (val_pickF rfl rfl rfl) ?_
      refine Gx.done ?_
      refine Gx.thenN ?_
      refine Gx.dec rfl (fun h4 => ?_) (fun h4 => ?_)
      · refine Gx.seq ?_
        refine Gx.region ?_
        refine Gx.val rfl rfl rfl (val_build rfl (qs := []) rfl rfl (fun w => by go_simp) (v := .agg #[.slice none 0 0, .slice none 0 0, .slice none 0 0, .slice none 0 0])) ?_
        refine Gx.eff0 rfl rfl (eff_store rfl Tryd.ty30 rfl rfl (us := [.slice none 0 0, .slice none 0 0, .slice none 0 0, .slice none 0 0]) rfl rfl rfl (k := 0) rfl (rfl) (vs' := [.slice none 0 0, .slice none 0 0, .slice none 0 0, .slice none 0 0]) (rfl) (l' := [Hp.rec_ b1 [.slice none 0 0, .slice none 0 0, .slice none 0 0, .slice none 0 0]]) rfl) ?_
        rintro _ _ rfl
        refine Gx.val rfl rfl rfl (val_assign rfl rfl) ?_
        refine Gx.done ?_
        refine Gx.thenN ?_
        refine Gx.ret ?_
        refine Gx.thenR ?_
        refine Gx.retC2 Tryd.results4 Tryd.ty30 rfl rfl (us := [.slice none 0 0, .slice none 0 0, .slice none 0 0, .slice none 0 0]) rfl (k := 0) rfl rfl ?_
        rfl
      · exfalso; omega

theorem play_no3 {W : World} {n L : Nat} {f : Int} {sv : Value} {cs : List Sy} (hs : SlS FM 5 W sv cs) (h1n : 1 ≤ n) (h7n : n ≤ 7) (hcl : cs.length ≤ 120) (hbad : f < 0 ∨ ((n - 1) / 3 : Nat) < f) :
    Calls Tryd.prog 4 #[.int .i64 ((n : Nat) : Int), .int .i64 f, .int .u32 ((L : Nat) : Int), sv] W fun e w' => e = .returned (.tuple #[.agg #[.slice none 0 0, .slice none 0 0, .slice none 0 0, .slice none 0 0], .int .i64 3]) ∧ Below W.heap.size W w' := by
  refine calls_pure (Gx.enter (l := []) Tryd.func4 rfl Tryd.ntmps4 rfl (Sat.start W) ?_)
  refine Gx.know (m' := [(0, .int .i64 ((n : Nat) : Int)), (1, .int .i64 f), (2, .int .u32 ((L : Nat) : Int)), (3, sv)]) (.cons rfl (.cons rfl (.cons rfl (.cons rfl .nil)))) ?_
  refine Gx.seq ?_
  refine Gx.region ?_
  refine Gx.eff rfl rfl rfl (eff_alloc rfl Tryd.ty30 (vs := [.slice none 0 0, .slice none 0 0, .slice none 0 0, .slice none 0 0]) rfl) ?_
  rintro _ _ ⟨b1, rfl, rfl⟩
  refine Gx.val rfl rfl rfl (val_assign rfl rfl) ?_
  refine Gx.done ?_
  refine Gx.thenN ?_
  refine Gx.seq ?_
  refine Gx.seq ?_
  refine Gx.region ?_
  refine Gx.val rfl rfl rfl (val_move rfl rfl) ?_
  refine Gx.val rfl rfl rfl (val_lss rfl rfl rfl) ?_
  refine Gx.val rfl rfl rfl (val_move rfl rfl) ?_
  refine Gx.slot (t := 17) (v := .bool false) (look_decF rfl (by omega)) ?_
  refine Gx.valg rfl rfl rfl rfl rfl (val_move rfl rfl) ?_
  refine Gx.valg rfl rfl rfl rfl rfl (val_gtr rfl rfl rfl) ?_
  refine Gx.val rfl rfl rfl (val_pickF rfl rfl rfl) ?_
  refine Gx.val rfl rfl rfl (val_move rfl rfl) ?_
  refine Gx.slot (t := 21) (v := .bool false) (look_decF rfl (by omega)) ?_
  refine Gx.valg rfl rfl rfl rfl rfl (val_move rfl rfl) ?_
  refine Gx.valg rfl rfl rfl rfl rfl (val_len rfl Tryd.underlying23 rfl (len_base hs)) ?_
  refine Gx.valg rfl rfl rfl rfl rfl (val_gtr rfl rfl rfl) ?_
  refine Gx.val rfl rfl rfl (val_pickF rfl rfl rfl) ?_
  refine Gx.done ?_
  refine Gx.thenN ?_
  refine Gx.decF rfl (by omega) ?_
  refine Gx.skip ?_
  refine Gx.thenN ?_
  refine Gx.seq ?_
  refine Gx.seq ?_
  refine Gx.region ?_
  refine Gx.val rfl rfl rfl (val_move rfl rfl) ?_
  refine Gx.val rfl rfl rfl (val_lss rfl rfl rfl) ?_
  refine Gx.val rfl rfl rfl (val_move rfl rfl) ?_
  refine Gx.cases (t := 29) rfl (fun h2 => ?_) (fun h2 => ?_)
  · refine Gx.skipg rfl rfl rfl rfl rfl rfl ?_
    refine Gx.skipg rfl rfl rfl rfl rfl rfl ?_
    refine Gx.skipg rfl rfl rfl rfl rfl rfl ?_
    refine Gx.skipg rfl rfl rfl rfl rfl rfl ?_
    refine Gx.skipg rfl rfl rfl rfl rfl rfl ?_
    refine Gx.val rfl rfl rfl (val_pickT rfl rfl rfl) ?_
    refine Gx.done ?_
    refine Gx.thenN ?_
    refine Gx.t rfl ?_
    refine Gx.seq ?_
    refine Gx.region ?_
    refine Gx.val rfl rfl rfl (val_build rfl (qs := []) rfl rfl (fun w => by go_simp) (v := .agg #[.slice none 0 0, .slice none 0 0, .slice none 0 0, .slice none 0 0])) ?_
    refine Gx.eff0 rfl rfl (eff_store rfl Tryd.ty30 rfl rfl (us := [.slice none 0 0, .slice none 0 0, .slice none 0 0, .slice none 0 0]) rfl rfl rfl (k := 0) rfl (rfl) (vs' := [.slice none 0 0, .slice none 0 0, .slice none 0 0, .slice none 0 0]) (rfl) (l' := [Hp.rec_ b1 [.slice none 0 0, .slice none 0 0, .slice none 0 0, .slice none 0 0]]) rfl) ?_
    rintro _ _ rfl
    refine Gx.val rfl rfl rfl (val_assign rfl rfl) ?_
    refine Gx.done ?_
    refine Gx.thenN ?_
    refine Gx.ret ?_
    refine Gx.thenR ?_
    refine Gx.retC2 Tryd.results4 Tryd.ty30 rfl rfl (us := [.slice none 0 0, .slice none 0 0, .slice none 0 0, .slice none 0 0]) rfl (k := 0) rfl rfl ?_
    rfl
  · refine Gx.valg rfl rfl rfl rfl rfl (val_move rfl rfl) ?_
    refine Gx.valg rfl rfl rfl rfl rfl (val_move rfl rfl) ?_
    refine Gx.valg rfl rfl rfl rfl rfl (val_sub rfl rfl rfl (r := ((n - 1 : Nat) : Int)) (w64 (by omega) (by omega))) ?_
    refine Gx.valg rfl rfl rfl rfl rfl (val_quo rfl rfl rfl (r := (((n - 1) / 3 : Nat) : Int)) (by omega) (w64 (by rw [Int.tdiv_eq_ediv_of_nonneg (by omega)]; omega) (by omega))) ?_
    refine Gx.valg rfl rfl rfl rfl rfl (val_gtr rfl rfl rfl) ?_
    refine Gx.val rfl rfl rfl (val_pickF rfl rfl rfl) ?_
    refine Gx.done ?_
    refine Gx.thenN ?_
    refine Gx.dec rfl (fun h3 => ?_) (fun h3 => ?_)
    · refine Gx.seq ?_
      refine Gx.region ?_
      refine Gx.val rfl rfl rfl (val_build rfl (qs := []) rfl rfl (fun w => by go_simp) (v := .agg #[.slice none 0 0, .slice none 0 0, .slice none 0 0, .slice none 0 0])) ?_
      refine Gx.eff0 rfl rfl (eff_store rfl Tryd.ty30 rfl rfl (us := [.slice none 0 0, .slice none 0 0, .slice none 0 0, .slice none 0 0]) rfl rfl rfl (k := 0) rfl (rfl) (vs' := [.slice none 0 0, .slice none 0 0, .slice none 0 0, .slice none 0 0]) (rfl) (l' := [Hp.rec_ b1 [.slice none 0 0, .slice none 0 0, .slice none 0 0, .slice none 0 0]]) rfl) ?_
      rintro _ _ rfl
      refine Gx.val rfl rfl rfl (val_assign rfl rfl) ?_
      refine Gx.done ?_
      refine Gx.thenN ?_
      refine Gx.ret ?_
      refine Gx.thenR ?_
      refine Gx.retC2 Tryd.results4 Tryd.ty30 rfl rfl (us := [.slice none 0 0, .slice none 0 0, .slice none 0 0, .slice none 0 0]) rfl (k := 0) rfl rfl ?_
      rfl
    · exfalso; omega

theorem play_no2 {W : World} {n f L : Nat} {sv : Value} {cs : List Sy} (hs : SlS FM 5 W sv cs) (h1n : 1 ≤ n) (h7n : n ≤ 7) (hcl : cs.length ≤ 120) (hf : f ≤ (n - 1) / 3) (hbad : L >>> n ≠ 0) :
    Calls Tryd.prog 4 #[.int .i64 ((n : Nat) : Int), .int .i64 ((f : Nat) : Int), .int .u32 ((L : Nat) : Int), sv] W fun e w' => e = .returned (.tuple #[.agg #[.slice none 0 0, .slice none 0 0, .slice none 0 0, .slice none 0 0], .int .i64 2]) ∧ Below W.heap.size W w' := by
  refine calls_pure (Gx.enter (l := []) Tryd.func4 rfl Tryd.ntmps4 rfl (Sat.start W) ?_)
  refine Gx.know (m' := [(0, .int .i64 ((n : Nat) : Int)), (1, .int .i64 ((f : Nat) : Int)), (2, .int .u32 ((L : Nat) : Int)), (3, sv)]) (.cons rfl (.cons rfl (.cons rfl (.cons rfl .nil)))) ?_
  refine Gx.seq ?_
  refine Gx.region ?_
  refine Gx.eff rfl rfl rfl (eff_alloc rfl Tryd.ty30 (vs := [.slice none 0 0, .slice none 0 0, .slice none 0 0, .slice none 0 0]) rfl) ?_
  rintro _ _ ⟨b1, rfl, rfl⟩
  refine Gx.val rfl rfl rfl (val_assign rfl rfl) ?_
  refine Gx.done ?_
  refine Gx.thenN ?_
  refine Gx.seq ?_
  refine Gx.seq ?_
  refine Gx.region ?_
  refine Gx.val rfl rfl rfl (val_move rfl rfl) ?_
  refine Gx.val rfl rfl rfl (val_lss rfl rfl rfl) ?_
  refine Gx.val rfl rfl rfl (val_move rfl rfl) ?_
  refine Gx.slot (t := 17) (v := .bool false) (look_decF rfl (by omega)) ?_
  refine Gx.valg rfl rfl rfl rfl rfl (val_move rfl rfl) ?_
  refine Gx.valg rfl rfl rfl rfl rfl (val_gtr rfl rfl rfl) ?_
  refine Gx.val rfl rfl rfl (val_pickF rfl rfl rfl) ?_
  refine Gx.val rfl rfl rfl (val_move rfl rfl) ?_
  refine Gx.slot (t := 21) (v := .bool false) (look_decF rfl (by omega)) ?_
  refine Gx.valg rfl rfl rfl rfl rfl (val_move rfl rfl) ?_
  refine Gx.valg rfl rfl rfl rfl rfl (val_len rfl Tryd.underlying23 rfl (len_base hs)) ?_
  refine Gx.valg rfl rfl rfl rfl rfl (val_gtr rfl rfl rfl) ?_
  refine Gx.val rfl rfl rfl (val_pickF rfl rfl rfl) ?_
  refine Gx.done ?_
  refine Gx.thenN ?_
  refine Gx.decF rfl (by omega) ?_
  refine Gx.skip ?_
  refine Gx.thenN ?_
  refine Gx.seq ?_
  refine Gx.seq ?_
  refine Gx.region ?_
  refine Gx.val rfl rfl rfl (val_move rfl rfl) ?_
  refine Gx.val rfl rfl rfl (val_lss rfl rfl rfl) ?_
  refine Gx.val rfl rfl rfl (val_move rfl rfl) ?_
  refine Gx.slot (t := 29) (v := .bool false) (look_decF rfl (by omega)) ?_
  refine Gx.valg rfl rfl rfl rfl rfl (val_move rfl rfl) ?_
  refine Gx.valg rfl rfl rfl rfl rfl (val_move rfl rfl) ?_
  refine Gx.valg rfl rfl rfl rfl rfl (val_sub rfl rfl rfl (r := ((n - 1 : Nat) : Int)) (w64 (by omega) (by omega))) ?_
  refine Gx.valg rfl rfl rfl rfl rfl (val_quo rfl rfl rfl (r := (((n - 1) / 3 : Nat) : Int)) (by omega) (w64 (by rw [Int.tdiv_eq_ediv_of_nonneg (by omega)]; omega) (by omega))) ?_
  refine Gx.valg rfl rfl rfl rfl rfl (val_gtr rfl rfl rfl) ?_
  refine Gx.val rfl rfl rfl (val_pickF rfl rfl rfl) ?_
  refine Gx.done ?_
  refine Gx.thenN ?_
  refine Gx.decF rfl (by omega) ?_
  refine Gx.skip ?_
  refine Gx.thenN ?_
  refine Gx.seq ?_
  refine Gx.seq ?_
  refine Gx.region ?_
  refine Gx.val rfl rfl rfl (val_move rfl rfl) ?_
  refine Gx.val rfl rfl rfl (val_move rfl rfl) ?_
  refine Gx.val rfl rfl rfl (val_shr (b := n) rfl rfl rfl rfl (by show n ≤ 32; omega) (shr32 _ _)) ?_
  refine Gx.val rfl rfl rfl (val_neq rfl rfl rfl) ?_
  refine Gx.done ?_
  refine Gx.thenN ?_
  refine Gx.dec rfl (fun h2 => ?_) (fun h2 => ?_)
  · refine Gx.seq ?_
    refine Gx.region ?_
    refine Gx.val rfl rfl rfl (val_build rfl (qs := []) rfl rfl (fun w => by go_simp) (v := .agg #[.slice none 0 0, .slice none 0 0, .slice none 0 0, .slice none 0 0])) ?_
    refine Gx.eff0 rfl rfl (eff_store rfl Tryd.ty30 rfl rfl (us := [.slice none 0 0, .slice none 0 0, .slice none 0 0, .slice none 0 0]) rfl rfl rfl (k := 0) rfl (rfl) (vs' := [.slice none 0 0, .slice none 0 0, .slice none 0 0, .slice none 0 0]) (rfl) (l' := [Hp.rec_ b1 [.slice none 0 0, .slice none 0 0, .slice none 0 0, .slice none 0 0]]) rfl) ?_
    rintro _ _ rfl
    refine Gx.val rfl rfl rfl (val_assign rfl rfl) ?_
    refine Gx.done ?_
    refine Gx.thenN ?_
    refine Gx.ret ?_
    refine Gx.thenR ?_
    refine Gx.retC2 Tryd.results4 Tryd.ty30 rfl rfl (us := [.slice none 0 0, .slice none 0 0, .slice none 0 0, .slice none 0 0]) rfl (k := 0) rfl rfl ?_
    rfl
  · exfalso; omega

theorem play_own {W : World} {c : MC} {f : Nat} {sv : Value} {cs : List Sy} (hs : SlS FM 5 W sv cs) (h1n : 1 ≤ c.n) (h7n : c.n ≤ 7) (hcl : cs.length ≤ 120) (hf : f ≤ (c.n - 1) / 3) (hfn : c.need + f = c.n) (hLn : c.L >>> c.n = 0) (hL : c.L < 4294967296) :
    Calls Tryd.prog 4 #[.int .i64 ((c.n : Nat) : Int), .int .i64 ((f : Nat) : Int), .int .u32 ((c.L : Nat) : Int), sv] W (Ret W fun v l => ∃ (a0 : Option Addr) (m0 c0 : Nat) (a1 : Option Addr) (m1 c1 : Nat) (a2 : Option Addr) (m2 c2 : Nat) (a3 : Option Addr) (m3 c3 : Nat) (P : Hp), v = .tuple #[.agg #[.slice a0 m0 c0, .slice a1 m1 c1, .slice a2 m2 c2, .slice a3 m3 c3], .int .i64 0] ∧ l = [Hp.own FZ 1 (.slice a0 m0 c0) (codesM c (ms0 c.n) cs), Hp.own FK 2 (.slice a1 m1 c1) (stM c (ms0 c.n) cs).bl, Hp.own FB 1 (.slice a2 m2 c2) (certL c (stM c (ms0 c.n) cs)), decH (stM c (ms0 c.n) cs).bl (certL c (stM c (ms0 c.n) cs)) (.slice a3 m3 c3), P]) := by
  have ok : OkM c := ⟨h7n, by omega, hL⟩
  refine Gx.enter (l := []) Tryd.func4 rfl Tryd.ntmps4 rfl (Sat.start W) ?_
  refine Gx.know (m' := [(0, .int .i64 ((c.n : Nat) : Int)), (1, .int .i64 ((f : Nat) : Int)), (2, .int .u32 ((c.L : Nat) : Int)), (3, sv)]) (.cons rfl (.cons rfl (.cons rfl (.cons rfl .nil)))) ?_
  refine Gx.seq ?_
  refine Gx.region ?_
  refine Gx.eff rfl rfl rfl (eff_alloc rfl Tryd.ty30 (vs := [.slice none 0 0, .slice none 0 0, .slice none 0 0, .slice none 0 0]) rfl) ?_
  rintro _ _ ⟨b1, rfl, rfl⟩
  refine Gx.val rfl rfl rfl (val_assign rfl rfl) ?_
  refine Gx.done ?_
  refine Gx.thenN ?_
  refine Gx.seq ?_
  refine Gx.seq ?_
  refine Gx.region ?_
  refine Gx.val rfl rfl rfl (val_move rfl rfl) ?_
  refine Gx.val rfl rfl rfl (val_lss rfl rfl rfl) ?_
  refine Gx.val rfl rfl rfl (val_move rfl rfl) ?_
  refine Gx.slot (t := 17) (v := .bool false) (look_decF rfl (by omega)) ?_
  refine Gx.valg rfl rfl rfl rfl rfl (val_move rfl rfl) ?_
  refine Gx.valg rfl rfl rfl rfl rfl (val_gtr rfl rfl rfl) ?_
  refine Gx.val rfl rfl rfl (val_pickF rfl rfl rfl) ?_
  refine Gx.val rfl rfl rfl (val_move rfl rfl) ?_
  refine Gx.slot (t := 21) (v := .bool false) (look_decF rfl (by omega)) ?_
  refine Gx.valg rfl rfl rfl rfl rfl (val_move rfl rfl) ?_
  refine Gx.valg rfl rfl rfl rfl rfl (val_len rfl Tryd.underlying23 rfl (len_base hs)) ?_
  refine Gx.valg rfl rfl rfl rfl rfl (val_gtr rfl rfl rfl) ?_
  refine Gx.val rfl rfl rfl (val_pickF rfl rfl rfl) ?_
  refine Gx.done ?_
  refine Gx.thenN ?_
  refine Gx.decF rfl (by omega) ?_
  refine Gx.skip ?_
  refine Gx.thenN ?_
  refine Gx.seq ?_
  refine Gx.seq ?_
  refine Gx.region ?_
  refine Gx.val rfl rfl rfl (val_move rfl rfl) ?_
  refine Gx.val rfl rfl rfl (val_lss rfl rfl rfl) ?_
  refine Gx.val rfl rfl rfl (val_move rfl rfl) ?_
  refine Gx.slot (t := 29) (v := .bool false) (look_decF rfl (by omega)) ?_
  refine Gx.valg rfl rfl rfl rfl rfl (val_move rfl rfl) ?_
  refine Gx.valg rfl rfl rfl rfl rfl (val_move rfl rfl) ?_
  refine Gx.valg rfl rfl rfl rfl rfl (val_sub rfl rfl rfl (r := ((c.n - 1 : Nat) : Int)) (w64 (by omega) (by omega))) ?_
  refine Gx.valg rfl rfl rfl rfl rfl (val_quo rfl rfl rfl (r := (((c.n - 1) / 3 : Nat) : Int)) (by omega) (w64 (by rw [Int.tdiv_eq_ediv_of_nonneg (by omega)]; omega) (by omega))) ?_
  refine Gx.valg rfl rfl rfl rfl rfl (val_gtr rfl rfl rfl) ?_
  refine Gx.val rfl rfl rfl (val_pickF rfl rfl rfl) ?_
  refine Gx.done ?_
  refine Gx.thenN ?_
  refine Gx.decF rfl (by omega) ?_
  refine Gx.skip ?_
  refine Gx.thenN ?_
  refine Gx.seq ?_
  refine Gx.seq ?_
  refine Gx.region ?_
  refine Gx.val rfl rfl rfl (val_move rfl rfl) ?_
  refine Gx.val rfl rfl rfl (val_move rfl rfl) ?_
  refine Gx.val rfl rfl rfl (val_shr (b := c.n) rfl rfl rfl rfl (by show c.n ≤ 32; omega) (shr32 _ _)) ?_
  refine Gx.val rfl rfl rfl (val_neq rfl rfl rfl) ?_
  refine Gx.done ?_
  refine Gx.thenN ?_
  refine Gx.decF rfl (by omega) ?_
  refine Gx.skip ?_
  refine Gx.thenN ?_
  refine Gx.seq ?_
  refine Gx.region ?_
  refine Gx.val rfl rfl rfl (val_move rfl rfl) ?_
  refine Gx.val rfl rfl rfl (val_move rfl rfl) ?_
  refine Gx.val rfl rfl rfl (val_move rfl rfl) ?_
  refine Gx.val rfl rfl rfl (val_sub rfl rfl rfl (r := ((c.need : Nat) : Int)) (w64 (by omega) (by omega))) ?_
  refine Gx.val rfl rfl rfl (val_move rfl rfl) ?_
  refine Gx.val rfl rfl rfl (val_build rfl (qs := [(0, .int .i64 (-1))]) rfl rfl (fun w => by go_simp) (v := .agg #[.int .i64 (-1), .int .i64 0])) ?_
  refine Gx.eff rfl rfl rfl (eff_buildSlice rfl (qs := [(0, .agg #[.int .i64 (-1), .int .i64 0])]) rfl rfl (cs := #[.int .i64 (-1), .int .i64 0]) (vs := [.int .i64 (-1), .int .i64 0]) (E := 47) rfl (fun w => by first | (go_simp; done) | (go_simp; rfl))) ?_
  rintro _ _ ⟨b2, rfl, rfl⟩
  refine Gx.eff rfl rfl rfl (eff_buildSlice rfl (qs := [(0, .int .u32 0)]) rfl rfl (cs := #[.int .u32 0]) (vs := [.int .u32 0]) (E := 22) rfl (fun w => by first | (go_simp; done) | (go_simp; rfl))) ?_
  rintro _ _ ⟨b3, rfl, rfl⟩
  refine Gx.val rfl rfl rfl (val_move rfl rfl) ?_
  refine Gx.eff rfl rfl rfl (eff_makeSlice (n := c.n) (f := FR) rfl Tryd.underlying49 Tryd.ty90 rfl rfl (rfl) (rfl) FR_len (⟨0, 0⟩ : Mm) rfl (by omega) (by omega)) ?_
  rintro v4 _ ⟨hiv4, rfl⟩
  refine Gx.eff rfl rfl rfl (eff_makeMap 92 tripL vI rfl) ?_
  rintro _ _ ⟨b5, rfl, rfl⟩
  refine Gx.eff rfl rfl rfl (eff_makeMap 93 pairL vI rfl) ?_
  rintro _ _ ⟨b6, rfl, rfl⟩
  refine Gx.val rfl rfl rfl (val_build rfl (qs := [(0, .int .i64 ((c.n : Nat) : Int)), (1, .int .i64 ((c.need : Nat) : Int)), (2, .int .u32 ((c.L : Nat) : Int)), (3, .slice (some ⟨b2, 0, none⟩) 1 1), (4, .slice (some ⟨b3, 0, none⟩) 1 1), (5, v4), (6, .map (some b5)), (7, .map (some b6))]) rfl rfl (fun w => by obtain ⟨_, _, _, rfl⟩ := hiv4; go_simp) (v := .agg #[.int .i64 ((c.n : Nat) : Int), .int .i64 ((c.need : Nat) : Int), .int .u32 ((c.L : Nat) : Int), .slice (some ⟨b2, 0, none⟩) 1 1, .slice (some ⟨b3, 0, none⟩) 1 1, v4, .map (some b5), .map (some b6)])) ?_
  refine Gx.eff rfl rfl rfl (eff_box rfl rfl (vs := [.int .i64 ((c.n : Nat) : Int), .int .i64 ((c.need : Nat) : Int), .int .u32 ((c.L : Nat) : Int), .slice (some ⟨b2, 0, none⟩) 1 1, .slice (some ⟨b3, 0, none⟩) 1 1, v4, .map (some b5), .map (some b6)]) rfl) ?_
  rintro _ _ ⟨b7, rfl, rfl⟩
  refine Gx.val rfl rfl rfl (val_assign rfl rfl) ?_
  refine Gx.done ?_
  refine Gx.thenN ?_
  refine Gx.seq ?_
  obtain ⟨S, rfl⟩ : ∃ S, S = b7 := ⟨_, rfl⟩
  refine Gx.part (k := 5) rfl (q := Hp.own FK 2 (.slice (some ⟨b2, 0, none⟩) 1 1) ([(⟨-1, 0⟩ : Bk)])) (own_of_rec (f := FK) (xs := [(⟨-1, 0⟩ : Bk)]) FK_len rfl) ?_
  refine Gx.norm (l' := [Hp.rec_ S [.int .i64 ((c.n : Nat) : Int), .int .i64 ((c.need : Nat) : Int), .int .u32 ((c.L : Nat) : Int), .slice (some ⟨b2, 0, none⟩) 1 1, .slice (some ⟨b3, 0, none⟩) 1 1, v4, .map (some b5), .map (some b6)], Hp.map Tryd.prog 93 pairL vI b6 ([]), Hp.map Tryd.prog 92 tripL vI b5 ([]), Hp.own FR 2 v4 (List.replicate c.n (⟨0, 0⟩ : Mm)), Hp.rec_ b3 [.int .u32 0], Hp.own FK 2 (.slice (some ⟨b2, 0, none⟩) 1 1) ([(⟨-1, 0⟩ : Bk)]), Hp.rec_ b1 [.slice none 0 0, .slice none 0 0, .slice none 0 0, .slice none 0 0]]) rfl ?_
  refine Gx.part (k := 4) rfl (q := Hp.own FV 1 (.slice (some ⟨b3, 0, none⟩) 1 1) ([0])) (own_of_rec (f := FV) (xs := [0]) FV_len rfl) ?_
  refine Gx.norm (l' := [Hp.rec_ S [.int .i64 ((c.n : Nat) : Int), .int .i64 ((c.need : Nat) : Int), .int .u32 ((c.L : Nat) : Int), .slice (some ⟨b2, 0, none⟩) 1 1, .slice (some ⟨b3, 0, none⟩) 1 1, v4, .map (some b5), .map (some b6)], Hp.map Tryd.prog 93 pairL vI b6 ([]), Hp.map Tryd.prog 92 tripL vI b5 ([]), Hp.own FR 2 v4 (List.replicate c.n (⟨0, 0⟩ : Mm)), Hp.own FV 1 (.slice (some ⟨b3, 0, none⟩) 1 1) ([0]), Hp.own FK 2 (.slice (some ⟨b2, 0, none⟩) 1 1) ([(⟨-1, 0⟩ : Bk)]), Hp.rec_ b1 [.slice none 0 0, .slice none 0 0, .slice none 0 0, .slice none 0 0]]) rfl ?_
  refine Gx.front 1 rfl ?_
  refine Gx.front 2 rfl ?_
  refine Gx.front 3 rfl ?_
  refine Gx.front 4 rfl ?_
  refine Gx.front 5 rfl ?_
  refine Gx.front 5 rfl ?_
  refine Gx.sat (l' := [worldH S c (ms0 c.n), Hp.rec_ b1 [.slice none 0 0, .slice none 0 0, .slice none 0 0, .slice none 0 0]]) (fun w H => worldH.shut (S := S) (c := c) (s := ms0 c.n) (bv := (.slice (some ⟨b2, 0, none⟩) 1 1)) (vv := (.slice (some ⟨b3, 0, none⟩) 1 1)) (mv := v4) (lb := b5) (gb := b6) (R := sep [Hp.rec_ b1 [.slice none 0 0, .slice none 0 0, .slice none 0 0, .slice none 0 0]]) H) ?_
  refine Gx.region ?_
  refine Gx.eff rfl rfl rfl (eff_alloc rfl Tryd.ty30 (vs := [.slice none 0 0, .slice none 0 0, .slice none 0 0, .slice none 0 0]) rfl) ?_
  rintro _ _ ⟨b8, rfl, rfl⟩
  refine Gx.done ?_
  refine Gx.thenN ?_
  refine Gx.seq ?_
  refine Gx.seq ?_
  refine Gx.ownNil FZ 1 ?_
  refine Gx.region ?_
  refine Gx.val rfl rfl rfl (val_move rfl rfl) ?_
  refine Gx.val rfl rfl rfl (val_len rfl Tryd.underlying23 rfl (len_base hs)) ?_
  refine Gx.val rfl rfl rfl (val_move rfl rfl) ?_
  refine Gx.done ?_
  refine Gx.thenN ?_
  refine Gx.block ?_
  refine Gx.front 2 rfl ?_
  refine Gx.front 3 rfl ?_
  refine Gx.front 3 rfl ?_
  refine Gx.front 3 rfl ?_
  refine Gx.loop (ι := Nat × Value) (fun ξ => (ξ.1 ≤ cs.length) ∧ (IsS ξ.2)) (fun ξ => [(8, ptr b1 0), (10, ptr S 0), (11, ptr b8 0), (56, sv), (57, .int .i64 ((cs.length : Nat) : Int)), (58, .int .i64 ((ξ.1 : Nat) : Int))]) (fun ξ => [Hp.own FZ 1 ξ.2 (codesM c (ms0 c.n) (cs.take ξ.1)), Hp.rec_ b8 [ξ.2, .slice none 0 0, .slice none 0 0, .slice none 0 0], Hp.rec_ b1 [.slice none 0 0, .slice none 0 0, .slice none 0 0, .slice none 0 0], worldH S c (stM c (ms0 c.n) (cs.take ξ.1))]) (fun ξ => cs.length - ξ.1) (0, (.slice none 0 0)) ⟨by first | omega | (dsimp only; omega), ⟨none, 0, 0, rfl⟩⟩ ((.cons rfl (.cons rfl (.cons rfl (.cons rfl (.cons rfl (.cons rfl .nil))))))) rfl ?_
  rintro ⟨i, cv⟩ ⟨hi, hicv⟩
  dsimp only at hi hicv
  refine Gx.know (m' := [(8, ptr b1 0), (10, ptr S 0), (11, ptr b8 0), (56, sv), (57, .int .i64 ((cs.length : Nat) : Int)), (58, .int .i64 ((i : Nat) : Int))]) (.cons rfl (.cons rfl (.cons rfl (.cons rfl (.cons rfl (.cons rfl .nil)))))) (Gx.norm (l' := [Hp.own FZ 1 cv (codesM c (ms0 c.n) (cs.take i)), Hp.rec_ b8 [cv, .slice none 0 0, .slice none 0 0, .slice none 0 0], Hp.rec_ b1 [.slice none 0 0, .slice none 0 0, .slice none 0 0, .slice none 0 0], worldH S c (stM c (ms0 c.n) (cs.take i))]) rfl ?_)
  have bd : BdM 120 c (stM c (ms0 c.n) (cs.take i)) := (BdM.at_ ok (cs.take i)).mono (by rw [List.length_take]; omega)
  have hci : (codesM c (ms0 c.n) (cs.take i)).length = i := by rw [codesM_len, List.length_take]; omega
  refine Gx.seq ?_
  refine Gx.region ?_
  refine Gx.val rfl rfl rfl (val_lss rfl rfl rfl) ?_
  refine Gx.done ?_
  refine Gx.thenN ?_
  refine Gx.seq ?_
  refine Gx.dec rfl (fun h9 => ?_) (fun h9 => ?_)
  · refine Gx.skip ?_
    refine Gx.thenN ?_
    refine Gx.seq ?_
    refine Gx.block ?_
    refine Gx.seq ?_
    refine Gx.region ?_
    obtain ⟨x10, hx10⟩ := get_of_lt (xs := cs) (k := i) (by first | omega | (simp; omega))
    refine Gx.val rfl rfl rfl (val_ixa rfl Tryd.underlying23 Tryd.ty55 rfl rfl (j := i) (rfl) (reach_base hs hx10)) ?_
    refine Gx.val rfl rfl rfl (Val.cast (val_loadA rfl Tryd.ty55 rfl rfl rfl (cells_base hs hx10)) (v' := .agg #[.int .i64 x10.kind, .int .i64 x10.who, .int .i64 x10.blk, .int .i64 x10.rnd, .int .i64 x10.hi]) rfl) ?_
    refine Gx.eff rfl rfl rfl (eff_alloc rfl Tryd.ty55 (vs := [.int .i64 0, .int .i64 0, .int .i64 0, .int .i64 0, .int .i64 0]) rfl) ?_
    rintro _ _ ⟨b11, rfl, rfl⟩
    refine Gx.eff0 rfl rfl (eff_store rfl Tryd.ty55 rfl rfl (us := [.int .i64 x10.kind, .int .i64 x10.who, .int .i64 x10.blk, .int .i64 x10.rnd, .int .i64 x10.hi]) rfl rfl rfl (k := 0) rfl (rfl) (vs' := [.int .i64 x10.kind, .int .i64 x10.who, .int .i64 x10.blk, .int .i64 x10.rnd, .int .i64 x10.hi]) (rfl) (l' := [Hp.rec_ b11 [.int .i64 x10.kind, .int .i64 x10.who, .int .i64 x10.blk, .int .i64 x10.rnd, .int .i64 x10.hi], Hp.own FZ 1 cv (codesM c (ms0 c.n) (cs.take i)), Hp.rec_ b8 [cv, .slice none 0 0, .slice none 0 0, .slice none 0 0], Hp.rec_ b1 [.slice none 0 0, .slice none 0 0, .slice none 0 0, .slice none 0 0], worldH S c (stM c (ms0 c.n) (cs.take i))]) rfl) ?_
    rintro _ _ rfl
    refine Gx.done ?_
    refine Gx.thenN ?_
    refine Gx.regionO (fun j => j == 4 || j == 5) 6 [0, 1, 2, 3, 4, 5] (fun us => match us with | [] => [Hp.rec_ b11 [.int .i64 x10.kind, .int .i64 x10.who, .int .i64 x10.blk, .int .i64 x10.rnd, .int .i64 x10.hi], Hp.own FZ 1 cv (codesM c (ms0 c.n) (cs.take i)), Hp.rec_ b8 [cv, .slice none 0 0, .slice none 0 0, .slice none 0 0], Hp.rec_ b1 [.slice none 0 0, .slice none 0 0, .slice none 0 0, .slice none 0 0], worldH S c (stM c (ms0 c.n) (cs.take i))] | [u1] => [worldH S c ((stepM c (stM c (ms0 c.n) (cs.take i)) x10).2), Hp.rec_ b11 [.int .i64 x10.kind, .int .i64 x10.who, .int .i64 x10.blk, .int .i64 x10.rnd, .int .i64 x10.hi], Hp.own FZ 1 cv (codesM c (ms0 c.n) (cs.take i)), Hp.rec_ b8 [cv, .slice none 0 0, .slice none 0 0, .slice none 0 0], Hp.rec_ b1 [.slice none 0 0, .slice none 0 0, .slice none 0 0, .slice none 0 0]] | u1 :: u2 :: _ => [Hp.rec_ (sB u2) [.int .i64 ((stepM c (stM c (ms0 c.n) (cs.take i)) x10).1)], worldH S c ((stepM c (stM c (ms0 c.n) (cs.take i)) x10).2), Hp.rec_ b11 [.int .i64 x10.kind, .int .i64 x10.who, .int .i64 x10.blk, .int .i64 x10.rnd, .int .i64 x10.hi], Hp.own FZ 1 cv (codesM c (ms0 c.n) (cs.take i)), Hp.rec_ b8 [cv, .slice none 0 0, .slice none 0 0, .slice none 0 0], Hp.rec_ b1 [.slice none 0 0, .slice none 0 0, .slice none 0 0, .slice none 0 0]]) Tryd.mixed (by kernel_rfl) rfl ?_
    refine Gw.val rfl rfl rfl rfl rfl (fun us => Val.cast (val_fieldAddr rfl Tryd.underlying30 rfl Tryd.ty26 rfl rfl) (v' := ptr b8 0) rfl) ?_
    refine Gw.val rfl rfl rfl rfl rfl (fun us => match us with | [] => val_load rfl Tryd.ty26 rfl rfl (cell_rec (k := 2) rfl rfl) | [u1] => val_load rfl Tryd.ty26 rfl rfl (cell_rec (k := 3) rfl rfl) | u1 :: u2 :: _ => val_load rfl Tryd.ty26 rfl rfl (cell_rec (k := 4) rfl rfl)) ?_
    refine Gw.val rfl rfl rfl rfl rfl (fun us => val_move rfl rfl) ?_
    refine Gw.val rfl rfl rfl rfl rfl (fun us => match us with | [] => Val.cast (val_loadA rfl Tryd.ty55 rfl rfl rfl (cells_rec (k := 0) rfl)) (v' := .agg #[.int .i64 x10.kind, .int .i64 x10.who, .int .i64 x10.blk, .int .i64 x10.rnd, .int .i64 x10.hi]) rfl | [u1] => Val.cast (val_loadA rfl Tryd.ty55 rfl rfl rfl (cells_rec (k := 1) rfl)) (v' := .agg #[.int .i64 x10.kind, .int .i64 x10.who, .int .i64 x10.blk, .int .i64 x10.rnd, .int .i64 x10.hi]) rfl | u1 :: u2 :: _ => Val.cast (val_loadA rfl Tryd.ty55 rfl rfl rfl (cells_rec (k := 2) rfl)) (v' := .agg #[.int .i64 x10.kind, .int .i64 x10.who, .int .i64 x10.blk, .int .i64 x10.rnd, .int .i64 x10.hi]) rfl) ?_
    refine Gw.chg rfl rfl rfl rfl rfl (fun v => v = .int .i64 ((stepM c (stM c (ms0 c.n) (cs.take i)) x10).1)) (eff_call (vs := [ptr S 0, .agg #[.int .i64 x10.kind, .int .i64 x10.who, .int .i64 x10.blk, .int .i64 x10.rnd, .int .i64 x10.hi]]) rfl Tryd.fn8 rfl (fun w H => step_any (x := x10) ok bd (by decide) (H.at_ (k := 4) rfl))) ?_
    rintro _ rfl
    refine Gw.chg rfl rfl rfl rfl rfl (fun v => ∃ b13, v = .slice (some ⟨b13, 0, none⟩) 1 1) (Eff.mono (eff_buildSlice rfl (qs := [(0, .int .i64 ((stepM c (stM c (ms0 c.n) (cs.take i)) x10).1))]) rfl rfl (cs := #[.int .i64 ((stepM c (stM c (ms0 c.n) (cs.take i)) x10).1)]) (vs := [.int .i64 ((stepM c (stM c (ms0 c.n) (cs.take i)) x10).1)]) (E := 31) rfl (fun w => by first | (go_simp; done) | (go_simp; rfl))) (by rintro _ _ ⟨b13, rfl, rfl⟩; exact ⟨⟨b13, rfl⟩, rfl⟩)) ?_
    rintro _ ⟨b13, rfl⟩
    refine Gw.done ?_
    refine Gx.norm (l' := [Hp.rec_ b13 [.int .i64 ((stepM c (stM c (ms0 c.n) (cs.take i)) x10).1)], worldH S c ((stepM c (stM c (ms0 c.n) (cs.take i)) x10).2), Hp.rec_ b11 [.int .i64 x10.kind, .int .i64 x10.who, .int .i64 x10.blk, .int .i64 x10.rnd, .int .i64 x10.hi], Hp.own FZ 1 cv (codesM c (ms0 c.n) (cs.take i)), Hp.rec_ b8 [cv, .slice none 0 0, .slice none 0 0, .slice none 0 0], Hp.rec_ b1 [.slice none 0 0, .slice none 0 0, .slice none 0 0, .slice none 0 0]]) rfl ?_
    refine Gx.eff rfl rfl rfl (eff_push (r := (stepM c (stM c (ms0 c.n) (cs.take i)) x10).1) rfl Tryd.eZ FZ_len FZ_one rfl rfl (k := 0) rfl rfl (k' := 2) rfl (by rw [hci]; omega) (by rw [hci]; omega)) ?_
    rintro v14 _ ⟨hiv14, rfl⟩
    refine Gx.norm (l' := [worldH S c ((stepM c (stM c (ms0 c.n) (cs.take i)) x10).2), Hp.rec_ b11 [.int .i64 x10.kind, .int .i64 x10.who, .int .i64 x10.blk, .int .i64 x10.rnd, .int .i64 x10.hi], Hp.own FZ 1 v14 ((codesM c (ms0 c.n) (cs.take i)) ++ [(stepM c (stM c (ms0 c.n) (cs.take i)) x10).1]), Hp.rec_ b8 [cv, .slice none 0 0, .slice none 0 0, .slice none 0 0], Hp.rec_ b1 [.slice none 0 0, .slice none 0 0, .slice none 0 0, .slice none 0 0]]) rfl ?_
    refine Gx.val rfl rfl rfl (Val.cast (val_fieldAddr rfl Tryd.underlying30 rfl Tryd.ty26 rfl rfl) (v' := ptr b8 0) rfl) ?_
    refine Gx.eff0 rfl rfl (eff_store rfl Tryd.ty26 rfl rfl (us := [v14]) hiv14.cellsL rfl hiv14.all (k := 3) rfl (rfl) (vs' := [v14, .slice none 0 0, .slice none 0 0, .slice none 0 0]) (rfl) (l' := [worldH S c ((stepM c (stM c (ms0 c.n) (cs.take i)) x10).2), Hp.rec_ b11 [.int .i64 x10.kind, .int .i64 x10.who, .int .i64 x10.blk, .int .i64 x10.rnd, .int .i64 x10.hi], Hp.own FZ 1 v14 ((codesM c (ms0 c.n) (cs.take i)) ++ [(stepM c (stM c (ms0 c.n) (cs.take i)) x10).1]), Hp.rec_ b8 [v14, .slice none 0 0, .slice none 0 0, .slice none 0 0], Hp.rec_ b1 [.slice none 0 0, .slice none 0 0, .slice none 0 0, .slice none 0 0]]) rfl) ?_
    rintro _ _ rfl
    refine Gx.done ?_
    refine Gx.blkN ?_
    refine Gx.thenN ?_
    refine Gx.region ?_
    refine Gx.val rfl rfl rfl (val_add rfl rfl rfl (r := ((i + 1 : Nat) : Int)) (w64 (by omega) (by omega))) ?_
    refine Gx.val rfl rfl rfl (val_move rfl rfl) ?_
    refine Gx.done ?_
    refine Gx.thenN ?_
    refine Gx.drop 1 rfl ?_
    refine Gx.front 0 rfl ?_
    refine Gx.front 3 rfl ?_
    refine Gx.front 3 rfl ?_
    refine Gx.front 3 rfl ?_
    refine Gx.norm (l' := [Hp.own FZ 1 v14 (codesM c (ms0 c.n) (cs.take (i + 1))), Hp.rec_ b8 [v14, .slice none 0 0, .slice none 0 0, .slice none 0 0], Hp.rec_ b1 [.slice none 0 0, .slice none 0 0, .slice none 0 0, .slice none 0 0], worldH S c (stM c (ms0 c.n) (cs.take (i + 1)))]) (by rw [stM_snoc hx10, codesM_snoc hx10] <;> rfl) ?_
    exact Gx.round (i + 1, v14) ⟨by first | omega | (dsimp only; omega), hiv14⟩ (by first | omega | (dsimp only; omega)) ((.cons rfl (.cons rfl (.cons rfl (.cons rfl (.cons rfl (.cons rfl .nil))))))) rfl
  · refine Gx.exit ?_
    refine Gx.thenE ?_
    refine Gx.thenE ?_
    refine Gx.blkE ?_
    refine Gx.thenN ?_
    refine Gx.seq ?_
    refine Gx.seq ?_
    have ei : i = cs.length := by omega
    subst ei
    rw [List.take_length] at bd hci
    refine Gx.norm (l' := [Hp.own FZ 1 cv (codesM c (ms0 c.n) cs), Hp.rec_ b8 [cv, .slice none 0 0, .slice none 0 0, .slice none 0 0], Hp.rec_ b1 [.slice none 0 0, .slice none 0 0, .slice none 0 0, .slice none 0 0], worldH S c (stM c (ms0 c.n) cs)]) (by rw [List.take_length] <;> rfl) ?_
    obtain ⟨s, hsd⟩ : ∃ s, s = stM c (ms0 c.n) cs := ⟨_, rfl⟩
    rw [← hsd] at bd
    refine Gx.norm (l' := [Hp.own FZ 1 cv (codesM c (ms0 c.n) cs), Hp.rec_ b8 [cv, .slice none 0 0, .slice none 0 0, .slice none 0 0], Hp.rec_ b1 [.slice none 0 0, .slice none 0 0, .slice none 0 0, .slice none 0 0], worldH S c s]) (by rw [hsd] <;> rfl) ?_
    refine Gx.front 3 rfl ?_
    refine Gx.exists_ (α := {q : Value × Value × Value × Nat × Nat // IsS q.1}) (l' := fun q => [Hp.rec_ S [.int .i64 ((c.n : Nat) : Int), .int .i64 ((c.need : Nat) : Int), .int .u32 ((c.L : Nat) : Int), q.1.1, q.1.2.1, q.1.2.2.1, .map (some q.1.2.2.2.1), .map (some q.1.2.2.2.2)], Hp.own FK 2 q.1.1 s.bl, Hp.own FV 1 q.1.2.1 s.vt, Hp.own FR 2 q.1.2.2.1 s.ms, Hp.map Tryd.prog 92 tripL vI q.1.2.2.2.1 s.lt, Hp.map Tryd.prog 93 pairL vI q.1.2.2.2.2 s.gv, Hp.own FZ 1 cv (codesM c (ms0 c.n) cs), Hp.rec_ b8 [cv, .slice none 0 0, .slice none 0 0, .slice none 0 0], Hp.rec_ b1 [.slice none 0 0, .slice none 0 0, .slice none 0 0, .slice none 0 0]]) (fun w H => ?_) ?_
    · obtain ⟨bv, vv, mv, lb, gb, H⟩ := worldH.open_ (R := sep [Hp.own FZ 1 cv (codesM c (ms0 c.n) cs), Hp.rec_ b8 [cv, .slice none 0 0, .slice none 0 0, .slice none 0 0], Hp.rec_ b1 [.slice none 0 0, .slice none 0 0, .slice none 0 0, .slice none 0 0]]) H
      exact ⟨⟨(bv, vv, mv, lb, gb), isS_own (H.at_ (k := 1) rfl)⟩, H.cast (by rw [sep6R]; rfl)⟩
    rintro ⟨⟨bv, vv, mv, lb, gb⟩, hbv⟩
    dsimp only at hbv
    refine Gx.norm (l' := [Hp.rec_ S [.int .i64 ((c.n : Nat) : Int), .int .i64 ((c.need : Nat) : Int), .int .u32 ((c.L : Nat) : Int), bv, vv, mv, .map (some lb), .map (some gb)], Hp.own FK 2 bv s.bl, Hp.own FV 1 vv s.vt, Hp.own FR 2 mv s.ms, Hp.map Tryd.prog 92 tripL vI lb s.lt, Hp.map Tryd.prog 93 pairL vI gb s.gv, Hp.own FZ 1 cv (codesM c (ms0 c.n) cs), Hp.rec_ b8 [cv, .slice none 0 0, .slice none 0 0, .slice none 0 0], Hp.rec_ b1 [.slice none 0 0, .slice none 0 0, .slice none 0 0, .slice none 0 0]]) rfl ?_
    have hb40 := bd.b40
    have hvl := bd.vlen
    obtain ⟨sa15, sn16, sc17, rfl⟩ := hicv
    obtain ⟨sa18, sn19, sc20, rfl⟩ := hbv
    refine Gx.ownNil FB 1 ?_
    refine Gx.region ?_
    refine Gx.val rfl rfl rfl (val_move rfl rfl) ?_
    refine Gx.val rfl rfl rfl (val_nilCheck rfl rfl) ?_
    refine Gx.val rfl rfl rfl (Val.cast (val_fieldAddr rfl Tryd.underlying53 rfl Tryd.ty27 rfl rfl) (v' := ptr S 3) rfl) ?_
    refine Gx.val rfl rfl rfl (val_load rfl Tryd.ty27 rfl rfl (cell_rec (k := 1) rfl rfl)) ?_
    refine Gx.val rfl rfl rfl (val_len rfl Tryd.underlying27 rfl (len_own (k := 2) rfl)) ?_
    refine Gx.val rfl rfl rfl (val_move rfl rfl) ?_
    refine Gx.done ?_
    refine Gx.thenN ?_
    refine Gx.block ?_
    refine Gx.front 9 rfl ?_
    refine Gx.front 8 rfl ?_
    refine Gx.front 8 rfl ?_
    refine Gx.front 8 rfl ?_
    refine Gx.front 8 rfl ?_
    refine Gx.front 8 rfl ?_
    refine Gx.front 8 rfl ?_
    refine Gx.front 8 rfl ?_
    refine Gx.front 9 rfl ?_
    refine Gx.front 9 rfl ?_
    refine Gx.loop (ι := Nat × Value) (fun ξ => (ξ.1 ≤ s.bl.length) ∧ (IsS ξ.2)) (fun ξ => [(8, ptr b1 0), (10, ptr S 0), (11, ptr b8 0), (75, .int .i64 ((s.bl.length : Nat) : Int)), (76, .int .i64 ((ξ.1 : Nat) : Int))]) (fun ξ => [Hp.own FB 1 ξ.2 ((List.range ξ.1).map (certM c s)), Hp.rec_ b8 [.slice sa15 sn16 sc17, .slice none 0 0, ξ.2, .slice none 0 0], Hp.rec_ S [.int .i64 ((c.n : Nat) : Int), .int .i64 ((c.need : Nat) : Int), .int .u32 ((c.L : Nat) : Int), .slice sa18 sn19 sc20, vv, mv, .map (some lb), .map (some gb)], Hp.own FK 2 (.slice sa18 sn19 sc20) s.bl, Hp.own FV 1 vv s.vt, Hp.own FR 2 mv s.ms, Hp.map Tryd.prog 92 tripL vI lb s.lt, Hp.map Tryd.prog 93 pairL vI gb s.gv, Hp.own FZ 1 (.slice sa15 sn16 sc17) (codesM c (ms0 c.n) cs), Hp.rec_ b1 [.slice none 0 0, .slice none 0 0, .slice none 0 0, .slice none 0 0]]) (fun ξ => s.bl.length - ξ.1) (0, (.slice none 0 0)) ⟨by first | omega | (dsimp only; omega), ⟨none, 0, 0, rfl⟩⟩ ((.cons rfl (.cons rfl (.cons rfl (.cons rfl (.cons rfl .nil)))))) rfl ?_
    rintro ⟨j, wv⟩ ⟨hj, hiw⟩
    dsimp only at hj hiw
    refine Gx.know (m' := [(8, ptr b1 0), (10, ptr S 0), (11, ptr b8 0), (75, .int .i64 ((s.bl.length : Nat) : Int)), (76, .int .i64 ((j : Nat) : Int))]) (.cons rfl (.cons rfl (.cons rfl (.cons rfl (.cons rfl .nil))))) (Gx.norm (l' := [Hp.own FB 1 wv ((List.range j).map (certM c s)), Hp.rec_ b8 [.slice sa15 sn16 sc17, .slice none 0 0, wv, .slice none 0 0], Hp.rec_ S [.int .i64 ((c.n : Nat) : Int), .int .i64 ((c.need : Nat) : Int), .int .u32 ((c.L : Nat) : Int), .slice sa18 sn19 sc20, vv, mv, .map (some lb), .map (some gb)], Hp.own FK 2 (.slice sa18 sn19 sc20) s.bl, Hp.own FV 1 vv s.vt, Hp.own FR 2 mv s.ms, Hp.map Tryd.prog 92 tripL vI lb s.lt, Hp.map Tryd.prog 93 pairL vI gb s.gv, Hp.own FZ 1 (.slice sa15 sn16 sc17) (codesM c (ms0 c.n) cs), Hp.rec_ b1 [.slice none 0 0, .slice none 0 0, .slice none 0 0, .slice none 0 0]]) rfl ?_)
    have hml : ((List.range j).map (certM c s)).length = j := by rw [List.length_map, List.length_range]
    refine Gx.seq ?_
    refine Gx.region ?_
    refine Gx.val rfl rfl rfl (val_lss rfl rfl rfl) ?_
    refine Gx.done ?_
    refine Gx.thenN ?_
    refine Gx.seq ?_
    refine Gx.dec rfl (fun h21 => ?_) (fun h21 => ?_)
    · refine Gx.skip ?_
      refine Gx.thenN ?_
      refine Gx.seq ?_
      refine Gx.block ?_
      refine Gx.seq ?_
      refine Gx.region ?_
      refine Gx.val rfl rfl rfl (val_move rfl rfl) ?_
      refine Gx.val rfl rfl rfl (val_assign rfl rfl) ?_
      refine Gx.done ?_
      refine Gx.thenN ?_
      refine Gx.regionO (fun j => j == 5) 6 [0, 1, 2, 3, 4, 5] (fun us => match us with | [] => [Hp.own FB 1 wv ((List.range j).map (certM c s)), Hp.rec_ b8 [.slice sa15 sn16 sc17, .slice none 0 0, wv, .slice none 0 0], Hp.rec_ S [.int .i64 ((c.n : Nat) : Int), .int .i64 ((c.need : Nat) : Int), .int .u32 ((c.L : Nat) : Int), .slice sa18 sn19 sc20, vv, mv, .map (some lb), .map (some gb)], Hp.own FK 2 (.slice sa18 sn19 sc20) s.bl, Hp.own FV 1 vv s.vt, Hp.own FR 2 mv s.ms, Hp.map Tryd.prog 92 tripL vI lb s.lt, Hp.map Tryd.prog 93 pairL vI gb s.gv, Hp.own FZ 1 (.slice sa15 sn16 sc17) (codesM c (ms0 c.n) cs), Hp.rec_ b1 [.slice none 0 0, .slice none 0 0, .slice none 0 0, .slice none 0 0]] | u1 :: _ => [Hp.rec_ (sB u1) [.bool (certM c s j)], Hp.own FB 1 wv ((List.range j).map (certM c s)), Hp.rec_ b8 [.slice sa15 sn16 sc17, .slice none 0 0, wv, .slice none 0 0], Hp.rec_ S [.int .i64 ((c.n : Nat) : Int), .int .i64 ((c.need : Nat) : Int), .int .u32 ((c.L : Nat) : Int), .slice sa18 sn19 sc20, vv, mv, .map (some lb), .map (some gb)], Hp.own FK 2 (.slice sa18 sn19 sc20) s.bl, Hp.own FV 1 vv s.vt, Hp.own FR 2 mv s.ms, Hp.map Tryd.prog 92 tripL vI lb s.lt, Hp.map Tryd.prog 93 pairL vI gb s.gv, Hp.own FZ 1 (.slice sa15 sn16 sc17) (codesM c (ms0 c.n) cs), Hp.rec_ b1 [.slice none 0 0, .slice none 0 0, .slice none 0 0, .slice none 0 0]]) Tryd.mixed (by kernel_rfl) rfl ?_
      refine Gw.val rfl rfl rfl rfl rfl (fun us => Val.cast (val_fieldAddr rfl Tryd.underlying30 rfl Tryd.ty28 rfl rfl) (v' := ptr b8 2) rfl) ?_
      refine Gw.val rfl rfl rfl rfl rfl (fun us => match us with | [] => val_load rfl Tryd.ty28 rfl rfl (cell_rec (k := 1) rfl rfl) | u1 :: _ => val_load rfl Tryd.ty28 rfl rfl (cell_rec (k := 2) rfl rfl)) ?_
      refine Gw.val rfl rfl rfl rfl rfl (fun us => val_move rfl rfl) ?_
      refine Gw.val rfl rfl rfl rfl rfl (fun us => val_move rfl rfl) ?_
      refine Gw.val0 rfl rfl rfl (by kernel_rfl) rfl rfl (val_call (vs := [ptr S 0, .int .i64 ((j : Nat) : Int)]) rfl Tryd.fn9 rfl (fun w H => cert_any (s := s) (b := j) ((H.at_ (k := 2) rfl).rec_.1) ((H.at_ (k := 2) rfl).cell 1 rfl) ((H.at_ (k := 2) rfl).cell 4 rfl) ((H.at_ (k := 4) rfl).sls (by first | omega | (simp; omega))) (bd.v128 ok) (by omega))) ?_
      refine Gw.chg rfl rfl rfl rfl rfl (fun v => ∃ b22, v = .slice (some ⟨b22, 0, none⟩) 1 1) (Eff.mono (eff_buildSlice rfl (qs := [(0, .bool (certM c s j))]) rfl rfl (cs := #[.bool (certM c s j)]) (vs := [.bool (certM c s j)]) (E := 4) rfl (fun w => by first | (go_simp; done) | (go_simp; rfl))) (by rintro _ _ ⟨b22, rfl, rfl⟩; exact ⟨⟨b22, rfl⟩, rfl⟩)) ?_
      rintro _ ⟨b22, rfl⟩
      refine Gw.done ?_
      refine Gx.norm (l' := [Hp.rec_ b22 [.bool (certM c s j)], Hp.own FB 1 wv ((List.range j).map (certM c s)), Hp.rec_ b8 [.slice sa15 sn16 sc17, .slice none 0 0, wv, .slice none 0 0], Hp.rec_ S [.int .i64 ((c.n : Nat) : Int), .int .i64 ((c.need : Nat) : Int), .int .u32 ((c.L : Nat) : Int), .slice sa18 sn19 sc20, vv, mv, .map (some lb), .map (some gb)], Hp.own FK 2 (.slice sa18 sn19 sc20) s.bl, Hp.own FV 1 vv s.vt, Hp.own FR 2 mv s.ms, Hp.map Tryd.prog 92 tripL vI lb s.lt, Hp.map Tryd.prog 93 pairL vI gb s.gv, Hp.own FZ 1 (.slice sa15 sn16 sc17) (codesM c (ms0 c.n) cs), Hp.rec_ b1 [.slice none 0 0, .slice none 0 0, .slice none 0 0, .slice none 0 0]]) rfl ?_
      refine Gx.eff rfl rfl rfl (eff_push (r := (certM c s j)) rfl Tryd.eB FB_len FB_one rfl rfl (k := 0) rfl rfl (k' := 0) rfl (by rw [hml]; omega) (by rw [hml]; omega)) ?_
      rintro v23 _ ⟨hiv23, rfl⟩
      refine Gx.norm (l' := [Hp.own FB 1 v23 (((List.range j).map (certM c s)) ++ [(certM c s j)]), Hp.rec_ b8 [.slice sa15 sn16 sc17, .slice none 0 0, wv, .slice none 0 0], Hp.rec_ S [.int .i64 ((c.n : Nat) : Int), .int .i64 ((c.need : Nat) : Int), .int .u32 ((c.L : Nat) : Int), .slice sa18 sn19 sc20, vv, mv, .map (some lb), .map (some gb)], Hp.own FK 2 (.slice sa18 sn19 sc20) s.bl, Hp.own FV 1 vv s.vt, Hp.own FR 2 mv s.ms, Hp.map Tryd.prog 92 tripL vI lb s.lt, Hp.map Tryd.prog 93 pairL vI gb s.gv, Hp.own FZ 1 (.slice sa15 sn16 sc17) (codesM c (ms0 c.n) cs), Hp.rec_ b1 [.slice none 0 0, .slice none 0 0, .slice none 0 0, .slice none 0 0]]) rfl ?_
      refine Gx.val rfl rfl rfl (Val.cast (val_fieldAddr rfl Tryd.underlying30 rfl Tryd.ty28 rfl rfl) (v' := ptr b8 2) rfl) ?_
      refine Gx.eff0 rfl rfl (eff_store rfl Tryd.ty28 rfl rfl (us := [v23]) hiv23.cellsL rfl hiv23.all (k := 1) rfl (rfl) (vs' := [.slice sa15 sn16 sc17, .slice none 0 0, v23, .slice none 0 0]) (rfl) (l' := [Hp.own FB 1 v23 (((List.range j).map (certM c s)) ++ [(certM c s j)]), Hp.rec_ b8 [.slice sa15 sn16 sc17, .slice none 0 0, v23, .slice none 0 0], Hp.rec_ S [.int .i64 ((c.n : Nat) : Int), .int .i64 ((c.need : Nat) : Int), .int .u32 ((c.L : Nat) : Int), .slice sa18 sn19 sc20, vv, mv, .map (some lb), .map (some gb)], Hp.own FK 2 (.slice sa18 sn19 sc20) s.bl, Hp.own FV 1 vv s.vt, Hp.own FR 2 mv s.ms, Hp.map Tryd.prog 92 tripL vI lb s.lt, Hp.map Tryd.prog 93 pairL vI gb s.gv, Hp.own FZ 1 (.slice sa15 sn16 sc17) (codesM c (ms0 c.n) cs), Hp.rec_ b1 [.slice none 0 0, .slice none 0 0, .slice none 0 0, .slice none 0 0]]) rfl) ?_
      rintro _ _ rfl
      refine Gx.done ?_
      refine Gx.blkN ?_
      refine Gx.thenN ?_
      refine Gx.region ?_
      refine Gx.val rfl rfl rfl (val_add rfl rfl rfl (r := ((j + 1 : Nat) : Int)) (w64 (by omega) (by omega))) ?_
      refine Gx.val rfl rfl rfl (val_move rfl rfl) ?_
      refine Gx.done ?_
      refine Gx.thenN ?_
      refine Gx.norm (l' := [Hp.own FB 1 v23 ((List.range (j + 1)).map (certM c s)), Hp.rec_ b8 [.slice sa15 sn16 sc17, .slice none 0 0, v23, .slice none 0 0], Hp.rec_ S [.int .i64 ((c.n : Nat) : Int), .int .i64 ((c.need : Nat) : Int), .int .u32 ((c.L : Nat) : Int), .slice sa18 sn19 sc20, vv, mv, .map (some lb), .map (some gb)], Hp.own FK 2 (.slice sa18 sn19 sc20) s.bl, Hp.own FV 1 vv s.vt, Hp.own FR 2 mv s.ms, Hp.map Tryd.prog 92 tripL vI lb s.lt, Hp.map Tryd.prog 93 pairL vI gb s.gv, Hp.own FZ 1 (.slice sa15 sn16 sc17) (codesM c (ms0 c.n) cs), Hp.rec_ b1 [.slice none 0 0, .slice none 0 0, .slice none 0 0, .slice none 0 0]]) (by rw [List.range_succ, List.map_append] <;> rfl) ?_
      exact Gx.round (j + 1, v23) ⟨by first | omega | (dsimp only; omega), hiv23⟩ (by first | omega | (dsimp only; omega)) ((.cons rfl (.cons rfl (.cons rfl (.cons rfl (.cons rfl .nil)))))) rfl
    · refine Gx.exit ?_
      refine Gx.thenE ?_
      refine Gx.thenE ?_
      refine Gx.blkE ?_
      refine Gx.thenN ?_
      refine Gx.seq ?_
      obtain rfl : j = s.bl.length := by omega
      refine Gx.norm (l' := [Hp.own FB 1 wv (certL c s), Hp.rec_ b8 [.slice sa15 sn16 sc17, .slice none 0 0, wv, .slice none 0 0], Hp.rec_ S [.int .i64 ((c.n : Nat) : Int), .int .i64 ((c.need : Nat) : Int), .int .u32 ((c.L : Nat) : Int), .slice sa18 sn19 sc20, vv, mv, .map (some lb), .map (some gb)], Hp.own FK 2 (.slice sa18 sn19 sc20) s.bl, Hp.own FV 1 vv s.vt, Hp.own FR 2 mv s.ms, Hp.map Tryd.prog 92 tripL vI lb s.lt, Hp.map Tryd.prog 93 pairL vI gb s.gv, Hp.own FZ 1 (.slice sa15 sn16 sc17) (codesM c (ms0 c.n) cs), Hp.rec_ b1 [.slice none 0 0, .slice none 0 0, .slice none 0 0, .slice none 0 0]]) rfl ?_
      obtain ⟨sa24, sn25, sc26, rfl⟩ := hiw
      refine Gx.region ?_
      refine Gx.val rfl rfl rfl (val_move rfl rfl) ?_
      refine Gx.val rfl rfl rfl (val_nilCheck rfl rfl) ?_
      refine Gx.val rfl rfl rfl (Val.cast (val_fieldAddr rfl Tryd.underlying53 rfl Tryd.ty27 rfl rfl) (v' := ptr S 3) rfl) ?_
      refine Gx.val rfl rfl rfl (val_load rfl Tryd.ty27 rfl rfl (cell_rec (k := 2) rfl rfl)) ?_
      refine Gx.val rfl rfl rfl (Val.cast (val_fieldAddr rfl Tryd.underlying30 rfl Tryd.ty27 rfl rfl) (v' := ptr b8 1) rfl) ?_
      refine Gx.eff0 rfl rfl (eff_store rfl Tryd.ty27 rfl rfl (us := [.slice sa18 sn19 sc20]) rfl rfl rfl (k := 1) rfl (rfl) (vs' := [.slice sa15 sn16 sc17, .slice sa18 sn19 sc20, .slice sa24 sn25 sc26, .slice none 0 0]) (rfl) (l' := [Hp.own FB 1 (.slice sa24 sn25 sc26) (certL c s), Hp.rec_ b8 [.slice sa15 sn16 sc17, .slice sa18 sn19 sc20, .slice sa24 sn25 sc26, .slice none 0 0], Hp.rec_ S [.int .i64 ((c.n : Nat) : Int), .int .i64 ((c.need : Nat) : Int), .int .u32 ((c.L : Nat) : Int), .slice sa18 sn19 sc20, vv, mv, .map (some lb), .map (some gb)], Hp.own FK 2 (.slice sa18 sn19 sc20) s.bl, Hp.own FV 1 vv s.vt, Hp.own FR 2 mv s.ms, Hp.map Tryd.prog 92 tripL vI lb s.lt, Hp.map Tryd.prog 93 pairL vI gb s.gv, Hp.own FZ 1 (.slice sa15 sn16 sc17) (codesM c (ms0 c.n) cs), Hp.rec_ b1 [.slice none 0 0, .slice none 0 0, .slice none 0 0, .slice none 0 0]]) rfl) ?_
      rintro _ _ rfl
      refine Gx.done ?_
      refine Gx.thenN ?_
      refine Gx.seq ?_
      have hcl9 : (certL c s).length = s.bl.length := by unfold certL; rw [List.length_map, List.length_range]
      -- region 20, in whatever order
      refine Gx.ones 5 (Gx.norm (l' := [Hp.own FB 1 (.slice sa24 sn25 sc26) (certL c s), Hp.rec_ b8 [.slice sa15 sn16 sc17, .slice sa18 sn19 sc20, .slice sa24 sn25 sc26, .slice none 0 0], Hp.rec_ S [.int .i64 ((c.n : Nat) : Int), .int .i64 ((c.need : Nat) : Int), .int .u32 ((c.L : Nat) : Int), .slice sa18 sn19 sc20, vv, mv, .map (some lb), .map (some gb)], Hp.own FK 2 (.slice sa18 sn19 sc20) s.bl, Hp.own FV 1 vv s.vt, Hp.own FR 2 mv s.ms, Hp.map Tryd.prog 92 tripL vI lb s.lt, Hp.map Tryd.prog 93 pairL vI gb s.gv, Hp.own FZ 1 (.slice sa15 sn16 sc17) (codesM c (ms0 c.n) cs), Hp.rec_ b1 [.slice none 0 0, .slice none 0 0, .slice none 0 0, .slice none 0 0], 1, 1, 1, 1, 1]) rfl ?_)
      obtain ⟨pp27x1, pp27x1e⟩ : ∃ p : Done → Hp, p = fun d => cond (dn d 11) (Hp.rec_ b8 [.slice sa15 sn16 sc17, .slice sa18 sn19 sc20, .slice sa24 sn25 sc26, .slice (tQ (dv d 6)).1 (tQ (dv d 6)).2.1 (tQ (dv d 6)).2.2]) (Hp.rec_ b8 [.slice sa15 sn16 sc17, .slice sa18 sn19 sc20, .slice sa24 sn25 sc26, .slice none 0 0]) := ⟨_, rfl⟩
      obtain ⟨pp27x10, pp27x10e⟩ : ∃ p : Done → Hp, p = fun d => cond (dn d 6) (decH s.bl (certL c s) (.slice (tQ (dv d 6)).1 (tQ (dv d 6)).2.1 (tQ (dv d 6)).2.2)) (1) := ⟨_, rfl⟩
      obtain ⟨pp27x11, pp27x11e⟩ : ∃ p : Done → Hp, p = fun d => cond (dn d 6) (Hp.pure (dv d 6 = .tuple #[.slice (tQ (dv d 6)).1 (tQ (dv d 6)).2.1 (tQ (dv d 6)).2.2, .int .i64 0])) 1 := ⟨_, rfl⟩
      obtain ⟨pp27x12, pp27x12e⟩ : ∃ p : Done → Hp, p = fun d => cond (dn d 7) (Hp.pure (dv d 7 = .tuple #[.slice (tQ (dv d 6)).1 (tQ (dv d 6)).2.1 (tQ (dv d 6)).2.2, .int .i64 0])) 1 := ⟨_, rfl⟩
      obtain ⟨pp27x13, pp27x13e⟩ : ∃ p : Done → Hp, p = fun d => cond (dn d 8) (Hp.pure (dv d 8 = .slice (tQ (dv d 6)).1 (tQ (dv d 6)).2.1 (tQ (dv d 6)).2.2)) 1 := ⟨_, rfl⟩
      obtain ⟨pp27x14, pp27x14e⟩ : ∃ p : Done → Hp, p = fun d => cond (dn d 9) (Hp.pure (dv d 9 = .int .i64 0)) 1 := ⟨_, rfl⟩
      refine Gx.regionF [6, 7, 8, 9, 11] [0, 1, 2, 3, 4, 5, 10] (fun ιi => cond (Nat.beq ιi 5) [Hp.rec_ b8 [.slice sa15 sn16 sc17, .slice sa18 sn19 sc20, .slice sa24 sn25 sc26, .slice none 0 0]] (cond (Nat.beq ιi 3) [Hp.rec_ S [.int .i64 ((c.n : Nat) : Int), .int .i64 ((c.need : Nat) : Int), .int .u32 ((c.L : Nat) : Int), .slice sa18 sn19 sc20, vv, mv, .map (some lb), .map (some gb)]] ([]))) (fun d => [Hp.own FB 1 (.slice sa24 sn25 sc26) (certL c s), pp27x1 d, Hp.rec_ S [.int .i64 ((c.n : Nat) : Int), .int .i64 ((c.need : Nat) : Int), .int .u32 ((c.L : Nat) : Int), .slice sa18 sn19 sc20, vv, mv, .map (some lb), .map (some gb)], Hp.own FK 2 (.slice sa18 sn19 sc20) s.bl, Hp.own FV 1 vv s.vt, Hp.own FR 2 mv s.ms, Hp.map Tryd.prog 92 tripL vI lb s.lt, Hp.map Tryd.prog 93 pairL vI gb s.gv, Hp.own FZ 1 (.slice sa15 sn16 sc17) (codesM c (ms0 c.n) cs), Hp.rec_ b1 [.slice none 0 0, .slice none 0 0, .slice none 0 0, .slice none 0 0], pp27x10 d, pp27x11 d, pp27x12 d, pp27x13 d, pp27x14 d]) Tryd.mixed (by kernel_rfl) (by kernel_rfl) (by rw [pp27x1e]; rw [pp27x10e]; rw [pp27x11e]; rw [pp27x12e]; rw [pp27x13e]; rw [pp27x14e]; rfl) ?_ ?_
      · intro ιi d w hc hs H
        by_cases hn3 : ιi = 3
        · subst hn3
          exact H.only (k := 2) rfl rfl
        · by_cases hn5 : ιi = 5
          · subst hn5
            have q6 : dn d 6 = false := hs 6 rfl (by kernel_rfl)
            have q11 : dn d 11 = false := hs 11 rfl (by kernel_rfl)
            have q7 : dn d 7 = false := hc.not 7 6 rfl (by kernel_rfl) q6
            have q8 : dn d 8 = false := hc.not 8 7 rfl (by kernel_rfl) q7
            have q9 : dn d 9 = false := hc.not 9 7 rfl (by kernel_rfl) q7
            exact H.only (k := 1) rfl (by rw [pp27x1e]; simp only [q11, cond_false])
          · refine Sat.listed (l := []) H.noneL ?_
            simp only [beq_no hn3, beq_no hn5, cond_false]
      refine Gp.val rfl rfl rfl rfl (val_move rfl rfl) ?_
      refine Gp.val rfl rfl rfl rfl (val_nilCheck rfl rfl) ?_
      refine Gp.val rfl rfl rfl rfl (Val.cast (val_fieldAddr rfl Tryd.underlying53 rfl Tryd.ty27 rfl rfl) (v' := ptr S 3) rfl) ?_
      refine Gp.val rfl rfl rfl rfl (val_load rfl Tryd.ty27 rfl rfl (cell_rec (k := 0) rfl rfl)) ?_
      refine Gp.val rfl rfl rfl rfl (Val.cast (val_fieldAddr rfl Tryd.underlying30 rfl Tryd.ty28 rfl rfl) (v' := ptr b8 2) rfl) ?_
      refine Gp.val rfl rfl rfl rfl (val_load rfl Tryd.ty28 rfl rfl (cell_rec (k := 0) rfl rfl)) ?_
      refine Gp.val rfl rfl rfl rfl (Val.cast (val_fieldAddr rfl Tryd.underlying30 rfl Tryd.ty28 rfl rfl) (v' := ptr b8 3) rfl) ?_
      refine Gp.done (uniq_of (by kernel_rfl)) (by rfl) (by kernel_rfl) ⟨⟨_, rfl, ?_⟩, ⟨_, rfl, ?_⟩, ⟨_, rfl, ?_⟩, ⟨_, rfl, ?_⟩, ⟨_, rfl, ?_⟩, trivial⟩ ?_
      · intro d hc hdi hpre a w hf H
        change Sat _ _ (sep [Hp.own FB 1 (.slice sa24 sn25 sc26) (certL c s), pp27x1 d, Hp.rec_ S [.int .i64 ((c.n : Nat) : Int), .int .i64 ((c.need : Nat) : Int), .int .u32 ((c.L : Nat) : Int), .slice sa18 sn19 sc20, vv, mv, .map (some lb), .map (some gb)], Hp.own FK 2 (.slice sa18 sn19 sc20) s.bl, Hp.own FV 1 vv s.vt, Hp.own FR 2 mv s.ms, Hp.map Tryd.prog 92 tripL vI lb s.lt, Hp.map Tryd.prog 93 pairL vI gb s.gv, Hp.own FZ 1 (.slice sa15 sn16 sc17) (codesM c (ms0 c.n) cs), Hp.rec_ b1 [.slice none 0 0, .slice none 0 0, .slice none 0 0, .slice none 0 0], pp27x10 d, pp27x11 d, pp27x12 d, pp27x13 d, pp27x14 d]) at H
        have q6 := hdi
        have q7 : dn d 7 = false := hc.not 7 6 rfl (by kernel_rfl) q6
        have q11 : dn d 11 = false := hc.not 11 6 rfl (by kernel_rfl) q6
        have q8 : dn d 8 = false := hc.not 8 7 rfl (by kernel_rfl) q7
        have q9 : dn d 9 = false := hc.not 9 7 rfl (by kernel_rfl) q7
        have n1 : pp27x1 d = Hp.rec_ b8 [.slice sa15 sn16 sc17, .slice sa18 sn19 sc20, .slice sa24 sn25 sc26, .slice none 0 0] := by rw [pp27x1e]; simp only [q11, cond_true, cond_false]
        have n10 : pp27x10 d = 1 := by rw [pp27x10e]; simp only [q6, cond_true, cond_false]
        have n11 : pp27x11 d = 1 := by rw [pp27x11e]; simp only [q6, cond_true, cond_false]
        have n12 : pp27x12 d = 1 := by rw [pp27x12e]; simp only [q7, cond_true, cond_false]
        have n13 : pp27x13 d = 1 := by rw [pp27x13e]; simp only [q8, cond_true, cond_false]
        have n14 : pp27x14 d = 1 := by rw [pp27x14e]; simp only [q9, cond_true, cond_false]
        rw [n1, n10, n11, n12, n13, n14] at H
        refine EffAt.mono (Eff.at_ hf.slots H (eff_callQ (F' := fun q => .tuple #[.slice q.1 q.2.1 q.2.2, .int .i64 0]) (p := fun q => decH s.bl (certL c s) (.slice q.1 q.2.1 q.2.2)) (vs := [.slice sa18 sn19 sc20, .slice sa24 sn25 sc26]) rfl Tryd.fn10 rfl (fun w H => dec_yes bd.okc hcl9 ((H.at_ (k := 3) rfl).sls (by omega)) ((H.at_ (k := 0) rfl).sls (by omega)) bd.wfp))) ?_
        rintro _ w2 ⟨_, ⟨q, rfl, rfl⟩, H2⟩
        have H2 := Sat.fillAt H2 (k := 10) rfl
        have H2 := (Sat.pureI (p := (.tuple #[.slice q.1 q.2.1 q.2.2, .int .i64 0] : Value) = .tuple #[.slice q.1 q.2.1 q.2.2, .int .i64 0]) rfl H2).fillAt (k := 11) rfl
        obtain ⟨d2, hd2⟩ : ∃ d2, d2 = upd d 6 (.tuple #[.slice q.1 q.2.1 q.2.2, .int .i64 0]) := ⟨_, rfl⟩
        have m6 : dn d2 6 = true := by rw [hd2]; rfl
        have m7 : dn d2 7 = false := by rw [hd2]; exact q7
        have m11 : dn d2 11 = false := by rw [hd2]; exact q11
        have m8 : dn d2 8 = false := by rw [hd2]; exact q8
        have m9 : dn d2 9 = false := by rw [hd2]; exact q9
        rw [← hd2]
        change Sat _ _ (sep [Hp.own FB 1 (.slice sa24 sn25 sc26) (certL c s), pp27x1 d2, Hp.rec_ S [.int .i64 ((c.n : Nat) : Int), .int .i64 ((c.need : Nat) : Int), .int .u32 ((c.L : Nat) : Int), .slice sa18 sn19 sc20, vv, mv, .map (some lb), .map (some gb)], Hp.own FK 2 (.slice sa18 sn19 sc20) s.bl, Hp.own FV 1 vv s.vt, Hp.own FR 2 mv s.ms, Hp.map Tryd.prog 92 tripL vI lb s.lt, Hp.map Tryd.prog 93 pairL vI gb s.gv, Hp.own FZ 1 (.slice sa15 sn16 sc17) (codesM c (ms0 c.n) cs), Hp.rec_ b1 [.slice none 0 0, .slice none 0 0, .slice none 0 0, .slice none 0 0], pp27x10 d2, pp27x11 d2, pp27x12 d2, pp27x13 d2, pp27x14 d2])
        have u1 := congrFun pp27x1e d2
        simp only [m11, cond_true, cond_false] at u1
        have u10 := congrFun pp27x10e d2
        simp only [m6, cond_true, cond_false] at u10
        have u11 := congrFun pp27x11e d2
        simp only [m6, cond_true, cond_false] at u11
        have u12 := congrFun pp27x12e d2
        simp only [m7, cond_true, cond_false] at u12
        have u13 := congrFun pp27x13e d2
        simp only [m8, cond_true, cond_false] at u13
        have u14 := congrFun pp27x14e d2
        simp only [m9, cond_true, cond_false] at u14
        rw [u1, u10, u11, u12, u13, u14]
        subst hd2
        exact H2
      · intro d hc hdi hpre a w hf H
        change Sat _ _ (sep [Hp.own FB 1 (.slice sa24 sn25 sc26) (certL c s), pp27x1 d, Hp.rec_ S [.int .i64 ((c.n : Nat) : Int), .int .i64 ((c.need : Nat) : Int), .int .u32 ((c.L : Nat) : Int), .slice sa18 sn19 sc20, vv, mv, .map (some lb), .map (some gb)], Hp.own FK 2 (.slice sa18 sn19 sc20) s.bl, Hp.own FV 1 vv s.vt, Hp.own FR 2 mv s.ms, Hp.map Tryd.prog 92 tripL vI lb s.lt, Hp.map Tryd.prog 93 pairL vI gb s.gv, Hp.own FZ 1 (.slice sa15 sn16 sc17) (codesM c (ms0 c.n) cs), Hp.rec_ b1 [.slice none 0 0, .slice none 0 0, .slice none 0 0, .slice none 0 0], pp27x10 d, pp27x11 d, pp27x12 d, pp27x13 d, pp27x14 d]) at H
        have q6 : dn d 6 = true := hpre 6 (by kernel_rfl)
        have q7 := hdi
        have q8 : dn d 8 = false := hc.not 8 7 rfl (by kernel_rfl) q7
        have q9 : dn d 9 = false := hc.not 9 7 rfl (by kernel_rfl) q7
        have q11 : dn d 11 = false := hc.not 11 7 rfl (by kernel_rfl) q7
        have e6 : dv d 6 = .tuple #[.slice (tQ (dv d 6)).1 (tQ (dv d 6)).2.1 (tQ (dv d 6)).2.2, .int .i64 0] := H.factAt (k := 11) rfl (by rw [pp27x11e]; simp only [q6, cond_true])
        have n1 : pp27x1 d = Hp.rec_ b8 [.slice sa15 sn16 sc17, .slice sa18 sn19 sc20, .slice sa24 sn25 sc26, .slice none 0 0] := by rw [pp27x1e]; simp only [q11, cond_true, cond_false]
        have n10 : pp27x10 d = decH s.bl (certL c s) (.slice (tQ (dv d 6)).1 (tQ (dv d 6)).2.1 (tQ (dv d 6)).2.2) := by rw [pp27x10e]; simp only [q6, cond_true, cond_false]
        have n12 : pp27x12 d = 1 := by rw [pp27x12e]; simp only [q7, cond_true, cond_false]
        have n13 : pp27x13 d = 1 := by rw [pp27x13e]; simp only [q8, cond_true, cond_false]
        have n14 : pp27x14 d = 1 := by rw [pp27x14e]; simp only [q9, cond_true, cond_false]
        rw [n1, n10, n12, n13, n14] at H
        have s6 := hf.add hf.slots 6 rfl (by kernel_rfl) rfl q6 (v := .tuple #[.slice (tQ (dv d 6)).1 (tQ (dv d 6)).2.1 (tQ (dv d 6)).2.2, .int .i64 0]) e6
        refine EffAt.mono (Val.eff (v := .tuple #[.slice (tQ (dv d 6)).1 (tQ (dv d 6)).2.1 (tQ (dv d 6)).2.2, .int .i64 0]) (val_move rfl rfl) s6 H) ?_
        rintro _ w2 ⟨rfl, H2⟩
        have H2 := (Sat.pureI (p := (.tuple #[.slice (tQ (dv d 6)).1 (tQ (dv d 6)).2.1 (tQ (dv d 6)).2.2, .int .i64 0] : Value) = .tuple #[.slice (tQ (dv d 6)).1 (tQ (dv d 6)).2.1 (tQ (dv d 6)).2.2, .int .i64 0]) rfl H2).fillAt (k := 12) rfl
        obtain ⟨d2, hd2⟩ : ∃ d2, d2 = upd d 7 (.tuple #[.slice (tQ (dv d 6)).1 (tQ (dv d 6)).2.1 (tQ (dv d 6)).2.2, .int .i64 0]) := ⟨_, rfl⟩
        have m7 : dn d2 7 = true := by rw [hd2]; rfl
        have m6 : dn d2 6 = true := by rw [hd2]; exact q6
        have m8 : dn d2 8 = false := by rw [hd2]; exact q8
        have m9 : dn d2 9 = false := by rw [hd2]; exact q9
        have m11 : dn d2 11 = false := by rw [hd2]; exact q11
        rw [← hd2]
        change Sat _ _ (sep [Hp.own FB 1 (.slice sa24 sn25 sc26) (certL c s), pp27x1 d2, Hp.rec_ S [.int .i64 ((c.n : Nat) : Int), .int .i64 ((c.need : Nat) : Int), .int .u32 ((c.L : Nat) : Int), .slice sa18 sn19 sc20, vv, mv, .map (some lb), .map (some gb)], Hp.own FK 2 (.slice sa18 sn19 sc20) s.bl, Hp.own FV 1 vv s.vt, Hp.own FR 2 mv s.ms, Hp.map Tryd.prog 92 tripL vI lb s.lt, Hp.map Tryd.prog 93 pairL vI gb s.gv, Hp.own FZ 1 (.slice sa15 sn16 sc17) (codesM c (ms0 c.n) cs), Hp.rec_ b1 [.slice none 0 0, .slice none 0 0, .slice none 0 0, .slice none 0 0], pp27x10 d2, pp27x11 d2, pp27x12 d2, pp27x13 d2, pp27x14 d2])
        have u1 := congrFun pp27x1e d2
        simp only [m11, cond_true, cond_false] at u1
        have u10 := congrFun pp27x10e d2
        simp only [m6, cond_true, cond_false] at u10
        have u11 : pp27x11 d2 = pp27x11 d := by rw [hd2, pp27x11e]; rfl
        have u12 := congrFun pp27x12e d2
        simp only [m7, cond_true, cond_false] at u12
        have u13 := congrFun pp27x13e d2
        simp only [m8, cond_true, cond_false] at u13
        have u14 := congrFun pp27x14e d2
        simp only [m9, cond_true, cond_false] at u14
        rw [u1, u10, u11, u12, u13, u14]
        subst hd2
        exact H2
      · intro d hc hdi hpre a w hf H
        change Sat _ _ (sep [Hp.own FB 1 (.slice sa24 sn25 sc26) (certL c s), pp27x1 d, Hp.rec_ S [.int .i64 ((c.n : Nat) : Int), .int .i64 ((c.need : Nat) : Int), .int .u32 ((c.L : Nat) : Int), .slice sa18 sn19 sc20, vv, mv, .map (some lb), .map (some gb)], Hp.own FK 2 (.slice sa18 sn19 sc20) s.bl, Hp.own FV 1 vv s.vt, Hp.own FR 2 mv s.ms, Hp.map Tryd.prog 92 tripL vI lb s.lt, Hp.map Tryd.prog 93 pairL vI gb s.gv, Hp.own FZ 1 (.slice sa15 sn16 sc17) (codesM c (ms0 c.n) cs), Hp.rec_ b1 [.slice none 0 0, .slice none 0 0, .slice none 0 0, .slice none 0 0], pp27x10 d, pp27x11 d, pp27x12 d, pp27x13 d, pp27x14 d]) at H
        have q7 : dn d 7 = true := hpre 7 (by kernel_rfl)
        have q6 : dn d 6 = true := hc.pre 7 6 rfl (by kernel_rfl) q7
        have q8 := hdi
        have q11 : dn d 11 = false := hc.not 11 8 rfl (by kernel_rfl) q8
        have e7 : dv d 7 = .tuple #[.slice (tQ (dv d 6)).1 (tQ (dv d 6)).2.1 (tQ (dv d 6)).2.2, .int .i64 0] := H.factAt (k := 12) rfl (by rw [pp27x12e]; simp only [q7, cond_true])
        have e6 : dv d 6 = .tuple #[.slice (tQ (dv d 6)).1 (tQ (dv d 6)).2.1 (tQ (dv d 6)).2.2, .int .i64 0] := H.factAt (k := 11) rfl (by rw [pp27x11e]; simp only [q6, cond_true])
        have n1 : pp27x1 d = Hp.rec_ b8 [.slice sa15 sn16 sc17, .slice sa18 sn19 sc20, .slice sa24 sn25 sc26, .slice none 0 0] := by rw [pp27x1e]; simp only [q11, cond_true, cond_false]
        have n10 : pp27x10 d = decH s.bl (certL c s) (.slice (tQ (dv d 6)).1 (tQ (dv d 6)).2.1 (tQ (dv d 6)).2.2) := by rw [pp27x10e]; simp only [q6, cond_true, cond_false]
        have n13 : pp27x13 d = 1 := by rw [pp27x13e]; simp only [q8, cond_true, cond_false]
        rw [n1, n10, n13] at H
        have s7 := hf.add hf.slots 7 rfl (by kernel_rfl) rfl q7 (v := .tuple #[.slice (tQ (dv d 6)).1 (tQ (dv d 6)).2.1 (tQ (dv d 6)).2.2, .int .i64 0]) e7
        refine EffAt.mono (Val.eff (v := .slice (tQ (dv d 6)).1 (tQ (dv d 6)).2.1 (tQ (dv d 6)).2.2) (val_extract rfl rfl rfl) s7 H) ?_
        rintro _ w2 ⟨rfl, H2⟩
        have H2 := (Sat.pureI (p := (.slice (tQ (dv d 6)).1 (tQ (dv d 6)).2.1 (tQ (dv d 6)).2.2 : Value) = .slice (tQ (dv d 6)).1 (tQ (dv d 6)).2.1 (tQ (dv d 6)).2.2) rfl H2).fillAt (k := 13) rfl
        obtain ⟨d2, hd2⟩ : ∃ d2, d2 = upd d 8 (.slice (tQ (dv d 6)).1 (tQ (dv d 6)).2.1 (tQ (dv d 6)).2.2) := ⟨_, rfl⟩
        have m8 : dn d2 8 = true := by rw [hd2]; rfl
        have m7 : dn d2 7 = true := by rw [hd2]; exact q7
        have m6 : dn d2 6 = true := by rw [hd2]; exact q6
        have m11 : dn d2 11 = false := by rw [hd2]; exact q11
        rw [← hd2]
        change Sat _ _ (sep [Hp.own FB 1 (.slice sa24 sn25 sc26) (certL c s), pp27x1 d2, Hp.rec_ S [.int .i64 ((c.n : Nat) : Int), .int .i64 ((c.need : Nat) : Int), .int .u32 ((c.L : Nat) : Int), .slice sa18 sn19 sc20, vv, mv, .map (some lb), .map (some gb)], Hp.own FK 2 (.slice sa18 sn19 sc20) s.bl, Hp.own FV 1 vv s.vt, Hp.own FR 2 mv s.ms, Hp.map Tryd.prog 92 tripL vI lb s.lt, Hp.map Tryd.prog 93 pairL vI gb s.gv, Hp.own FZ 1 (.slice sa15 sn16 sc17) (codesM c (ms0 c.n) cs), Hp.rec_ b1 [.slice none 0 0, .slice none 0 0, .slice none 0 0, .slice none 0 0], pp27x10 d2, pp27x11 d2, pp27x12 d2, pp27x13 d2, pp27x14 d2])
        have u1 := congrFun pp27x1e d2
        simp only [m11, cond_true, cond_false] at u1
        have u10 := congrFun pp27x10e d2
        simp only [m6, cond_true, cond_false] at u10
        have u11 : pp27x11 d2 = pp27x11 d := by rw [hd2, pp27x11e]; rfl
        have u12 : pp27x12 d2 = pp27x12 d := by rw [hd2, pp27x12e]; rfl
        have u13 := congrFun pp27x13e d2
        simp only [m8, cond_true, cond_false] at u13
        have u14 : pp27x14 d2 = pp27x14 d := by rw [hd2, pp27x14e]; rfl
        rw [u1, u10, u11, u12, u13, u14]
        subst hd2
        exact H2
      · intro d hc hdi hpre a w hf H
        change Sat _ _ (sep [Hp.own FB 1 (.slice sa24 sn25 sc26) (certL c s), pp27x1 d, Hp.rec_ S [.int .i64 ((c.n : Nat) : Int), .int .i64 ((c.need : Nat) : Int), .int .u32 ((c.L : Nat) : Int), .slice sa18 sn19 sc20, vv, mv, .map (some lb), .map (some gb)], Hp.own FK 2 (.slice sa18 sn19 sc20) s.bl, Hp.own FV 1 vv s.vt, Hp.own FR 2 mv s.ms, Hp.map Tryd.prog 92 tripL vI lb s.lt, Hp.map Tryd.prog 93 pairL vI gb s.gv, Hp.own FZ 1 (.slice sa15 sn16 sc17) (codesM c (ms0 c.n) cs), Hp.rec_ b1 [.slice none 0 0, .slice none 0 0, .slice none 0 0, .slice none 0 0], pp27x10 d, pp27x11 d, pp27x12 d, pp27x13 d, pp27x14 d]) at H
        have q7 : dn d 7 = true := hpre 7 (by kernel_rfl)
        have q6 : dn d 6 = true := hc.pre 7 6 rfl (by kernel_rfl) q7
        have q9 := hdi
        have e7 : dv d 7 = .tuple #[.slice (tQ (dv d 6)).1 (tQ (dv d 6)).2.1 (tQ (dv d 6)).2.2, .int .i64 0] := H.factAt (k := 12) rfl (by rw [pp27x12e]; simp only [q7, cond_true])
        have e6 : dv d 6 = .tuple #[.slice (tQ (dv d 6)).1 (tQ (dv d 6)).2.1 (tQ (dv d 6)).2.2, .int .i64 0] := H.factAt (k := 11) rfl (by rw [pp27x11e]; simp only [q6, cond_true])
        have n10 : pp27x10 d = decH s.bl (certL c s) (.slice (tQ (dv d 6)).1 (tQ (dv d 6)).2.1 (tQ (dv d 6)).2.2) := by rw [pp27x10e]; simp only [q6, cond_true, cond_false]
        have n14 : pp27x14 d = 1 := by rw [pp27x14e]; simp only [q9, cond_true, cond_false]
        rw [n10, n14] at H
        have s7 := hf.add hf.slots 7 rfl (by kernel_rfl) rfl q7 (v := .tuple #[.slice (tQ (dv d 6)).1 (tQ (dv d 6)).2.1 (tQ (dv d 6)).2.2, .int .i64 0]) e7
        refine EffAt.mono (Val.eff (v := .int .i64 0) (val_extract rfl rfl rfl) s7 H) ?_
        rintro _ w2 ⟨rfl, H2⟩
        have H2 := (Sat.pureI (p := (.int .i64 0 : Value) = .int .i64 0) rfl H2).fillAt (k := 14) rfl
        obtain ⟨d2, hd2⟩ : ∃ d2, d2 = upd d 9 (.int .i64 0) := ⟨_, rfl⟩
        have m9 : dn d2 9 = true := by rw [hd2]; rfl
        have m7 : dn d2 7 = true := by rw [hd2]; exact q7
        have m6 : dn d2 6 = true := by rw [hd2]; exact q6
        rw [← hd2]
        change Sat _ _ (sep [Hp.own FB 1 (.slice sa24 sn25 sc26) (certL c s), pp27x1 d2, Hp.rec_ S [.int .i64 ((c.n : Nat) : Int), .int .i64 ((c.need : Nat) : Int), .int .u32 ((c.L : Nat) : Int), .slice sa18 sn19 sc20, vv, mv, .map (some lb), .map (some gb)], Hp.own FK 2 (.slice sa18 sn19 sc20) s.bl, Hp.own FV 1 vv s.vt, Hp.own FR 2 mv s.ms, Hp.map Tryd.prog 92 tripL vI lb s.lt, Hp.map Tryd.prog 93 pairL vI gb s.gv, Hp.own FZ 1 (.slice sa15 sn16 sc17) (codesM c (ms0 c.n) cs), Hp.rec_ b1 [.slice none 0 0, .slice none 0 0, .slice none 0 0, .slice none 0 0], pp27x10 d2, pp27x11 d2, pp27x12 d2, pp27x13 d2, pp27x14 d2])
        have u1 : pp27x1 d2 = pp27x1 d := by rw [hd2, pp27x1e]; rfl
        have u10 := congrFun pp27x10e d2
        simp only [m6, cond_true, cond_false] at u10
        have u11 : pp27x11 d2 = pp27x11 d := by rw [hd2, pp27x11e]; rfl
        have u12 : pp27x12 d2 = pp27x12 d := by rw [hd2, pp27x12e]; rfl
        have u13 : pp27x13 d2 = pp27x13 d := by rw [hd2, pp27x13e]; rfl
        have u14 := congrFun pp27x14e d2
        simp only [m9, cond_true, cond_false] at u14
        rw [u1, u10, u11, u12, u13, u14]
        subst hd2
        exact H2
      · intro d hc hdi hpre a w hf H
        change Sat _ _ (sep [Hp.own FB 1 (.slice sa24 sn25 sc26) (certL c s), pp27x1 d, Hp.rec_ S [.int .i64 ((c.n : Nat) : Int), .int .i64 ((c.need : Nat) : Int), .int .u32 ((c.L : Nat) : Int), .slice sa18 sn19 sc20, vv, mv, .map (some lb), .map (some gb)], Hp.own FK 2 (.slice sa18 sn19 sc20) s.bl, Hp.own FV 1 vv s.vt, Hp.own FR 2 mv s.ms, Hp.map Tryd.prog 92 tripL vI lb s.lt, Hp.map Tryd.prog 93 pairL vI gb s.gv, Hp.own FZ 1 (.slice sa15 sn16 sc17) (codesM c (ms0 c.n) cs), Hp.rec_ b1 [.slice none 0 0, .slice none 0 0, .slice none 0 0, .slice none 0 0], pp27x10 d, pp27x11 d, pp27x12 d, pp27x13 d, pp27x14 d]) at H
        have q8 : dn d 8 = true := hpre 8 (by kernel_rfl)
        have q6 : dn d 6 = true := hpre 6 (by kernel_rfl)
        have q6 : dn d 6 = true := hpre 6 (by kernel_rfl)
        have q7 : dn d 7 = true := hpre 7 (by kernel_rfl)
        have q8 : dn d 8 = true := hpre 8 (by kernel_rfl)
        have q11 := hdi
        have e8 : dv d 8 = .slice (tQ (dv d 6)).1 (tQ (dv d 6)).2.1 (tQ (dv d 6)).2.2 := H.factAt (k := 13) rfl (by rw [pp27x13e]; simp only [q8, cond_true])
        have e6 : dv d 6 = .tuple #[.slice (tQ (dv d 6)).1 (tQ (dv d 6)).2.1 (tQ (dv d 6)).2.2, .int .i64 0] := H.factAt (k := 11) rfl (by rw [pp27x11e]; simp only [q6, cond_true])
        have e7 : dv d 7 = .tuple #[.slice (tQ (dv d 6)).1 (tQ (dv d 6)).2.1 (tQ (dv d 6)).2.2, .int .i64 0] := H.factAt (k := 12) rfl (by rw [pp27x12e]; simp only [q7, cond_true])
        have n1 : pp27x1 d = Hp.rec_ b8 [.slice sa15 sn16 sc17, .slice sa18 sn19 sc20, .slice sa24 sn25 sc26, .slice none 0 0] := by rw [pp27x1e]; simp only [q11, cond_true, cond_false]
        have n10 : pp27x10 d = decH s.bl (certL c s) (.slice (tQ (dv d 6)).1 (tQ (dv d 6)).2.1 (tQ (dv d 6)).2.2) := by rw [pp27x10e]; simp only [q6, cond_true, cond_false]
        rw [n1, n10] at H
        have s8 := hf.add hf.slots 8 rfl (by kernel_rfl) rfl q8 (v := .slice (tQ (dv d 6)).1 (tQ (dv d 6)).2.1 (tQ (dv d 6)).2.2) e8
        refine EffAt.mono (Eff.at_ s8 H (eff_store rfl Tryd.ty28 rfl rfl (us := [.slice (tQ (dv d 6)).1 (tQ (dv d 6)).2.1 (tQ (dv d 6)).2.2]) rfl rfl rfl (k := 1) rfl (rfl) (vs' := [.slice sa15 sn16 sc17, .slice sa18 sn19 sc20, .slice sa24 sn25 sc26, .slice (tQ (dv d 6)).1 (tQ (dv d 6)).2.1 (tQ (dv d 6)).2.2]) (rfl) (l' := [Hp.own FB 1 (.slice sa24 sn25 sc26) (certL c s), Hp.rec_ b8 [.slice sa15 sn16 sc17, .slice sa18 sn19 sc20, .slice sa24 sn25 sc26, .slice (tQ (dv d 6)).1 (tQ (dv d 6)).2.1 (tQ (dv d 6)).2.2], Hp.rec_ S [.int .i64 ((c.n : Nat) : Int), .int .i64 ((c.need : Nat) : Int), .int .u32 ((c.L : Nat) : Int), .slice sa18 sn19 sc20, vv, mv, .map (some lb), .map (some gb)], Hp.own FK 2 (.slice sa18 sn19 sc20) s.bl, Hp.own FV 1 vv s.vt, Hp.own FR 2 mv s.ms, Hp.map Tryd.prog 92 tripL vI lb s.lt, Hp.map Tryd.prog 93 pairL vI gb s.gv, Hp.own FZ 1 (.slice sa15 sn16 sc17) (codesM c (ms0 c.n) cs), Hp.rec_ b1 [.slice none 0 0, .slice none 0 0, .slice none 0 0, .slice none 0 0], decH s.bl (certL c s) (.slice (tQ (dv d 6)).1 (tQ (dv d 6)).2.1 (tQ (dv d 6)).2.2), pp27x11 d, pp27x12 d, pp27x13 d, pp27x14 d]) rfl)) ?_
        rintro v w2 ⟨_, rfl, H2⟩
        obtain ⟨d2, hd2⟩ : ∃ d2, d2 = upd d 11 v := ⟨_, rfl⟩
        have m11 : dn d2 11 = true := by rw [hd2]; rfl
        have m8 : dn d2 8 = true := by rw [hd2]; exact q8
        have m6 : dn d2 6 = true := by rw [hd2]; exact q6
        have m7 : dn d2 7 = true := by rw [hd2]; exact q7
        rw [← hd2]
        change Sat _ _ (sep [Hp.own FB 1 (.slice sa24 sn25 sc26) (certL c s), pp27x1 d2, Hp.rec_ S [.int .i64 ((c.n : Nat) : Int), .int .i64 ((c.need : Nat) : Int), .int .u32 ((c.L : Nat) : Int), .slice sa18 sn19 sc20, vv, mv, .map (some lb), .map (some gb)], Hp.own FK 2 (.slice sa18 sn19 sc20) s.bl, Hp.own FV 1 vv s.vt, Hp.own FR 2 mv s.ms, Hp.map Tryd.prog 92 tripL vI lb s.lt, Hp.map Tryd.prog 93 pairL vI gb s.gv, Hp.own FZ 1 (.slice sa15 sn16 sc17) (codesM c (ms0 c.n) cs), Hp.rec_ b1 [.slice none 0 0, .slice none 0 0, .slice none 0 0, .slice none 0 0], pp27x10 d2, pp27x11 d2, pp27x12 d2, pp27x13 d2, pp27x14 d2])
        have u1 := congrFun pp27x1e d2
        simp only [m11, cond_true, cond_false] at u1
        have u10 := congrFun pp27x10e d2
        simp only [m6, cond_true, cond_false] at u10
        have u11 : pp27x11 d2 = pp27x11 d := by rw [hd2, pp27x11e]; rfl
        have u12 : pp27x12 d2 = pp27x12 d := by rw [hd2, pp27x12e]; rfl
        have u13 : pp27x13 d2 = pp27x13 d := by rw [hd2, pp27x13e]; rfl
        have u14 : pp27x14 d2 = pp27x14 d := by rw [hd2, pp27x14e]; rfl
        rw [u1, u10, u11, u12, u13, u14]
        subst hd2
        exact H2
      · intro d hc hall a hf w H
        change Sat _ _ (sep [Hp.own FB 1 (.slice sa24 sn25 sc26) (certL c s), pp27x1 d, Hp.rec_ S [.int .i64 ((c.n : Nat) : Int), .int .i64 ((c.need : Nat) : Int), .int .u32 ((c.L : Nat) : Int), .slice sa18 sn19 sc20, vv, mv, .map (some lb), .map (some gb)], Hp.own FK 2 (.slice sa18 sn19 sc20) s.bl, Hp.own FV 1 vv s.vt, Hp.own FR 2 mv s.ms, Hp.map Tryd.prog 92 tripL vI lb s.lt, Hp.map Tryd.prog 93 pairL vI gb s.gv, Hp.own FZ 1 (.slice sa15 sn16 sc17) (codesM c (ms0 c.n) cs), Hp.rec_ b1 [.slice none 0 0, .slice none 0 0, .slice none 0 0, .slice none 0 0], pp27x10 d, pp27x11 d, pp27x12 d, pp27x13 d, pp27x14 d]) at H
        have q6 : dn d 6 = true := hall 6 rfl
        have q7 : dn d 7 = true := hall 7 rfl
        have q8 : dn d 8 = true := hall 8 rfl
        have q9 : dn d 9 = true := hall 9 rfl
        have q11 : dn d 11 = true := hall 11 rfl
        have e6 : dv d 6 = .tuple #[.slice (tQ (dv d 6)).1 (tQ (dv d 6)).2.1 (tQ (dv d 6)).2.2, .int .i64 0] := H.factAt (k := 11) rfl (by rw [pp27x11e]; simp only [q6, cond_true])
        have e7 : dv d 7 = .tuple #[.slice (tQ (dv d 6)).1 (tQ (dv d 6)).2.1 (tQ (dv d 6)).2.2, .int .i64 0] := H.factAt (k := 12) rfl (by rw [pp27x12e]; simp only [q7, cond_true])
        have e8 : dv d 8 = .slice (tQ (dv d 6)).1 (tQ (dv d 6)).2.1 (tQ (dv d 6)).2.2 := H.factAt (k := 13) rfl (by rw [pp27x13e]; simp only [q8, cond_true])
        have e9 : dv d 9 = .int .i64 0 := H.factAt (k := 14) rfl (by rw [pp27x14e]; simp only [q9, cond_true])
        have n1 : pp27x1 d = Hp.rec_ b8 [.slice sa15 sn16 sc17, .slice sa18 sn19 sc20, .slice sa24 sn25 sc26, .slice (tQ (dv d 6)).1 (tQ (dv d 6)).2.1 (tQ (dv d 6)).2.2] := by rw [pp27x1e]; simp only [q11, cond_true, cond_false]
        have n10 : pp27x10 d = decH s.bl (certL c s) (.slice (tQ (dv d 6)).1 (tQ (dv d 6)).2.1 (tQ (dv d 6)).2.2) := by rw [pp27x10e]; simp only [q6, cond_true, cond_false]
        have n11 : pp27x11 d = Hp.pure (dv d 6 = .tuple #[.slice (tQ (dv d 6)).1 (tQ (dv d 6)).2.1 (tQ (dv d 6)).2.2, .int .i64 0]) := by rw [pp27x11e]; simp only [q6, cond_true]
        have n12 : pp27x12 d = Hp.pure (dv d 7 = .tuple #[.slice (tQ (dv d 6)).1 (tQ (dv d 6)).2.1 (tQ (dv d 6)).2.2, .int .i64 0]) := by rw [pp27x12e]; simp only [q7, cond_true]
        have n13 : pp27x13 d = Hp.pure (dv d 8 = .slice (tQ (dv d 6)).1 (tQ (dv d 6)).2.1 (tQ (dv d 6)).2.2) := by rw [pp27x13e]; simp only [q8, cond_true]
        have n14 : pp27x14 d = Hp.pure (dv d 9 = .int .i64 0) := by rw [pp27x14e]; simp only [q9, cond_true]
        rw [n1, n10, n11, n12, n13, n14] at H
        clear n1 n10 n11 n12 n13 n14
        obtain ⟨z28, hz28⟩ : ∃ b, b = tQ (dv d 6) := ⟨_, rfl⟩
        rw [← hz28] at e6 e7 e8 H
        have s6 := hf.add hf.slots 6 rfl rfl rfl q6 (v := .tuple #[.slice z28.1 z28.2.1 z28.2.2, .int .i64 0]) e6
        have s7 := hf.add s6 7 rfl rfl rfl q7 (v := .tuple #[.slice z28.1 z28.2.1 z28.2.2, .int .i64 0]) e7
        have s8 := hf.add s7 8 rfl rfl rfl q8 (v := .slice z28.1 z28.2.1 z28.2.2) e8
        have s9 := hf.add s8 9 rfl rfl rfl q9 (v := .int .i64 0) e9
        refine Gx.use s9 H ?_
        refine Gx.drop 14 rfl ?_
        refine Gx.drop 13 rfl ?_
        refine Gx.drop 12 rfl ?_
        refine Gx.drop 11 rfl ?_
        refine Gx.norm (l' := [Hp.own FB 1 (.slice sa24 sn25 sc26) (certL c s), Hp.rec_ b8 [.slice sa15 sn16 sc17, .slice sa18 sn19 sc20, .slice sa24 sn25 sc26, .slice z28.1 z28.2.1 z28.2.2], Hp.rec_ S [.int .i64 ((c.n : Nat) : Int), .int .i64 ((c.need : Nat) : Int), .int .u32 ((c.L : Nat) : Int), .slice sa18 sn19 sc20, vv, mv, .map (some lb), .map (some gb)], Hp.own FK 2 (.slice sa18 sn19 sc20) s.bl, Hp.own FV 1 vv s.vt, Hp.own FR 2 mv s.ms, Hp.map Tryd.prog 92 tripL vI lb s.lt, Hp.map Tryd.prog 93 pairL vI gb s.gv, Hp.own FZ 1 (.slice sa15 sn16 sc17) (codesM c (ms0 c.n) cs), Hp.rec_ b1 [.slice none 0 0, .slice none 0 0, .slice none 0 0, .slice none 0 0], decH s.bl (certL c s) (.slice z28.1 z28.2.1 z28.2.2)]) rfl ?_
        refine Gx.thenN ?_
        refine Gx.seq ?_
        refine Gx.region ?_
        refine Gx.val rfl rfl rfl (Val.cast (val_loadA rfl Tryd.ty30 rfl rfl rfl (cells_rec (k := 1) rfl)) (v' := .agg #[.slice sa15 sn16 sc17, .slice sa18 sn19 sc20, .slice sa24 sn25 sc26, .slice z28.1 z28.2.1 z28.2.2]) rfl) ?_
        refine Gx.eff0 rfl rfl (eff_store rfl Tryd.ty30 rfl rfl (us := [.slice sa15 sn16 sc17, .slice sa18 sn19 sc20, .slice sa24 sn25 sc26, .slice z28.1 z28.2.1 z28.2.2]) rfl rfl rfl (k := 9) rfl (rfl) (vs' := [.slice sa15 sn16 sc17, .slice sa18 sn19 sc20, .slice sa24 sn25 sc26, .slice z28.1 z28.2.1 z28.2.2]) (rfl) (l' := [Hp.own FB 1 (.slice sa24 sn25 sc26) (certL c s), Hp.rec_ b8 [.slice sa15 sn16 sc17, .slice sa18 sn19 sc20, .slice sa24 sn25 sc26, .slice z28.1 z28.2.1 z28.2.2], Hp.rec_ S [.int .i64 ((c.n : Nat) : Int), .int .i64 ((c.need : Nat) : Int), .int .u32 ((c.L : Nat) : Int), .slice sa18 sn19 sc20, vv, mv, .map (some lb), .map (some gb)], Hp.own FK 2 (.slice sa18 sn19 sc20) s.bl, Hp.own FV 1 vv s.vt, Hp.own FR 2 mv s.ms, Hp.map Tryd.prog 92 tripL vI lb s.lt, Hp.map Tryd.prog 93 pairL vI gb s.gv, Hp.own FZ 1 (.slice sa15 sn16 sc17) (codesM c (ms0 c.n) cs), Hp.rec_ b1 [.slice sa15 sn16 sc17, .slice sa18 sn19 sc20, .slice sa24 sn25 sc26, .slice z28.1 z28.2.1 z28.2.2], decH s.bl (certL c s) (.slice z28.1 z28.2.1 z28.2.2)]) rfl) ?_
        rintro _ _ rfl
        refine Gx.val rfl rfl rfl (val_assign rfl rfl) ?_
        refine Gx.done ?_
        refine Gx.thenN ?_
        refine Gx.ret ?_
        refine Gx.drop 7 rfl ?_
        refine Gx.drop 6 rfl ?_
        refine Gx.drop 5 rfl ?_
        refine Gx.drop 4 rfl ?_
        refine Gx.drop 2 rfl ?_
        refine Gx.drop 1 rfl ?_
        refine Gx.front 3 rfl ?_
        refine Gx.front 4 rfl ?_
        refine Gx.front 2 rfl ?_
        refine Gx.front 3 rfl ?_
        refine Gx.front 4 rfl ?_
        refine Gx.retC2 Tryd.results4 Tryd.ty30 rfl rfl (us := [.slice sa15 sn16 sc17, .slice sa18 sn19 sc20, .slice sa24 sn25 sc26, .slice z28.1 z28.2.1 z28.2.2]) rfl (k := 4) rfl rfl ?_
        subst hsd
        exact ⟨_, _, _, _, _, _, _, _, _, _, _, _, _, rfl, rfl⟩

theorem decH.open_ {W w : World} {l : List Bk} {cs : List Bool} {v : Value} {R : Hp} (H : Sat W w (decH l cs v * R)) : ∃ ds, Chn.IsDec (blsP l) cs l.length ds ∧ Sat W w (Hp.own FB 1 v ds * R) := by
  obtain ⟨ds, H2⟩ := (H.cast (Q := Hp.ex (fun ds : List Bool => Hp.pure (Chn.IsDec (blsP l) cs l.length ds) * Hp.own FB 1 v ds) * R) rfl).ex
  obtain ⟨hd, H3⟩ := (H2.cast (Hp.mul_assoc ..)).pure
  exact ⟨ds, hd, H3⟩
theorem play_ok {W : World} {c : MC} {f : Nat} {sv : Value} {cs : List Sy} (hs : SlS FM 5 W sv cs) (h1n : 1 ≤ c.n) (h7n : c.n ≤ 7) (hcl : cs.length ≤ 120) (hf : f ≤ (c.n - 1) / 3) (hfn : c.need + f = c.n) (hLn : c.L >>> c.n = 0) (hL : c.L < 4294967296) :
    Calls Tryd.prog 4 #[.int .i64 ((c.n : Nat) : Int), .int .i64 ((f : Nat) : Int), .int .u32 ((c.L : Nat) : Int), sv] W fun e w' => ∃ v, e = .returned v ∧ (∃ (cv bv wv dv : Value) (ds : List Bool), v = .tuple #[.agg #[cv, bv, wv, dv], .int .i64 0] ∧ SlS FZ 1 w' cv (codesM c (ms0 c.n) cs) ∧ SlS FK 2 w' bv (stM c (ms0 c.n) cs).bl ∧ SlS FB 1 w' wv (certL c (stM c (ms0 c.n) cs)) ∧ SlS FB 1 w' dv ds ∧ Chn.IsDec (blsP (stM c (ms0 c.n) cs).bl) (certL c (stM c (ms0 c.n) cs)) (stM c (ms0 c.n) cs).bl.length ds) ∧ Below W.heap.size W w' := by
  have ok : OkM c := ⟨h7n, by omega, hL⟩
  refine calls_some (play_own hs h1n h7n hcl hf hfn hLn hL) ?_
  rintro v l w ⟨a0, m0, c0, a1, m1, c1, a2, m2, c2, a3, m3, c3, P, rfl, rfl⟩ H
  have bd := BdM.at_ ok cs
  have hb40 := bd.b40
  obtain ⟨ds, hd, H3⟩ := decH.open_ (H.at_ (k := 3) rfl)
  exact ⟨_, _, _, _, ds, rfl, (H.at_ (k := 0) rfl).sls (by rw [codesM_len]; omega), (H.at_ (k := 1) rfl).sls (by omega), (H.at_ (k := 2) rfl).sls (by unfold certL; rw [List.length_map, List.length_range]; omega), H3.sls (by rw [hd.1, List.length_map]; omega), hd⟩
end Go.Proofs.YtfeeociajllbhaaDoor.Mt
