/- Who sends to whom; what may be wrong. The walks. No condition. -/
import Derived.Test.YtmkhjlmhobihmaaA2
import Derived.Test.YtmkhjlmhobihmaaK
import Derived.Test.YtmkhjlmhobihmaaX9
namespace Go.Proofs.Ytmkhjlmhobihmaa
open Go.RowKit
set_option linter.unusedVariables false
set_option linter.unusedSimpArgs false
set_option maxRecDepth 100000

def sendsF : List Cr → Int → Nat → Int → Bool
  | [], _, _, _ => true
  | c :: l, i, j, r => if c.who = i then (decide (r < c.rnd) || (decide (r = c.rnd) && c.to_.testBit j)) else sendsF l i j r
theorem sends_at {cs : List Cr} {i : Int} {j : Nat} {r : Int} {k : Nat} {c : Cr} (hc : cs[k]? = some c) (h : ¬ c.who = i) : sendsF (cs.drop k) i j r = sendsF (cs.drop (k + 1)) i j r := by
  obtain ⟨hl, rfl⟩ := List.getElem?_eq_some_iff.1 hc
  rw [List.drop_eq_getElem_cons hl, sendsF, if_neg h]
theorem sends_hit {cs : List Cr} {i : Int} {j : Nat} {r : Int} {k : Nat} {c : Cr} (hc : cs[k]? = some c) (h : c.who = i) : sendsF (cs.drop k) i j r = (decide (r < c.rnd) || (decide (r = c.rnd) && c.to_.testBit j)) := by
  obtain ⟨hl, rfl⟩ := List.getElem?_eq_some_iff.1 hc
  rw [List.drop_eq_getElem_cons hl, sendsF, if_pos h]
theorem sends_end {cs : List Cr} {i : Int} {j : Nat} {r : Int} {k : Nat} (h : cs.length ≤ k) : sendsF (cs.drop k) i j r = true := by
  rw [List.drop_eq_nil_of_le h]; rfl
def badC (n : Nat) (c : Cr) : Bool := decide (c.who < 0) || decide ((n : Int) ≤ c.who) || decide (c.rnd < 0) || decide (c.to_ >>> n ≠ 0)
def wrC (n : Nat) : List Cr → List Int → Int
  | [], _ => 0
  | c :: l, seen => if badC n c = true then 2 else if c.who ∈ seen then 3 else wrC n l (seen ++ [c.who])
def whos (cs : List Cr) : List Int := cs.map Cr.who
theorem whos_take {cs : List Cr} {k : Nat} {c : Cr} (hc : cs[k]? = some c) : whos (cs.take (k + 1)) = whos (cs.take k) ++ [c.who] := by
  rw [take_of hc]; simp [whos]
theorem wr_bad {n : Nat} {cs : List Cr} {s : List Int} {k : Nat} {c : Cr} (hc : cs[k]? = some c) (h : badC n c = true) : wrC n (cs.drop k) s = 2 := by
  obtain ⟨hl, rfl⟩ := List.getElem?_eq_some_iff.1 hc
  rw [List.drop_eq_getElem_cons hl, wrC, if_pos h]
theorem wr_twice {n : Nat} {cs : List Cr} {s : List Int} {k : Nat} {c : Cr} (hc : cs[k]? = some c) (h : badC n c = false) (h2 : c.who ∈ s) : wrC n (cs.drop k) s = 3 := by
  obtain ⟨hl, rfl⟩ := List.getElem?_eq_some_iff.1 hc
  rw [List.drop_eq_getElem_cons hl, wrC, if_neg (by rw [h]; decide), if_pos h2]
theorem wr_go {n : Nat} {cs : List Cr} {s : List Int} {k : Nat} {c : Cr} (hc : cs[k]? = some c) (h : badC n c = false) (h2 : c.who ∉ s) : wrC n (cs.drop k) s = wrC n (cs.drop (k + 1)) (s ++ [c.who]) := by
  obtain ⟨hl, rfl⟩ := List.getElem?_eq_some_iff.1 hc
  rw [List.drop_eq_getElem_cons hl, wrC, if_neg (by rw [h]; decide), if_neg h2]
theorem wr_end {n : Nat} {cs : List Cr} {s : List Int} {k : Nat} (h : cs.length ≤ k) : wrC n (cs.drop k) s = 0 := by
  rw [List.drop_eq_nil_of_le h]; rfl
theorem wr_ok {n : Nat} : ∀ {cs : List Cr} {s : List Int}, s.Nodup → wrC n cs s = 0 → (∀ c ∈ cs, badC n c = false) ∧ (s ++ whos cs).Nodup
  | [], s, hs, _ => ⟨fun c hc => (by cases hc), by simpa [whos] using hs⟩
  | c :: l, s, hs, h => by
    rw [wrC] at h
    split at h
    · cases h
    · rename_i hb
      split at h
      · cases h
      · rename_i hm
        obtain ⟨h1, h2⟩ := wr_ok (s := s ++ [c.who]) (by
          rw [List.nodup_append]
          exact ⟨hs, by simp, fun a ha b hb e => by rw [List.mem_singleton] at hb; subst hb; exact hm (e ▸ ha)⟩) h
        refine ⟨fun x hx => ?_, by simpa [whos] using h2⟩
        rcases List.mem_cons.1 hx with rfl | hx
        · simpa using hb
        · exact h1 x hx
theorem badC_no {n : Nat} {c : Cr} (h : badC n c = false) : 0 ≤ c.who ∧ c.who < n ∧ 0 ≤ c.rnd ∧ c.to_ >>> n = 0 := by
  simp only [badC, Bool.or_eq_false_iff, decide_eq_false_iff_not] at h
  obtain ⟨⟨⟨h1, h2⟩, h3⟩, h4⟩ := h
  exact ⟨by omega, by omega, by omega, by simpa using h4⟩
def crE (c : Cr) : Int × Int := (c.who, 1)
theorem getM_seen {cs : List Cr} (a : Int) : getM (cs.map crE) a = if a ∈ whos cs then some 1 else none := by
  induction cs with
  | nil => rfl
  | cons c l ih =>
    simp only [List.map_cons, getM, crE, whos, List.mem_cons]
    by_cases e : c.who = a
    · rw [if_pos e, if_pos (.inl e.symm)]
    · rw [if_neg e]
      show getM (l.map crE) a = _
      rw [ih]
      by_cases e2 : a ∈ whos l
      · rw [if_pos e2, if_pos (.inr (by simpa [whos] using e2))]
      · rw [if_neg e2, if_neg (by rintro (h | h); exact e h.symm; exact e2 (by simpa [whos] using h))]
theorem put_seen {cs : List Cr} {c : Cr} (h : c.who ∉ whos cs) : putM (cs.map crE) c.who 1 = (cs ++ [c]).map crE := by
  rw [putM_new 1 (fun p hp e => h (by obtain ⟨d, hd, rfl⟩ := List.mem_map.1 hp; exact List.mem_map.2 ⟨d, hd, e⟩))]
  simp [crE]
/-- who knows what behind so many rounds -/
def Kn (cs : List Cr) (vs : List Int) : Nat → Nat → Int → Prop
  | 0, j, x => vs[j]? = some x
  | r + 1, j, x => Kn cs vs r j x ∨ ∃ i, i < vs.length ∧ i ≠ j ∧ sendsF cs (i : Int) j (r : Int) = true ∧ Kn cs vs r i x
theorem Kn.mem {cs : List Cr} {vs : List Int} : ∀ {r j : Nat} {x : Int}, Kn cs vs r j x → x ∈ vs
  | 0, j, x, h => List.mem_of_getElem? h
  | r + 1, j, x, .inl h => Kn.mem (r := r) h
  | r + 1, j, x, .inr ⟨_, _, _, _, h⟩ => Kn.mem (r := r) h
theorem Kn.up {cs : List Cr} {vs : List Int} {j : Nat} {x : Int} (h : vs[j]? = some x) : ∀ r, Kn cs vs r j x
  | 0 => h
  | r + 1 => .inl (Kn.up h r)
open Classical in
noncomputable def minP (P : Int → Prop) : Int := if h : ∃ m, P m ∧ ∀ x, P x → m ≤ x then h.choose else 0
theorem minP_of {P : Int → Prop} {m : Int} (h : P m) (h2 : ∀ x, P x → m ≤ x) : minP P = m := by
  unfold minP
  have he : ∃ m, P m ∧ ∀ x, P x → m ≤ x := ⟨m, h, h2⟩
  rw [dif_pos he]
  obtain ⟨a, b⟩ := he.choose_spec
  have h3 := b m h
  have h4 := h2 _ a
  omega
noncomputable def lstF (cs : List Cr) (vs : List Int) (r : Nat) : List Int := (List.range vs.length).map fun j => minP (Kn cs vs r j)
structure Valid (vs : List Int) (r : Int) (cs : List Cr) : Prop where
  n1 : 1 ≤ vs.length
  n6 : vs.length ≤ 6
  r0 : 0 ≤ r
  r6 : r ≤ 6
  c6 : cs.length ≤ 6
  ok : wrC vs.length cs [] = 0
theorem bit_c {L : Nat} {i : Nat} {w : World} (hx : L < 4294967296) (hi : i < 32) : Calls Try.prog 24 #[.int .u32 ((L : Nat) : Int), .int .i64 ((i : Nat) : Int)] w fun e w' => e = .returned (.bool (L.testBit i)) ∧ Below w.heap.size w w' :=
  (bit_any L i w hx).mono fun e w' ⟨h, e2⟩ => by subst e2; rw [bitF_nat hi] at h; exact ⟨h, Below.refl ..⟩
theorem out_eq {x n : Nat} (hx : x < 4294967296) : outsideF x (n : Int) = decide (x >>> n ≠ 0) := by
  by_cases h : x >>> n = 0
  · rw [decide_eq_false (by simpa using h)]
    refine outside_yes fun j h1 h2 => ?_
    have := congrArg (fun z => z.testBit (j - n)) h
    simp only [Nat.testBit_shiftRight, Nat.zero_testBit] at this
    rwa [show n + (j - n) = j by omega] at this
  · rw [decide_eq_true (by simpa using h)]
    obtain ⟨i, hi⟩ := Nat.exists_testBit_of_ne_zero h
    rw [Nat.testBit_shiftRight] at hi
    refine outside_no (j := n + i) ?_ (by omega) hi
    rcases Nat.lt_or_ge (n + i) 32 with q | q
    · exact q
    · have : x < 2 ^ (n + i) := Nat.lt_of_lt_of_le hx (Nat.pow_le_pow_right (show 0 < 2 by decide) q)
      rw [Nat.testBit_lt_two_pow this] at hi; cases hi
theorem out_c {L : Nat} {n : Nat} {w : World} (hx : L < 4294967296) (hn : n ≤ 1000) : Calls Try.prog 19 #[.int .u32 ((L : Nat) : Int), .int .i64 ((n : Nat) : Int)] w fun e w' => e = .returned (.bool (decide (L >>> n ≠ 0))) ∧ Below w.heap.size w w' :=
  (outside_any L n w hx (by omega) (by omega)).mono fun e w' ⟨h, e2⟩ => by subst e2; rw [out_eq hx] at h; exact ⟨h, Below.refl ..⟩
theorem bit_one (L i : Nat) : (L >>> i &&& 1 = 1) ↔ L.testBit i = true := by
  unfold Nat.testBit
  have : 1 &&& L >>> i = L >>> i &&& 1 := Nat.and_comm ..
  rw [this]
  have h2 : L >>> i &&& 1 = 0 ∨ L >>> i &&& 1 = 1 := by
    have : L >>> i &&& 1 = (L >>> i) % 2 := Nat.and_one_is_mod _
    omega
  rcases h2 with h | h <;> rw [h] <;> decide
theorem sh_lt {x : Nat} (i : Nat) (h : x < 4294967296) : x >>> i < 4294967296 := Nat.lt_of_le_of_lt (Nat.shiftRight_le ..) h
theorem sends_any {W : World} {va : Value} {cs : List Cr} {i j r : Nat} (ha : SlS FC 3 W va cs) (hto : ∀ c ∈ cs, c.to_ < 4294967296) (hj : j < 32) : Calls Try.prog 14 #[va, .int .i64 ((i : Nat) : Int), .int .i64 ((j : Nat) : Int), .int .i64 ((r : Nat) : Int)] W fun e w' => e = .returned (.bool (sendsF cs (i : Int) j (r : Int))) ∧ Below W.heap.size W w' := by
  have m1 := sls_bd ha
  refine calls_pure (Gx.enter (l := []) Try.func14 rfl Try.ntmps14 rfl (Sat.start W) ?_)
  refine Gx.know (m' := [(0, va), (1, .int .i64 ((i : Nat) : Int)), (2, .int .i64 ((j : Nat) : Int)), (3, .int .i64 ((r : Nat) : Int))]) (.cons rfl (.cons rfl (.cons rfl (.cons rfl .nil)))) ?_
  refine Gx.seq ?_
  refine Gx.region ?_
  refine Gx.val rfl rfl rfl (val_assign rfl rfl) ?_
  refine Gx.done ?_
  refine Gx.thenN ?_
  refine Gx.seq ?_
  refine Gx.seq ?_
  refine Gx.region ?_
  refine Gx.val rfl rfl rfl (val_move rfl rfl) ?_
  refine Gx.val rfl rfl rfl (val_len rfl Try.underlying23 rfl (len_base ha)) ?_
  refine Gx.val rfl rfl rfl (val_move rfl rfl) ?_
  refine Gx.done ?_
  refine Gx.thenN ?_
  refine Gx.block ?_
  refine Gx.loop (ι := Nat) (fun ξ => (ξ ≤ cs.length) ∧ (sendsF (cs.drop ξ) (i : Int) j (r : Int) = sendsF cs (i : Int) j (r : Int))) (fun ξ => [(0, va), (1, .int .i64 ((i : Nat) : Int)), (2, .int .i64 ((j : Nat) : Int)), (3, .int .i64 ((r : Nat) : Int)), (11, va), (12, .int .i64 ((cs.length : Nat) : Int)), (13, .int .i64 ((ξ : Nat) : Int))]) (fun ξ => []) (fun ξ => cs.length - ξ) 0 ⟨by first | omega | (dsimp only; omega), rfl⟩ ((.cons rfl (.cons rfl (.cons rfl (.cons rfl (.cons rfl (.cons rfl (.cons rfl .nil)))))))) rfl ?_
  rintro k ⟨hk, he⟩
  refine Gx.know (m' := [(0, va), (1, .int .i64 ((i : Nat) : Int)), (2, .int .i64 ((j : Nat) : Int)), (3, .int .i64 ((r : Nat) : Int)), (11, va), (12, .int .i64 ((cs.length : Nat) : Int)), (13, .int .i64 ((k : Nat) : Int))]) (.cons rfl (.cons rfl (.cons rfl (.cons rfl (.cons rfl (.cons rfl (.cons rfl .nil))))))) (Gx.norm (l' := []) rfl ?_)
  refine Gx.seq ?_
  refine Gx.region ?_
  refine Gx.val rfl rfl rfl (val_lss rfl rfl rfl) ?_
  refine Gx.done ?_
  refine Gx.thenN ?_
  refine Gx.seq ?_
  refine Gx.dec rfl (fun h1 => ?_) (fun h1 => ?_)
  · refine Gx.skip ?_
    refine Gx.thenN ?_
    refine Gx.seq ?_
    refine Gx.block ?_
    refine Gx.seq ?_
    refine Gx.region ?_
    obtain ⟨x2, hx2⟩ := get_of_lt (xs := cs) (k := k) (by omega)
    refine Gx.val rfl rfl rfl (val_ixa rfl Try.underlying23 Try.ty30 rfl rfl (j := k) (rfl) (reach_base ha hx2)) ?_
    refine Gx.val rfl rfl rfl (Val.cast (val_loadA rfl Try.ty30 rfl rfl rfl (cells_base ha hx2)) (v' := .agg #[.int .i64 x2.who, .int .i64 x2.rnd, .int .u32 ((x2.to_ : Nat) : Int)]) rfl) ?_
    refine Gx.eff rfl rfl rfl (eff_alloc rfl Try.ty30 (vs := [.int .i64 0, .int .i64 0, .int .u32 0]) rfl) ?_
    rintro _ _ ⟨b3, rfl, rfl⟩
    refine Gx.eff0 rfl rfl (eff_store rfl Try.ty30 rfl rfl (us := [.int .i64 x2.who, .int .i64 x2.rnd, .int .u32 ((x2.to_ : Nat) : Int)]) rfl rfl rfl (k := 0) rfl (rfl) (vs' := [.int .i64 x2.who, .int .i64 x2.rnd, .int .u32 ((x2.to_ : Nat) : Int)]) (rfl) (l' := [Hp.rec_ b3 [.int .i64 x2.who, .int .i64 x2.rnd, .int .u32 ((x2.to_ : Nat) : Int)]]) rfl) ?_
    rintro _ _ rfl
    refine Gx.done ?_
    refine Gx.thenN ?_
    refine Gx.seq ?_
    have hto := hto x2 (List.mem_of_getElem? hx2)
    refine Gx.region ?_
    refine Gx.val rfl rfl rfl (Val.cast (val_fieldAddr rfl Try.underlying30 rfl Try.ty3 rfl rfl) (v' := ptr b3 0) rfl) ?_
    refine Gx.val rfl rfl rfl (val_load rfl Try.ty3 rfl rfl (cell_rec (k := 0) rfl rfl)) ?_
    refine Gx.val rfl rfl rfl (val_move rfl rfl) ?_
    refine Gx.val rfl rfl rfl (val_eql rfl rfl rfl) ?_
    refine Gx.done ?_
    refine Gx.thenN ?_
    refine Gx.dec rfl (fun h4 => ?_) (fun h4 => ?_)
    · refine Gx.seq ?_
      refine Gx.region ?_
      refine Gx.val rfl rfl rfl (val_move rfl rfl) ?_
      refine Gx.val rfl rfl rfl (Val.cast (val_fieldAddr rfl Try.underlying30 rfl Try.ty3 rfl rfl) (v' := ptr b3 1) rfl) ?_
      refine Gx.val rfl rfl rfl (val_load rfl Try.ty3 rfl rfl (cell_rec (k := 0) rfl rfl)) ?_
      refine Gx.val rfl rfl rfl (val_lss rfl rfl rfl) ?_
      refine Gx.val rfl rfl rfl (val_move rfl rfl) ?_
      refine Gx.cases (t := 25) rfl (fun h5 => ?_) (fun h5 => ?_)
      · refine Gx.skipg rfl rfl rfl rfl rfl rfl ?_
        refine Gx.skipg rfl rfl rfl rfl rfl rfl ?_
        refine Gx.skipg rfl rfl rfl rfl rfl rfl ?_
        refine Gx.skipg rfl rfl rfl rfl rfl rfl ?_
        refine Gx.skipg rfl rfl rfl rfl rfl rfl ?_
        refine Gx.skipu rfl rfl rfl rfl rfl ?_
        refine Gx.skipu rfl rfl rfl rfl rfl ?_
        refine Gx.skipu rfl rfl rfl rfl rfl ?_
        refine Gx.skipu rfl rfl rfl rfl rfl ?_
        refine Gx.skipu rfl rfl rfl rfl rfl ?_
        refine Gx.skipu rfl rfl rfl rfl rfl ?_
        refine Gx.skipg rfl rfl rfl rfl rfl rfl ?_
        refine Gx.val rfl rfl rfl (val_pickT rfl rfl rfl) ?_
        refine Gx.val rfl rfl rfl (val_assign rfl rfl) ?_
        refine Gx.done ?_
        refine Gx.thenN ?_
        refine Gx.ret ?_
        refine Gx.blkR ?_
        refine Gx.thenR ?_
        refine Gx.thenR ?_
        refine Gx.blkR ?_
        refine Gx.thenR ?_
        have hres := sends_hit (i := (i : Int)) (j := j) (r := (r : Int)) hx2 (by omega)
        refine Gx.ret1 Try.results14 rfl ?_
        exact congrArg Value.bool (by rw [← he, hres]; first | (rw [decide_eq_true (show (r : Int) < x2.rnd by omega)]; rfl) | (rw [decide_eq_false (show ¬ (r : Int) < x2.rnd by omega), decide_eq_false (show ¬ (r : Int) = x2.rnd by omega)]; rfl) | (rw [decide_eq_false (show ¬ (r : Int) < x2.rnd by omega), decide_eq_true (show (r : Int) = x2.rnd by omega), Bool.false_or, Bool.true_and]; cases e : Nat.testBit x2.to_ j with | true => exact decide_eq_true (congrArg Nat.cast ((bit_one x2.to_ j).2 e)) | false => exact decide_eq_false fun h => by rw [(bit_one x2.to_ j).1 (Int.ofNat.inj h)] at e; cases e))
      · refine Gx.valg rfl rfl rfl rfl rfl (val_move rfl rfl) ?_
        refine Gx.valg rfl rfl rfl rfl rfl (Val.cast (val_fieldAddr rfl Try.underlying30 rfl Try.ty3 rfl rfl) (v' := ptr b3 1) rfl) ?_
        refine Gx.valg rfl rfl rfl rfl rfl (val_load rfl Try.ty3 rfl rfl (cell_rec (k := 0) rfl rfl)) ?_
        refine Gx.valg rfl rfl rfl rfl rfl (val_eql rfl rfl rfl) ?_
        refine Gx.valg rfl rfl rfl rfl rfl (val_move rfl rfl) ?_
        refine Gx.cases (t := 30) rfl (fun h6 => ?_) (fun h6 => ?_)
        · refine Gx.valg rfl rfl rfl rfl rfl (Val.cast (val_fieldAddr rfl Try.underlying30 rfl Try.ty28 rfl rfl) (v' := ptr b3 2) rfl) ?_
          refine Gx.valg rfl rfl rfl rfl rfl (val_load rfl Try.ty28 rfl rfl (cell_rec (k := 0) rfl rfl)) ?_
          refine Gx.valg rfl rfl rfl rfl rfl (val_move rfl rfl) ?_
          refine Gx.valg rfl rfl rfl rfl rfl (val_shr (b := j) rfl rfl rfl rfl (by show j ≤ 32; omega) (shr32 _ _)) ?_
          refine Gx.valg rfl rfl rfl rfl rfl (val_and rfl rfl rfl (and32 (sh_lt j hto) (by decide : 1 < 4294967296))) ?_
          refine Gx.valg rfl rfl rfl rfl rfl (val_eql rfl rfl rfl) ?_
          refine Gx.valg rfl rfl rfl rfl rfl (val_pickT rfl rfl rfl) ?_
          refine Gx.val rfl rfl rfl (val_pickF rfl rfl rfl) ?_
          refine Gx.val rfl rfl rfl (val_assign rfl rfl) ?_
          refine Gx.done ?_
          refine Gx.thenN ?_
          refine Gx.ret ?_
          refine Gx.blkR ?_
          refine Gx.thenR ?_
          refine Gx.thenR ?_
          refine Gx.blkR ?_
          refine Gx.thenR ?_
          have hres := sends_hit (i := (i : Int)) (j := j) (r := (r : Int)) hx2 (by omega)
          refine Gx.ret1 Try.results14 rfl ?_
          exact congrArg Value.bool (by rw [← he, hres]; first | (rw [decide_eq_true (show (r : Int) < x2.rnd by omega)]; rfl) | (rw [decide_eq_false (show ¬ (r : Int) < x2.rnd by omega), decide_eq_false (show ¬ (r : Int) = x2.rnd by omega)]; rfl) | (rw [decide_eq_false (show ¬ (r : Int) < x2.rnd by omega), decide_eq_true (show (r : Int) = x2.rnd by omega), Bool.false_or, Bool.true_and]; cases e : Nat.testBit x2.to_ j with | true => exact decide_eq_true (congrArg Nat.cast ((bit_one x2.to_ j).2 e)) | false => exact decide_eq_false fun h => by rw [(bit_one x2.to_ j).1 (Int.ofNat.inj h)] at e; cases e))
        · refine Gx.skipg rfl rfl rfl rfl rfl rfl ?_
          refine Gx.skipg rfl rfl rfl rfl rfl rfl ?_
          refine Gx.skipg rfl rfl rfl rfl rfl rfl ?_
          refine Gx.skipg rfl rfl rfl rfl rfl rfl ?_
          refine Gx.skipg rfl rfl rfl rfl rfl rfl ?_
          refine Gx.skipg rfl rfl rfl rfl rfl rfl ?_
          refine Gx.valg rfl rfl rfl rfl rfl (val_pickF rfl rfl rfl) ?_
          refine Gx.val rfl rfl rfl (val_pickF rfl rfl rfl) ?_
          refine Gx.val rfl rfl rfl (val_assign rfl rfl) ?_
          refine Gx.done ?_
          refine Gx.thenN ?_
          refine Gx.ret ?_
          refine Gx.blkR ?_
          refine Gx.thenR ?_
          refine Gx.thenR ?_
          refine Gx.blkR ?_
          refine Gx.thenR ?_
          have hres := sends_hit (i := (i : Int)) (j := j) (r := (r : Int)) hx2 (by omega)
          refine Gx.ret1 Try.results14 rfl ?_
          exact congrArg Value.bool (by rw [← he, hres]; first | (rw [decide_eq_true (show (r : Int) < x2.rnd by omega)]; rfl) | (rw [decide_eq_false (show ¬ (r : Int) < x2.rnd by omega), decide_eq_false (show ¬ (r : Int) = x2.rnd by omega)]; rfl) | (rw [decide_eq_false (show ¬ (r : Int) < x2.rnd by omega), decide_eq_true (show (r : Int) = x2.rnd by omega), Bool.false_or, Bool.true_and]; cases e : Nat.testBit x2.to_ j with | true => exact decide_eq_true (congrArg Nat.cast ((bit_one x2.to_ j).2 e)) | false => exact decide_eq_false fun h => by rw [(bit_one x2.to_ j).1 (Int.ofNat.inj h)] at e; cases e))
    · refine Gx.skip ?_
      refine Gx.blkN ?_
      refine Gx.thenN ?_
      refine Gx.region ?_
      refine Gx.val rfl rfl rfl (val_add rfl rfl rfl (r := ((k + 1 : Nat) : Int)) (w64 (by omega) (by omega))) ?_
      refine Gx.val rfl rfl rfl (val_move rfl rfl) ?_
      refine Gx.done ?_
      refine Gx.thenN ?_
      refine Gx.drop 0 rfl ?_
      exact Gx.round (k + 1) ⟨by first | omega | (dsimp only; omega), by rw [← he, sends_at hx2 (by omega)]⟩ (by first | omega | (dsimp only; omega)) ((.cons rfl (.cons rfl (.cons rfl (.cons rfl (.cons rfl (.cons rfl (.cons rfl .nil)))))))) rfl
  · refine Gx.exit ?_
    refine Gx.thenE ?_
    refine Gx.thenE ?_
    refine Gx.blkE ?_
    refine Gx.thenN ?_
    refine Gx.seq ?_
    refine Gx.region ?_
    refine Gx.val rfl rfl rfl (val_assign rfl rfl) ?_
    refine Gx.done ?_
    refine Gx.thenN ?_
    refine Gx.ret ?_
    refine Gx.ret1 Try.results14 rfl ?_
    exact congrArg Value.bool (by rw [← he, sends_end (by omega)])

theorem wrong_any {W : World} {va : Value} {cs : List Cr} {n : Nat} (ha : SlS FC 3 W va cs) (hto : ∀ c ∈ cs, c.to_ < 4294967296) (hn : n ≤ 6) (hc6 : cs.length ≤ 6) : Calls Try.prog 12 #[.int .i64 ((n : Nat) : Int), va] W fun e w' => e = .returned (.int .i64 (wrC n cs [])) ∧ Below W.heap.size W w' := by
  have m1 := sls_bd ha
  refine calls_pure (Gx.enter (l := []) Try.func12 rfl Try.ntmps12 rfl (Sat.start W) ?_)
  refine Gx.know (m' := [(0, .int .i64 ((n : Nat) : Int)), (1, va)]) (.cons rfl (.cons rfl .nil)) ?_
  refine Gx.seq ?_
  refine Gx.region ?_
  refine Gx.val rfl rfl rfl (val_assign rfl rfl) ?_
  refine Gx.done ?_
  refine Gx.thenN ?_
  refine Gx.seq ?_
  refine Gx.region ?_
  refine Gx.eff rfl rfl rfl (eff_makeMap 3 intL intV rfl) ?_
  rintro _ _ ⟨b1, rfl, rfl⟩
  refine Gx.val rfl rfl rfl (val_assign rfl rfl) ?_
  refine Gx.done ?_
  refine Gx.thenN ?_
  refine Gx.seq ?_
  refine Gx.seq ?_
  refine Gx.region ?_
  refine Gx.val rfl rfl rfl (val_move rfl rfl) ?_
  refine Gx.val rfl rfl rfl (val_len rfl Try.underlying23 rfl (len_base ha)) ?_
  refine Gx.val rfl rfl rfl (val_move rfl rfl) ?_
  refine Gx.done ?_
  refine Gx.thenN ?_
  refine Gx.block ?_
  refine Gx.norm (l' := [Hp.map Try.prog 3 intL intV b1 ((cs.take 0).map crE)]) rfl ?_
  refine Gx.loop (ι := Nat) (fun ξ => (ξ ≤ cs.length) ∧ (wrC n (cs.drop ξ) (whos (cs.take ξ)) = wrC n cs [])) (fun ξ => [(0, .int .i64 ((n : Nat) : Int)), (1, va), (5, .map (some b1)), (9, va), (10, .int .i64 ((cs.length : Nat) : Int)), (11, .int .i64 ((ξ : Nat) : Int))]) (fun ξ => [Hp.map Try.prog 3 intL intV b1 ((cs.take ξ).map crE)]) (fun ξ => cs.length - ξ) 0 ⟨by first | omega | (dsimp only; omega), rfl⟩ ((.cons rfl (.cons rfl (.cons rfl (.cons rfl (.cons rfl (.cons rfl .nil))))))) rfl ?_
  rintro k ⟨hk, he⟩
  refine Gx.know (m' := [(0, .int .i64 ((n : Nat) : Int)), (1, va), (5, .map (some b1)), (9, va), (10, .int .i64 ((cs.length : Nat) : Int)), (11, .int .i64 ((k : Nat) : Int))]) (.cons rfl (.cons rfl (.cons rfl (.cons rfl (.cons rfl (.cons rfl .nil)))))) (Gx.norm (l' := [Hp.map Try.prog 3 intL intV b1 ((cs.take k).map crE)]) rfl ?_)
  refine Gx.seq ?_
  refine Gx.region ?_
  refine Gx.val rfl rfl rfl (val_lss rfl rfl rfl) ?_
  refine Gx.done ?_
  refine Gx.thenN ?_
  refine Gx.seq ?_
  refine Gx.dec rfl (fun h2 => ?_) (fun h2 => ?_)
  · refine Gx.skip ?_
    refine Gx.thenN ?_
    refine Gx.seq ?_
    refine Gx.block ?_
    refine Gx.seq ?_
    refine Gx.region ?_
    obtain ⟨x3, hx3⟩ := get_of_lt (xs := cs) (k := k) (by omega)
    refine Gx.val rfl rfl rfl (val_ixa rfl Try.underlying23 Try.ty30 rfl rfl (j := k) (rfl) (reach_base ha hx3)) ?_
    refine Gx.val rfl rfl rfl (Val.cast (val_loadA rfl Try.ty30 rfl rfl rfl (cells_base ha hx3)) (v' := .agg #[.int .i64 x3.who, .int .i64 x3.rnd, .int .u32 ((x3.to_ : Nat) : Int)]) rfl) ?_
    refine Gx.eff rfl rfl rfl (eff_alloc rfl Try.ty30 (vs := [.int .i64 0, .int .i64 0, .int .u32 0]) rfl) ?_
    rintro _ _ ⟨b4, rfl, rfl⟩
    refine Gx.eff0 rfl rfl (eff_store rfl Try.ty30 rfl rfl (us := [.int .i64 x3.who, .int .i64 x3.rnd, .int .u32 ((x3.to_ : Nat) : Int)]) rfl rfl rfl (k := 0) rfl (rfl) (vs' := [.int .i64 x3.who, .int .i64 x3.rnd, .int .u32 ((x3.to_ : Nat) : Int)]) (rfl) (l' := [Hp.rec_ b4 [.int .i64 x3.who, .int .i64 x3.rnd, .int .u32 ((x3.to_ : Nat) : Int)], Hp.map Try.prog 3 intL intV b1 ((cs.take k).map crE)]) rfl) ?_
    rintro _ _ rfl
    refine Gx.done ?_
    refine Gx.thenN ?_
    refine Gx.seq ?_
    refine Gx.seq ?_
    have hto := hto x3 (List.mem_of_getElem? hx3)
    have hlk : ((cs.take k).map crE).length ≤ 1000 := by simp; omega
    refine Gx.region ?_
    refine Gx.val rfl rfl rfl (Val.cast (val_fieldAddr rfl Try.underlying30 rfl Try.ty3 rfl rfl) (v' := ptr b4 0) rfl) ?_
    refine Gx.val rfl rfl rfl (val_load rfl Try.ty3 rfl rfl (cell_rec (k := 0) rfl rfl)) ?_
    refine Gx.val rfl rfl rfl (val_lss rfl rfl rfl) ?_
    refine Gx.val rfl rfl rfl (val_move rfl rfl) ?_
    refine Gx.cases (t := 18) rfl (fun h5 => ?_) (fun h5 => ?_)
    · refine Gx.skipg rfl rfl rfl rfl rfl rfl ?_
      refine Gx.skipg rfl rfl rfl rfl rfl rfl ?_
      refine Gx.skipg rfl rfl rfl rfl rfl rfl ?_
      refine Gx.skipg rfl rfl rfl rfl rfl rfl ?_
      refine Gx.val rfl rfl rfl (val_pickT rfl rfl rfl) ?_
      refine Gx.val rfl rfl rfl (val_move rfl rfl) ?_
      refine Gx.skipg rfl rfl rfl rfl rfl rfl ?_
      refine Gx.skipg rfl rfl rfl rfl rfl rfl ?_
      refine Gx.skipg rfl rfl rfl rfl rfl rfl ?_
      refine Gx.val rfl rfl rfl (val_pickT rfl rfl rfl) ?_
      refine Gx.val rfl rfl rfl (val_move rfl rfl) ?_
      refine Gx.skipg rfl rfl rfl rfl rfl rfl ?_
      refine Gx.skipg rfl rfl rfl rfl rfl rfl ?_
      refine Gx.skipg rfl rfl rfl rfl rfl rfl ?_
      refine Gx.skipg rfl rfl rfl rfl rfl rfl ?_
      refine Gx.skipg rfl rfl rfl rfl rfl rfl ?_
      refine Gx.val rfl rfl rfl (val_pickT rfl rfl rfl) ?_
      refine Gx.done ?_
      refine Gx.thenN ?_
      refine Gx.t rfl ?_
      refine Gx.seq ?_
      refine Gx.region ?_
      refine Gx.val rfl rfl rfl (val_assign rfl rfl) ?_
      refine Gx.done ?_
      refine Gx.thenN ?_
      refine Gx.ret ?_
      refine Gx.thenR ?_
      refine Gx.blkR ?_
      refine Gx.thenR ?_
      refine Gx.thenR ?_
      refine Gx.blkR ?_
      refine Gx.thenR ?_
      refine Gx.ret1 Try.results12 rfl ?_
      exact congrArg (Value.int .i64) (by rw [← he]; exact (wr_bad hx3 (by simp only [badC, Bool.or_eq_true, decide_eq_true_eq]; first | (exact .inl (.inl (.inl (by omega)))) | (exact .inl (.inl (.inr (by omega)))) | (exact .inl (.inr (by omega))) | (exact .inr (fun q => hto (congrArg Nat.cast q))))).symm)
    · refine Gx.valg rfl rfl rfl rfl rfl (Val.cast (val_fieldAddr rfl Try.underlying30 rfl Try.ty3 rfl rfl) (v' := ptr b4 0) rfl) ?_
      refine Gx.valg rfl rfl rfl rfl rfl (val_load rfl Try.ty3 rfl rfl (cell_rec (k := 0) rfl rfl)) ?_
      refine Gx.valg rfl rfl rfl rfl rfl (val_move rfl rfl) ?_
      refine Gx.valg rfl rfl rfl rfl rfl (val_geq rfl rfl rfl) ?_
      refine Gx.val rfl rfl rfl (val_pickF rfl rfl rfl) ?_
      refine Gx.val rfl rfl rfl (val_move rfl rfl) ?_
      refine Gx.cases (t := 24) rfl (fun h6 => ?_) (fun h6 => ?_)
      · refine Gx.skipg rfl rfl rfl rfl rfl rfl ?_
        refine Gx.skipg rfl rfl rfl rfl rfl rfl ?_
        refine Gx.skipg rfl rfl rfl rfl rfl rfl ?_
        refine Gx.val rfl rfl rfl (val_pickT rfl rfl rfl) ?_
        refine Gx.val rfl rfl rfl (val_move rfl rfl) ?_
        refine Gx.skipg rfl rfl rfl rfl rfl rfl ?_
        refine Gx.skipg rfl rfl rfl rfl rfl rfl ?_
        refine Gx.skipg rfl rfl rfl rfl rfl rfl ?_
        refine Gx.skipg rfl rfl rfl rfl rfl rfl ?_
        refine Gx.skipg rfl rfl rfl rfl rfl rfl ?_
        refine Gx.val rfl rfl rfl (val_pickT rfl rfl rfl) ?_
        refine Gx.done ?_
        refine Gx.thenN ?_
        refine Gx.t rfl ?_
        refine Gx.seq ?_
        refine Gx.region ?_
        refine Gx.val rfl rfl rfl (val_assign rfl rfl) ?_
        refine Gx.done ?_
        refine Gx.thenN ?_
        refine Gx.ret ?_
        refine Gx.thenR ?_
        refine Gx.blkR ?_
        refine Gx.thenR ?_
        refine Gx.thenR ?_
        refine Gx.blkR ?_
        refine Gx.thenR ?_
        refine Gx.ret1 Try.results12 rfl ?_
        exact congrArg (Value.int .i64) (by rw [← he]; exact (wr_bad hx3 (by simp only [badC, Bool.or_eq_true, decide_eq_true_eq]; first | (exact .inl (.inl (.inl (by omega)))) | (exact .inl (.inl (.inr (by omega)))) | (exact .inl (.inr (by omega))) | (exact .inr (fun q => hto (congrArg Nat.cast q))))).symm)
      · refine Gx.valg rfl rfl rfl rfl rfl (Val.cast (val_fieldAddr rfl Try.underlying30 rfl Try.ty3 rfl rfl) (v' := ptr b4 1) rfl) ?_
        refine Gx.valg rfl rfl rfl rfl rfl (val_load rfl Try.ty3 rfl rfl (cell_rec (k := 0) rfl rfl)) ?_
        refine Gx.valg rfl rfl rfl rfl rfl (val_lss rfl rfl rfl) ?_
        refine Gx.val rfl rfl rfl (val_pickF rfl rfl rfl) ?_
        refine Gx.val rfl rfl rfl (val_move rfl rfl) ?_
        refine Gx.cases (t := 29) rfl (fun h7 => ?_) (fun h7 => ?_)
        · refine Gx.skipg rfl rfl rfl rfl rfl rfl ?_
          refine Gx.skipg rfl rfl rfl rfl rfl rfl ?_
          refine Gx.skipg rfl rfl rfl rfl rfl rfl ?_
          refine Gx.skipg rfl rfl rfl rfl rfl rfl ?_
          refine Gx.skipg rfl rfl rfl rfl rfl rfl ?_
          refine Gx.val rfl rfl rfl (val_pickT rfl rfl rfl) ?_
          refine Gx.done ?_
          refine Gx.thenN ?_
          refine Gx.t rfl ?_
          refine Gx.seq ?_
          refine Gx.region ?_
          refine Gx.val rfl rfl rfl (val_assign rfl rfl) ?_
          refine Gx.done ?_
          refine Gx.thenN ?_
          refine Gx.ret ?_
          refine Gx.thenR ?_
          refine Gx.blkR ?_
          refine Gx.thenR ?_
          refine Gx.thenR ?_
          refine Gx.blkR ?_
          refine Gx.thenR ?_
          refine Gx.ret1 Try.results12 rfl ?_
          exact congrArg (Value.int .i64) (by rw [← he]; exact (wr_bad hx3 (by simp only [badC, Bool.or_eq_true, decide_eq_true_eq]; first | (exact .inl (.inl (.inl (by omega)))) | (exact .inl (.inl (.inr (by omega)))) | (exact .inl (.inr (by omega))) | (exact .inr (fun q => hto (congrArg Nat.cast q))))).symm)
        · refine Gx.valg rfl rfl rfl rfl rfl (Val.cast (val_fieldAddr rfl Try.underlying30 rfl Try.ty28 rfl rfl) (v' := ptr b4 2) rfl) ?_
          refine Gx.valg rfl rfl rfl rfl rfl (val_load rfl Try.ty28 rfl rfl (cell_rec (k := 0) rfl rfl)) ?_
          refine Gx.valg rfl rfl rfl rfl rfl (val_move rfl rfl) ?_
          refine Gx.valg rfl rfl rfl rfl rfl (val_shr (b := n) rfl rfl rfl rfl (by show n ≤ 32; omega) (shr32 _ _)) ?_
          refine Gx.valg rfl rfl rfl rfl rfl (val_neq rfl rfl rfl) ?_
          refine Gx.val rfl rfl rfl (val_pickF rfl rfl rfl) ?_
          refine Gx.done ?_
          refine Gx.thenN ?_
          refine Gx.dec rfl (fun h8 => ?_) (fun h8 => ?_)
          · refine Gx.seq ?_
            refine Gx.region ?_
            refine Gx.val rfl rfl rfl (val_assign rfl rfl) ?_
            refine Gx.done ?_
            refine Gx.thenN ?_
            refine Gx.ret ?_
            refine Gx.thenR ?_
            refine Gx.blkR ?_
            refine Gx.thenR ?_
            refine Gx.thenR ?_
            refine Gx.blkR ?_
            refine Gx.thenR ?_
            refine Gx.ret1 Try.results12 rfl ?_
            exact congrArg (Value.int .i64) (by rw [← he]; exact (wr_bad hx3 (by simp only [badC, Bool.or_eq_true, decide_eq_true_eq]; first | (exact .inl (.inl (.inl (by omega)))) | (exact .inl (.inl (.inr (by omega)))) | (exact .inl (.inr (by omega))) | (exact .inr (fun q => h8 (congrArg Nat.cast q))))).symm)
          · refine Gx.skip ?_
            refine Gx.thenN ?_
            refine Gx.seq ?_
            have hbf : badC n x3 = false := by simp only [badC, Bool.or_eq_false_iff, decide_eq_false_iff_not]; exact ⟨⟨⟨by omega, by omega⟩, by omega⟩, fun q => h8 (fun z => q (Int.ofNat.inj z))⟩
            have hwf : In x3.who := In_of (by omega) (by omega)
            by_cases hnew : x3.who ∈ whos (cs.take k)
            · refine Gx.region ?_
              refine Gx.val rfl rfl rfl (val_move rfl rfl) ?_
              refine Gx.val rfl rfl rfl (Val.cast (val_fieldAddr rfl Try.underlying30 rfl Try.ty3 rfl rfl) (v' := ptr b4 0) rfl) ?_
              refine Gx.val rfl rfl rfl (val_load rfl Try.ty3 rfl rfl (cell_rec (k := 0) rfl rfl)) ?_
              refine Gx.val rfl rfl rfl (val_lookup1 rfl Try.underlying38 Try.kI Try.ty3 rfl rfl (i := x3.who) (hwf) (k := 1) rfl (r := .int .i64 1) (by rw [getM_seen, if_pos hnew]; rfl)) ?_
              refine Gx.val rfl rfl rfl (val_add rfl rfl rfl (r := 2) (rfl)) ?_
              refine Gx.eff0 rfl rfl (eff_mapUpdate (vf := intV) rfl Try.underlying38 Try.kI intK rfl rfl rfl (i := x3.who) (r := 2) (hwf) (k := 1) rfl (by unfold maxLen; omega) (l' := [Hp.rec_ b4 [.int .i64 x3.who, .int .i64 x3.rnd, .int .u32 ((x3.to_ : Nat) : Int)], Hp.map Try.prog 3 intL intV b1 (putM ((cs.take k).map crE) x3.who 2)]) rfl) ?_
              rintro _ _ rfl
              refine Gx.done ?_
              refine Gx.thenN ?_
              refine Gx.seq ?_
              refine Gx.region ?_
              refine Gx.val rfl rfl rfl (val_move rfl rfl) ?_
              refine Gx.val rfl rfl rfl (Val.cast (val_fieldAddr rfl Try.underlying30 rfl Try.ty3 rfl rfl) (v' := ptr b4 0) rfl) ?_
              refine Gx.val rfl rfl rfl (val_load rfl Try.ty3 rfl rfl (cell_rec (k := 0) rfl rfl)) ?_
              refine Gx.val rfl rfl rfl (val_lookup1 rfl Try.underlying38 Try.kI Try.ty3 rfl rfl (i := x3.who) (hwf) (k := 1) rfl (r := .int .i64 2) (by rw [getM_put, if_pos rfl]; rfl)) ?_
              refine Gx.val rfl rfl rfl (Val.cast (val_gtr rfl rfl rfl) (v' := .bool true) rfl) ?_
              refine Gx.done ?_
              refine Gx.thenN ?_
              refine Gx.t rfl ?_
              refine Gx.seq ?_
              refine Gx.region ?_
              refine Gx.val rfl rfl rfl (val_assign rfl rfl) ?_
              refine Gx.done ?_
              refine Gx.thenN ?_
              refine Gx.ret ?_
              refine Gx.blkR ?_
              refine Gx.thenR ?_
              refine Gx.thenR ?_
              refine Gx.blkR ?_
              refine Gx.thenR ?_
              refine Gx.ret1 Try.results12 rfl ?_
              exact congrArg (Value.int .i64) (by rw [← he]; exact (wr_twice hx3 hbf hnew).symm)
            · refine Gx.region ?_
              refine Gx.val rfl rfl rfl (val_move rfl rfl) ?_
              refine Gx.val rfl rfl rfl (Val.cast (val_fieldAddr rfl Try.underlying30 rfl Try.ty3 rfl rfl) (v' := ptr b4 0) rfl) ?_
              refine Gx.val rfl rfl rfl (val_load rfl Try.ty3 rfl rfl (cell_rec (k := 0) rfl rfl)) ?_
              refine Gx.val rfl rfl rfl (val_lookup1 rfl Try.underlying38 Try.kI Try.ty3 rfl rfl (i := x3.who) (hwf) (k := 1) rfl (r := .int .i64 0) (by rw [getM_seen, if_neg hnew]; rfl)) ?_
              refine Gx.val rfl rfl rfl (val_add rfl rfl rfl (r := 1) (rfl)) ?_
              refine Gx.eff0 rfl rfl (eff_mapUpdate (vf := intV) rfl Try.underlying38 Try.kI intK rfl rfl rfl (i := x3.who) (r := 1) (hwf) (k := 1) rfl (by unfold maxLen; omega) (l' := [Hp.rec_ b4 [.int .i64 x3.who, .int .i64 x3.rnd, .int .u32 ((x3.to_ : Nat) : Int)], Hp.map Try.prog 3 intL intV b1 (putM ((cs.take k).map crE) x3.who 1)]) rfl) ?_
              rintro _ _ rfl
              refine Gx.done ?_
              refine Gx.thenN ?_
              refine Gx.seq ?_
              refine Gx.region ?_
              refine Gx.val rfl rfl rfl (val_move rfl rfl) ?_
              refine Gx.val rfl rfl rfl (Val.cast (val_fieldAddr rfl Try.underlying30 rfl Try.ty3 rfl rfl) (v' := ptr b4 0) rfl) ?_
              refine Gx.val rfl rfl rfl (val_load rfl Try.ty3 rfl rfl (cell_rec (k := 0) rfl rfl)) ?_
              refine Gx.val rfl rfl rfl (val_lookup1 rfl Try.underlying38 Try.kI Try.ty3 rfl rfl (i := x3.who) (hwf) (k := 1) rfl (r := .int .i64 1) (by rw [getM_put, if_pos rfl]; rfl)) ?_
              refine Gx.val rfl rfl rfl (Val.cast (val_gtr rfl rfl rfl) (v' := .bool false) rfl) ?_
              refine Gx.done ?_
              refine Gx.thenN ?_
              refine Gx.f rfl ?_
              refine Gx.skip ?_
              refine Gx.blkN ?_
              refine Gx.thenN ?_
              refine Gx.region ?_
              refine Gx.val rfl rfl rfl (val_add rfl rfl rfl (r := ((k + 1 : Nat) : Int)) (w64 (by omega) (by omega))) ?_
              refine Gx.val rfl rfl rfl (val_move rfl rfl) ?_
              refine Gx.done ?_
              refine Gx.thenN ?_
              refine Gx.drop 0 rfl ?_
              refine Gx.norm (l' := [Hp.map Try.prog 3 intL intV b1 ((cs.take (k + 1)).map crE)]) (by rw [take_of hx3, put_seen hnew] <;> rfl) ?_
              exact Gx.round (k + 1) ⟨by first | omega | (dsimp only; omega), by rw [← he, wr_go hx3 hbf hnew, whos_take hx3]⟩ (by first | omega | (dsimp only; omega)) ((.cons rfl (.cons rfl (.cons rfl (.cons rfl (.cons rfl (.cons rfl .nil))))))) rfl
  · refine Gx.exit ?_
    refine Gx.thenE ?_
    refine Gx.thenE ?_
    refine Gx.blkE ?_
    refine Gx.thenN ?_
    refine Gx.seq ?_
    refine Gx.region ?_
    refine Gx.val rfl rfl rfl (val_assign rfl rfl) ?_
    refine Gx.done ?_
    refine Gx.thenN ?_
    refine Gx.ret ?_
    refine Gx.ret1 Try.results12 rfl ?_
    exact congrArg (Value.int .i64) (by rw [← he]; exact (wr_end (by omega)).symm)

end Go.Proofs.Ytmkhjlmhobihmaa
