/- One transaction behind the other. No condition. -/
import Derived.Test.YtcepfpbhfobbeaaB2
namespace Go.Proofs.Ytcepfpbhfobbeaa
open Go.RowKit
set_option linter.unusedVariables false
set_option linter.unusedSimpArgs false
set_option maxRecDepth 100000

def grp (l : List An) (T : Nat) : List An := l.filter (fun a => decide (a.txn = T))
def mm (l : List An) : Nat → List An
  | 0 => []
  | n + 1 => mm l n ++ grp l (5 - n)
def aa (l : List An) : Nat → List Nat
  | 0 => []
  | n + 1 => aa l n ++ (if grp l (5 - n) = [] then [] else [5 - n])
def aP (l : List An) (n k : Nat) : List Nat := aa l n ++ (if grp (l.take k) (5 - n) = [] then [] else [5 - n])
section
variable {l : List An}
theorem grp_snoc {k T : Nat} {x : An} (hx : l[k]? = some x) : grp (l.take (k + 1)) T = grp (l.take k) T ++ (if x.txn = T then [x] else []) := by
  unfold grp
  rw [take_of hx, List.filter_append]
  by_cases e : x.txn = T <;> simp [e]
theorem aa_lt : ∀ {n t : Nat}, t ∈ aa l n → 6 ≤ t + n
  | 0, t, h => by cases h
  | n + 1, t, h => by
    rcases List.mem_append.1 h with h1 | h1
    · have := aa_lt h1; omega
    · split at h1
      · cases h1
      · simp at h1; omega
theorem aa_mem : ∀ {n t : Nat}, n ≤ 6 → (t ∈ aa l n ↔ t < 6 ∧ 6 ≤ t + n ∧ grp l t ≠ [])
  | 0, t, _ => ⟨fun h => (by cases h), fun h => (by omega)⟩
  | n + 1, t, hn => by
    show t ∈ aa l n ++ _ ↔ _
    rw [List.mem_append, aa_mem (n := n) (by omega)]
    constructor
    · rintro (h | h)
      · exact ⟨h.1, by omega, h.2.2⟩
      · split at h
        · cases h
        · rename_i hg; simp at h; subst h; exact ⟨by omega, by omega, hg⟩
    · rintro ⟨h1, h2, h3⟩
      by_cases e : t = 5 - n
      · right; subst e; rw [if_neg h3]; simp
      · exact .inl ⟨h1, by omega, h3⟩
theorem aa_nd : ∀ {n : Nat}, n ≤ 6 → (aa l n).Nodup
  | 0, _ => List.nodup_nil
  | n + 1, hn => by
    refine List.nodup_append.2 ⟨aa_nd (by omega), by split <;> simp, fun a ha b hb => ?_⟩
    have := aa_lt ha
    split at hb
    · cases hb
    · simp at hb; omega
theorem aP_mem {n k : Nat} (hn : n < 6) : 5 - n ∈ aP l n k ↔ grp (l.take k) (5 - n) ≠ [] := by
  unfold aP
  rw [List.mem_append]
  constructor
  · rintro (h | h)
    · have := aa_lt h; omega
    · split at h
      · cases h
      · assumption
  · intro h; right; rw [if_neg h]; simp
theorem aP_same {n k : Nat} {x : An} (hx : l[k]? = some x) (h : x.txn ≠ 5 - n ∨ grp (l.take k) (5 - n) ≠ []) : aP l n (k + 1) = aP l n k := by
  unfold aP
  rw [grp_snoc hx]
  by_cases e : x.txn = 5 - n
  · rw [if_pos e]
    have h2 := h.resolve_left (fun q => q e)
    rw [if_neg h2, if_neg (by simp)]
  · rw [if_neg e, List.append_nil]
theorem aP_new {n k : Nat} {x : An} (hx : l[k]? = some x) (h : x.txn = 5 - n) (h2 : grp (l.take k) (5 - n) = []) : aP l n (k + 1) = aP l n k ++ [5 - n] := by
  unfold aP
  rw [grp_snoc hx, if_pos h, h2, if_pos rfl, if_neg (by simp), List.append_nil]
theorem mm_mem : ∀ {n : Nat} {a : An}, n ≤ 6 → (a ∈ mm l n ↔ a ∈ l ∧ a.txn < 6 ∧ 6 ≤ a.txn + n)
  | 0, a, _ => ⟨fun h => (by cases h), fun h => (by omega)⟩
  | n + 1, a, hn => by
    show a ∈ mm l n ++ _ ↔ _
    rw [List.mem_append, mm_mem (n := n) (by omega)]
    unfold grp
    rw [List.mem_filter, decide_eq_true_iff]
    constructor
    · rintro (h | ⟨h1, h2⟩)
      · exact ⟨h.1, h.2.1, by omega⟩
      · exact ⟨h1, by omega, by omega⟩
    · rintro ⟨h1, h2, h3⟩
      by_cases e : a.txn = 5 - n
      · exact .inr ⟨h1, e⟩
      · exact .inl ⟨h1, h2, by omega⟩
theorem mm_desc : ∀ {n : Nat}, n ≤ 6 → (mm l n).Pairwise (fun a b => b.txn ≤ a.txn)
  | 0, _ => List.Pairwise.nil
  | n + 1, hn => by
    refine List.pairwise_append.2 ⟨mm_desc (by omega), ?_, fun a ha b hb => ?_⟩
    · refine List.Pairwise.imp_of_mem (R := fun _ _ => True) ?_ (List.pairwise_of_forall fun _ _ => trivial)
      intro a b ha hb _
      have h1 := (List.mem_filter.1 ha).2
      have h2 := (List.mem_filter.1 hb).2
      simp at h1 h2; omega
    · have h1 := (mm_mem (by omega)).1 ha
      have h2 := (List.mem_filter.1 hb).2
      simp at h2; omega
theorem cnt_split (T : Nat) : ∀ l : List An, (l.filter (fun a => decide (T + 1 ≤ a.txn))).length + (grp l T).length = (l.filter (fun a => decide (T ≤ a.txn))).length
  | [] => rfl
  | a :: l => by
    have ih := cnt_split T l
    unfold grp at ih ⊢
    simp only [List.filter_cons]
    by_cases h1 : a.txn = T
    · rw [if_neg (by simp; omega), if_pos (by simp [h1]), if_pos (by simp; omega)]; simp only [List.length_cons]; omega
    · by_cases h2 : T ≤ a.txn
      · rw [if_pos (by simp; omega), if_neg (by simp [h1]), if_pos (by simp [h2])]; simp only [List.length_cons]; omega
      · rw [if_neg (by simp; omega), if_neg (by simp [h1]), if_neg (by simp [h2])]; exact ih
theorem mm_cnt : ∀ {n : Nat}, n ≤ 6 → (mm l n).length ≤ (l.filter (fun a => decide (6 - n ≤ a.txn))).length
  | 0, _ => Nat.zero_le _
  | n + 1, hn => by
    have h1 := mm_cnt (n := n) (by omega)
    have h2 := cnt_split (5 - n) l
    rw [show 5 - n + 1 = 6 - n by omega] at h2
    show (mm l n ++ grp l (5 - n)).length ≤ _
    rw [List.length_append, show 6 - (n + 1) = 5 - n by omega]; omega
theorem mm_len {n : Nat} (hn : n ≤ 6) : (mm l n).length ≤ l.length := Nat.le_trans (mm_cnt hn) (List.length_filter_le ..)
theorem mm_ok (hok : OkN l) {n : Nat} (hn : n ≤ 6) : OkN (mm l n) := ⟨Nat.le_trans (mm_len hn) hok.len, fun i a ha => by
  obtain ⟨j, hj⟩ := List.getElem?_of_mem ((mm_mem hn).1 (List.mem_of_getElem? ha)).1
  exact hok.all j a hj⟩
theorem mm_acyc (hok : OkN l) : Acyc (mm l 6) := by
  refine ⟨fun t => 6 - t, fun a b ⟨j, i, x, y, hj, hx, hy, hc, e1, e2⟩ => ?_⟩
  have hp := List.pairwise_iff_getElem.1 (mm_desc (l := l) (n := 6) (Nat.le_refl _))
  obtain ⟨h1, rfl⟩ := List.getElem?_eq_some_iff.1 hx
  obtain ⟨h2, rfl⟩ := List.getElem?_eq_some_iff.1 hy
  have h3 := hp j i h1 h2 hj
  have h4 := (clashB_iff.1 hc).2.2.1
  have h5 := (mm_ok hok (Nat.le_refl 6)).all _ _ hx
  show 6 - a < 6 - b
  omega
theorem nodup_sub : ∀ (l l' : List Nat), l.Nodup → (∀ x ∈ l, x ∈ l') → l.length ≤ l'.length
  | [], _, _, _ => Nat.zero_le _
  | a :: l, l', hn, hs => by
    obtain ⟨h1, h2⟩ := List.nodup_cons.1 hn
    have := nodup_sub l (l'.erase a) h2 fun x hx => (List.mem_erase_of_ne (fun e => by subst e; exact h1 hx)).2 (hs x (by simp [hx]))
    have h3 := List.length_erase_of_mem (hs a (by simp))
    have h4 := List.length_pos_of_mem (hs a (by simp))
    simp only [List.length_cons]; omega
theorem one_len (hok : OkN l) {zs : List Nat} (h : Topo (Key (mm l 6)) (Edge (mm l 6)) zs) : zs.length = (aa l 6).length := by
  have key : ∀ t, t ∈ zs ↔ t ∈ aa l 6 := fun t => by
    rw [← h.key t, aa_mem (Nat.le_refl 6)]
    constructor
    · rintro ⟨i, x, hx, rfl⟩
      have h1 := (mm_mem (Nat.le_refl 6)).1 (List.mem_of_getElem? hx)
      refine ⟨h1.2.1, by omega, fun e => ?_⟩
      have : x ∈ grp l x.txn := List.mem_filter.2 ⟨h1.1, by simp⟩
      rw [e] at this; cases this
    · rintro ⟨h1, _, h2⟩
      obtain ⟨x, hx⟩ := List.exists_mem_of_ne_nil _ h2
      have hx2 := List.mem_filter.1 hx
      have ht : x.txn = t := by simpa using hx2.2
      obtain ⟨i, hi⟩ := List.getElem?_of_mem ((mm_mem (l := l) (n := 6) (Nat.le_refl 6)).2 ⟨hx2.1, by omega, by omega⟩)
      exact ⟨i, x, hi, ht⟩
  exact Nat.le_antisymm (nodup_sub _ _ h.nd fun x hx => (key x).1 hx) (nodup_sub _ _ (aa_nd (Nat.le_refl 6)) fun x hx => (key x).2 hx)
theorem aP_len (n k : Nat) : (aP l n k).length ≤ (aa l n).length + 1 := by unfold aP; rw [List.length_append]; split <;> simp
theorem aa_len {n : Nat} (hn : n ≤ 6) : (aa l n).length ≤ 6 := nodup_lt 6 _ (aa_nd hn) fun i hi => ((aa_mem hn).1 hi).1
end
def zi (l : List Nat) : List Int := l.map (Nat.cast : Nat → Int)
theorem zi_len (l : List Nat) : (zi l).length = l.length := List.length_map ..
theorem zi_snoc {xs : List Nat} {t : Nat} {z : Int} (h : z = (t : Int)) : zi (xs ++ [t]) = zi xs ++ [z] := by unfold zi; rw [List.map_append, h]; rfl
theorem zi_mem {l : List Nat} {t : Nat} {z : Int} (h : z = (t : Int)) : z ∈ zi l ↔ t ∈ l := by
  subst h
  unfold zi
  rw [List.mem_map]
  exact ⟨fun ⟨a, ha, e⟩ => by rw [show t = a by omega]; exact ha, fun h => ⟨t, h, rfl⟩⟩
theorem one_no {W : World} {hv : Value} {l : List Act} (hok : ¬ OkA l) (hs : SlS FR 3 W hv l) :
    Calls Try.prog 5 #[hv] W fun e w' => e = .returned (.bool true) ∧ Below W.heap.size W w' := by
  refine calls_pure (Gx.enter (l := []) Try.func5 rfl Try.ntmps5 rfl (Sat.start W) ?_)
  refine Gx.know (m' := [(0, hv)]) (.cons rfl .nil) ?_
  refine Gx.seq ?_
  refine Gx.region ?_
  refine Gx.val rfl rfl rfl (val_assign rfl rfl) ?_
  refine Gx.done ?_
  refine Gx.thenN ?_
  refine Gx.seq ?_
  refine Gx.seq ?_
  refine Gx.region ?_
  refine Gx.val rfl rfl rfl (val_move rfl rfl) ?_
  refine Gx.val rfl rfl rfl (val_call (vs := [hv]) rfl Try.fn9 rfl (fun w H => acts_no (hs.below H.below) hok)) ?_
  refine Gx.val rfl rfl rfl (Val.cast (val_not rfl rfl) (v' := .bool true) rfl) ?_
  refine Gx.done ?_
  refine Gx.thenN ?_
  refine Gx.t rfl ?_
  refine Gx.seq ?_
  refine Gx.region ?_
  refine Gx.val rfl rfl rfl (val_move rfl rfl) ?_
  refine Gx.eff rfl rfl rfl (eff_callE (vs := [hv]) rfl Try.fn8 rfl (R := fun v => ∃ (c : Int), v = .tuple #[.slice none 0 0, .bool false, .int .i64 c] ∧ c ≠ 0) (fun w H => serial_no hok (hs.below H.below))) ?_
  rintro _ _ ⟨⟨c1, rfl, hc1⟩, rfl⟩
  refine Gx.val rfl rfl rfl (val_move rfl rfl) ?_
  refine Gx.val rfl rfl rfl (val_extract rfl rfl rfl) ?_
  refine Gx.val rfl rfl rfl (val_extract rfl rfl rfl) ?_
  refine Gx.val rfl rfl rfl (val_extract rfl rfl rfl) ?_
  refine Gx.val rfl rfl rfl (val_assign rfl rfl) ?_
  refine Gx.val rfl rfl rfl (val_assign rfl rfl) ?_
  refine Gx.val rfl rfl rfl (val_assign rfl rfl) ?_
  refine Gx.done ?_
  refine Gx.thenN ?_
  refine Gx.seq ?_
  refine Gx.region ?_
  refine Gx.val rfl rfl rfl (val_move rfl rfl) ?_
  refine Gx.val rfl rfl rfl (val_neq rfl rfl rfl) ?_
  refine Gx.val rfl rfl rfl (val_assign rfl rfl) ?_
  refine Gx.done ?_
  refine Gx.thenN ?_
  refine Gx.ret ?_
  refine Gx.thenR ?_
  refine Gx.ret1 Try.results5 rfl ?_
  exact congrArg Value.bool (decide_eq_true (by assumption))

theorem one_ok {W : World} {hv : Value} {l : List An} (hok : OkN l) (hs : SlS FA 3 W hv l) :
    Calls Try.prog 5 #[hv] W fun e w' => e = .returned (.bool true) ∧ Below W.heap.size W w' := by
  have h60 := hok.len
  refine calls_pure (Gx.enter (l := []) Try.func5 rfl Try.ntmps5 rfl (Sat.start W) ?_)
  refine Gx.know (m' := [(0, hv)]) (.cons rfl .nil) ?_
  refine Gx.seq ?_
  refine Gx.region ?_
  refine Gx.val rfl rfl rfl (val_assign rfl rfl) ?_
  refine Gx.done ?_
  refine Gx.thenN ?_
  refine Gx.seq ?_
  refine Gx.seq ?_
  refine Gx.region ?_
  refine Gx.val rfl rfl rfl (val_move rfl rfl) ?_
  refine Gx.val rfl rfl rfl (val_call (vs := [hv]) rfl Try.fn9 rfl (fun w H => acts_ok (hs.below H.below) hok)) ?_
  refine Gx.val rfl rfl rfl (Val.cast (val_not rfl rfl) (v' := .bool false) rfl) ?_
  refine Gx.done ?_
  refine Gx.thenN ?_
  refine Gx.f rfl ?_
  refine Gx.skip ?_
  refine Gx.thenN ?_
  refine Gx.seq ?_
  refine Gx.region ?_
  refine Gx.val rfl rfl rfl (val_assign rfl rfl) ?_
  refine Gx.done ?_
  refine Gx.thenN ?_
  refine Gx.seq ?_
  refine Gx.region ?_
  refine Gx.val rfl rfl rfl (val_assign rfl rfl) ?_
  refine Gx.done ?_
  refine Gx.thenN ?_
  refine Gx.seq ?_
  refine Gx.seq ?_
  refine Gx.ownNil FZ 1 ?_
  refine Gx.ownNil FA 3 ?_
  refine Gx.norm (l' := [Hp.own FA 3 (.slice none 0 0) (mm l 0), Hp.own FZ 1 (.slice none 0 0) (zi (aa l 0))]) rfl ?_
  refine Gx.region ?_
  refine Gx.val rfl rfl rfl (val_assign rfl rfl) ?_
  refine Gx.done ?_
  refine Gx.thenN ?_
  refine Gx.block ?_
  refine Gx.loop (ι := Nat × Value × Value) (fun ξ => (ξ.1 ≤ 6)) (fun ξ => [(0, hv), (6, ξ.2.1), (7, ξ.2.2), (8, .int .i64 (5 - ((ξ.1 : Nat) : Int)))]) (fun ξ => [Hp.own FA 3 ξ.2.1 (mm l ξ.1), Hp.own FZ 1 ξ.2.2 (zi (aa l ξ.1))]) (fun ξ => 6 - ξ.1) (0, (.slice none 0 0), (.slice none 0 0)) (by first | omega | (dsimp only; omega)) ((.cons rfl (.cons rfl (.cons rfl (.cons rfl .nil))))) rfl ?_
  rintro ⟨n, mv, av⟩ hn
  dsimp only at hn
  refine Gx.know (m' := [(0, hv), (6, mv), (7, av), (8, .int .i64 (5 - ((n : Nat) : Int)))]) (.cons rfl (.cons rfl (.cons rfl (.cons rfl .nil)))) (Gx.norm (l' := [Hp.own FA 3 mv (mm l n), Hp.own FZ 1 av (zi (aa l n))]) rfl ?_)
  have hml := mm_len (l := l) hn
  have hal := aa_len (l := l) hn
  refine Gx.seq ?_
  refine Gx.seq ?_
  refine Gx.region ?_
  refine Gx.val rfl rfl rfl (val_move rfl rfl) ?_
  refine Gx.val rfl rfl rfl (val_geq rfl rfl rfl) ?_
  refine Gx.done ?_
  refine Gx.thenN ?_
  refine Gx.dec rfl (fun h1 => ?_) (fun h1 => ?_)
  · refine Gx.skip ?_
    refine Gx.thenN ?_
    refine Gx.seq ?_
    refine Gx.block ?_
    refine Gx.seq ?_
    refine Gx.norm (l' := [Hp.own FA 3 mv (mm l n ++ grp (l.take 0) (5 - n)), Hp.own FZ 1 av (zi (aP l n 0))]) (by rw [show aP l n 0 = aa l n by unfold aP; simp [grp], show grp (l.take 0) (5 - n) = [] by simp [grp], List.append_nil] <;> rfl) ?_
    refine Gx.region ?_
    refine Gx.val rfl rfl rfl (val_move rfl rfl) ?_
    refine Gx.val rfl rfl rfl (val_len rfl Try.underlying22 rfl (len_base hs)) ?_
    refine Gx.val rfl rfl rfl (val_move rfl rfl) ?_
    refine Gx.done ?_
    refine Gx.thenN ?_
    refine Gx.block ?_
    refine Gx.loop (ι := Nat × Value × Value) (fun ξ => (ξ.1 ≤ l.length)) (fun ξ => [(0, hv), (6, ξ.2.1), (7, ξ.2.2), (8, .int .i64 (5 - ((n : Nat) : Int))), (29, hv), (30, .int .i64 ((l.length : Nat) : Int)), (31, .int .i64 ((ξ.1 : Nat) : Int))]) (fun ξ => [Hp.own FA 3 ξ.2.1 (mm l n ++ grp (l.take ξ.1) (5 - n)), Hp.own FZ 1 ξ.2.2 (zi (aP l n ξ.1))]) (fun ξ => l.length - ξ.1) (0, mv, av) (by first | omega | (dsimp only; omega)) ((.cons rfl (.cons rfl (.cons rfl (.cons rfl (.cons rfl (.cons rfl (.cons rfl .nil)))))))) rfl ?_
    rintro ⟨k, mw, aw⟩ hk
    dsimp only at hk
    refine Gx.know (m' := [(0, hv), (6, mw), (7, aw), (8, .int .i64 (5 - ((n : Nat) : Int))), (29, hv), (30, .int .i64 ((l.length : Nat) : Int)), (31, .int .i64 ((k : Nat) : Int))]) (.cons rfl (.cons rfl (.cons rfl (.cons rfl (.cons rfl (.cons rfl (.cons rfl .nil))))))) (Gx.norm (l' := [Hp.own FA 3 mw (mm l n ++ grp (l.take k) (5 - n)), Hp.own FZ 1 aw (zi (aP l n k))]) rfl ?_)
    have hgl : (grp (l.take k) (5 - n)).length ≤ l.length := Nat.le_trans (List.length_filter_le ..) (by rw [List.length_take]; omega)
    have hgm : (mm l n ++ grp (l.take k) (5 - n)).length ≤ 120 := by rw [List.length_append]; omega
    have hap := aP_len (l := l) n k
    have hzl : (zi (aP l n k)).length ≤ 7 := by rw [zi_len]; omega
    refine Gx.seq ?_
    refine Gx.region ?_
    refine Gx.val rfl rfl rfl (val_lss rfl rfl rfl) ?_
    refine Gx.done ?_
    refine Gx.thenN ?_
    refine Gx.seq ?_
    refine Gx.dec rfl (fun h2 => ?_) (fun h2 => ?_)
    · refine Gx.skip ?_
      refine Gx.thenN ?_
      refine Gx.seq ?_
      refine Gx.block ?_
      refine Gx.seq ?_
      refine Gx.region ?_
      obtain ⟨x3, hx3⟩ := get_of_lt (xs := l) (k := k) (by omega)
      refine Gx.val rfl rfl rfl (val_ixa rfl Try.underlying22 Try.ty30 rfl rfl (j := k) (rfl) (reach_base hs hx3)) ?_
      refine Gx.val rfl rfl rfl (Val.cast (val_loadA rfl Try.ty30 rfl rfl rfl (cells_base hs hx3)) (v' := .agg #[.int .i64 x3.kind, .int .i64 ((x3.txn : Nat) : Int), .int .i64 ((x3.item : Nat) : Int)]) rfl) ?_
      refine Gx.eff rfl rfl rfl (eff_alloc rfl Try.ty30 (vs := [.int .i64 0, .int .i64 0, .int .i64 0]) rfl) ?_
      rintro _ _ ⟨b4, rfl, rfl⟩
      refine Gx.eff0 rfl rfl (eff_store rfl Try.ty30 rfl rfl (us := [.int .i64 x3.kind, .int .i64 ((x3.txn : Nat) : Int), .int .i64 ((x3.item : Nat) : Int)]) rfl rfl rfl (k := 0) rfl (rfl) (vs' := [.int .i64 x3.kind, .int .i64 ((x3.txn : Nat) : Int), .int .i64 ((x3.item : Nat) : Int)]) (rfl) (l' := [Hp.rec_ b4 [.int .i64 x3.kind, .int .i64 ((x3.txn : Nat) : Int), .int .i64 ((x3.item : Nat) : Int)], Hp.own FA 3 mw (mm l n ++ grp (l.take k) (5 - n)), Hp.own FZ 1 aw (zi (aP l n k))]) rfl) ?_
      rintro _ _ rfl
      refine Gx.done ?_
      refine Gx.thenN ?_
      refine Gx.seq ?_
      refine Gx.region ?_
      refine Gx.val rfl rfl rfl (Val.cast (val_fieldAddr rfl Try.underlying30 rfl Try.ty3 rfl rfl) (v' := ptr b4 1) rfl) ?_
      refine Gx.val rfl rfl rfl (val_load rfl Try.ty3 rfl rfl (cell_rec (k := 0) rfl rfl)) ?_
      refine Gx.val rfl rfl rfl (val_move rfl rfl) ?_
      refine Gx.val rfl rfl rfl (val_eql rfl rfl rfl) ?_
      refine Gx.done ?_
      refine Gx.thenN ?_
      refine Gx.dec rfl (fun h5 => ?_) (fun h5 => ?_)
      · refine Gx.seq ?_
        refine Gx.region ?_
        refine Gx.val rfl rfl rfl (val_move rfl rfl) ?_
        refine Gx.val rfl rfl rfl (Val.cast (val_loadA rfl Try.ty30 rfl rfl rfl (cells_rec (k := 0) rfl)) (v' := .agg #[.int .i64 x3.kind, .int .i64 ((x3.txn : Nat) : Int), .int .i64 ((x3.item : Nat) : Int)]) rfl) ?_
        refine Gx.eff rfl rfl rfl (eff_buildSlice rfl (qs := [(0, .agg #[.int .i64 x3.kind, .int .i64 ((x3.txn : Nat) : Int), .int .i64 ((x3.item : Nat) : Int)])]) rfl rfl (cs := #[.int .i64 x3.kind, .int .i64 ((x3.txn : Nat) : Int), .int .i64 ((x3.item : Nat) : Int)]) (vs := [.int .i64 x3.kind, .int .i64 ((x3.txn : Nat) : Int), .int .i64 ((x3.item : Nat) : Int)]) (E := 30) rfl (fun w => by first | (go_simp; done) | (go_simp; rfl))) ?_
        rintro _ _ ⟨b6, rfl, rfl⟩
        refine Gx.eff rfl rfl rfl (eff_push (r := x3) rfl Try.eA FA_len FA_one rfl rfl (k := 0) rfl rfl (k' := 1) rfl (by omega) (by omega)) ?_
        rintro v7 _ ⟨hiv7, rfl⟩
        refine Gx.norm (l' := [Hp.rec_ b4 [.int .i64 x3.kind, .int .i64 ((x3.txn : Nat) : Int), .int .i64 ((x3.item : Nat) : Int)], Hp.own FA 3 v7 ((mm l n ++ grp (l.take k) (5 - n)) ++ [x3]), Hp.own FZ 1 aw (zi (aP l n k))]) rfl ?_
        refine Gx.val rfl rfl rfl (val_assign rfl rfl) ?_
        refine Gx.done ?_
        refine Gx.thenN ?_
        refine Gx.seq ?_
        refine Gx.region ?_
        refine Gx.val rfl rfl rfl (val_move rfl rfl) ?_
        refine Gx.val rfl rfl rfl (val_move rfl rfl) ?_
        refine Gx.val rfl rfl rfl (val_call (vs := [aw, .int .i64 (5 - ((n : Nat) : Int))]) rfl Try.fn12 rfl (fun w H => pos_any (5 - ((n : Nat) : Int)) ((H.at_ (k := 2) rfl).sls (by omega)))) ?_
        refine Gx.val rfl rfl rfl (val_lss rfl rfl rfl) ?_
        refine Gx.done ?_
        refine Gx.thenN ?_
        refine Gx.dec rfl (fun h8 => ?_) (fun h8 => ?_)
        · refine Gx.region ?_
          refine Gx.val rfl rfl rfl (val_move rfl rfl) ?_
          refine Gx.val rfl rfl rfl (val_move rfl rfl) ?_
          refine Gx.eff rfl rfl rfl (eff_buildSlice rfl (qs := [(0, .int .i64 (5 - ((n : Nat) : Int)))]) rfl rfl (cs := #[.int .i64 (5 - ((n : Nat) : Int))]) (vs := [.int .i64 (5 - ((n : Nat) : Int))]) (E := 3) rfl (fun w => by first | (go_simp; done) | (go_simp; rfl))) ?_
          rintro _ _ ⟨b9, rfl, rfl⟩
          refine Gx.eff rfl rfl rfl (eff_push (r := (5 - ((n : Nat) : Int))) rfl Try.eN FZ_len FZ_one rfl rfl (k := 0) rfl rfl (k' := 2) rfl (by omega) (by omega)) ?_
          rintro v10 _ ⟨hiv10, rfl⟩
          refine Gx.norm (l' := [Hp.rec_ b4 [.int .i64 x3.kind, .int .i64 ((x3.txn : Nat) : Int), .int .i64 ((x3.item : Nat) : Int)], Hp.own FA 3 v7 ((mm l n ++ grp (l.take k) (5 - n)) ++ [x3]), Hp.own FZ 1 v10 ((zi (aP l n k)) ++ [(5 - ((n : Nat) : Int))])]) rfl ?_
          refine Gx.val rfl rfl rfl (val_assign rfl rfl) ?_
          refine Gx.done ?_
          refine Gx.blkN ?_
          refine Gx.thenN ?_
          refine Gx.region ?_
          refine Gx.val rfl rfl rfl (val_add rfl rfl rfl (r := ((k + 1 : Nat) : Int)) (w64 (by omega) (by omega))) ?_
          refine Gx.val rfl rfl rfl (val_move rfl rfl) ?_
          refine Gx.done ?_
          refine Gx.thenN ?_
          refine Gx.drop 0 rfl ?_
          have hpm := pos_mem (xs := (zi (aP l n k))) (z := (5 - ((n : Nat) : Int)))
          rw [zi_mem (t := 5 - n) (by omega), aP_mem (by omega)] at hpm
          refine Gx.norm (l' := [Hp.own FA 3 v7 (mm l n ++ grp (l.take (k + 1)) (5 - n)), Hp.own FZ 1 v10 (zi (aP l n (k + 1)))]) (by rw [grp_snoc hx3, if_pos (show x3.txn = 5 - n by omega), aP_new hx3 (by omega) (Classical.byContradiction fun q => by have := hpm.2 q; omega), zi_snoc (xs := aP l n k) (t := 5 - n) (z := (5 - ((n : Nat) : Int))) (by omega), List.append_assoc] <;> rfl) ?_
          exact Gx.round (k + 1, v7, v10) (by first | omega | (dsimp only; omega)) (by first | omega | (dsimp only; omega)) ((.cons rfl (.cons rfl (.cons rfl (.cons rfl (.cons rfl (.cons rfl (.cons rfl .nil)))))))) rfl
        · refine Gx.skip ?_
          refine Gx.blkN ?_
          refine Gx.thenN ?_
          refine Gx.region ?_
          refine Gx.val rfl rfl rfl (val_add rfl rfl rfl (r := ((k + 1 : Nat) : Int)) (w64 (by omega) (by omega))) ?_
          refine Gx.val rfl rfl rfl (val_move rfl rfl) ?_
          refine Gx.done ?_
          refine Gx.thenN ?_
          refine Gx.drop 0 rfl ?_
          have hpm := pos_mem (xs := (zi (aP l n k))) (z := (5 - ((n : Nat) : Int)))
          rw [zi_mem (t := 5 - n) (by omega), aP_mem (by omega)] at hpm
          refine Gx.norm (l' := [Hp.own FA 3 v7 (mm l n ++ grp (l.take (k + 1)) (5 - n)), Hp.own FZ 1 aw (zi (aP l n (k + 1)))]) (by rw [grp_snoc hx3, if_pos (show x3.txn = 5 - n by omega), aP_same hx3 (.inr (hpm.1 (by omega))), List.append_assoc] <;> rfl) ?_
          exact Gx.round (k + 1, v7, aw) (by first | omega | (dsimp only; omega)) (by first | omega | (dsimp only; omega)) ((.cons rfl (.cons rfl (.cons rfl (.cons rfl (.cons rfl (.cons rfl (.cons rfl .nil)))))))) rfl
      · refine Gx.skip ?_
        refine Gx.blkN ?_
        refine Gx.thenN ?_
        refine Gx.region ?_
        refine Gx.val rfl rfl rfl (val_add rfl rfl rfl (r := ((k + 1 : Nat) : Int)) (w64 (by omega) (by omega))) ?_
        refine Gx.val rfl rfl rfl (val_move rfl rfl) ?_
        refine Gx.done ?_
        refine Gx.thenN ?_
        refine Gx.drop 0 rfl ?_
        refine Gx.norm (l' := [Hp.own FA 3 mw (mm l n ++ grp (l.take (k + 1)) (5 - n)), Hp.own FZ 1 aw (zi (aP l n (k + 1)))]) (by rw [grp_snoc hx3, if_neg (show ¬ x3.txn = 5 - n by omega), List.append_nil, aP_same hx3 (.inl (by omega))] <;> rfl) ?_
        exact Gx.round (k + 1, mw, aw) (by first | omega | (dsimp only; omega)) (by first | omega | (dsimp only; omega)) ((.cons rfl (.cons rfl (.cons rfl (.cons rfl (.cons rfl (.cons rfl (.cons rfl .nil)))))))) rfl
    · refine Gx.exit ?_
      refine Gx.thenE ?_
      refine Gx.thenE ?_
      refine Gx.blkE ?_
      refine Gx.blkN ?_
      refine Gx.thenN ?_
      refine Gx.region ?_
      refine Gx.val rfl rfl rfl (val_move rfl rfl) ?_
      refine Gx.val rfl rfl rfl (val_sub rfl rfl rfl (r := (5 - ((n + 1 : Nat) : Int))) (w64 (by omega) (by omega))) ?_
      refine Gx.val rfl rfl rfl (val_assign rfl rfl) ?_
      refine Gx.done ?_
      refine Gx.thenN ?_
      refine Gx.norm (l' := [Hp.own FA 3 mw (mm l (n + 1)), Hp.own FZ 1 aw (zi (aa l (n + 1)))]) (by rw [show k = l.length by omega, List.take_length, show aP l n l.length = aa l (n + 1) by unfold aP; rw [List.take_length]; rfl] <;> rfl) ?_
      exact Gx.round ((n + 1), mw, aw) (by first | omega | (dsimp only; omega)) (by first | omega | (dsimp only; omega)) ((.cons rfl (.cons rfl (.cons rfl (.cons rfl .nil))))) rfl
  · refine Gx.exit ?_
    refine Gx.thenE ?_
    refine Gx.thenE ?_
    refine Gx.blkE ?_
    refine Gx.thenN ?_
    refine Gx.seq ?_
    obtain rfl : n = 6 := by omega
    refine Gx.norm (l' := [Hp.own FA 3 mv (mm l 6), Hp.own FZ 1 av (zi (aa l 6))]) rfl ?_
    have hzl6 : (zi (aa l 6)).length ≤ 6 := by rw [zi_len]; exact hal
    refine Gx.region ?_
    refine Gx.val rfl rfl rfl (val_move rfl rfl) ?_
    refine Gx.callB rfl rfl rfl (vs := [mv]) rfl Try.fn8 rfl (R := SerZ (mm l 6)) (fun w H => serial_z (mm_ok hok (Nat.le_refl 6)) ((H.at_ (k := 0) rfl).sls (by omega))) ?_
    rintro _ W11 ⟨a9, n9, c9, b9, zs, rfl, hz, hr⟩ H12
    have hW13 := H12.below
    have hs14 := hs.below H12.below
    have hs15 := (H12.at_ (k := 0) rfl).sls (by first | omega | (simp; omega))
    have hs16 := (H12.at_ (k := 1) rfl).sls (by first | omega | (simp; omega))
    have hbt : b9 = true := (ser_acyc hr).2 (mm_acyc hok)
    have hT := hr.1 hbt
    have hol := one_len hok hT
    refine Gx.val rfl rfl rfl (val_move rfl rfl) ?_
    refine Gx.val rfl rfl rfl (val_extract rfl rfl rfl) ?_
    refine Gx.val rfl rfl rfl (val_extract rfl rfl rfl) ?_
    refine Gx.val rfl rfl rfl (val_extract rfl rfl rfl) ?_
    refine Gx.val rfl rfl rfl (val_assign rfl rfl) ?_
    refine Gx.val rfl rfl rfl (val_assign rfl rfl) ?_
    refine Gx.val rfl rfl rfl (val_assign rfl rfl) ?_
    refine Gx.done ?_
    refine Gx.thenN ?_
    refine Gx.seq ?_
    refine Gx.region ?_
    refine Gx.val rfl rfl rfl (val_move rfl rfl) ?_
    refine Gx.val rfl rfl rfl (Val.cast (val_eql rfl rfl rfl) (v' := .bool true) rfl) ?_
    refine Gx.val rfl rfl rfl (val_move rfl rfl) ?_
    refine Gx.valg rfl rfl rfl rfl rfl (val_move rfl rfl) ?_
    refine Gx.val rfl rfl rfl (val_pickT rfl rfl rfl) ?_
    refine Gx.val rfl rfl rfl (val_move rfl rfl) ?_
    refine Gx.slot (t := 63) (v := .bool true) (look_boolT rfl (hbt)) ?_
    refine Gx.valg rfl rfl rfl rfl rfl (val_move rfl rfl) ?_
    refine Gx.valg rfl rfl rfl rfl rfl (val_len rfl Try.underlying23 rfl (len_base hz)) ?_
    refine Gx.valg rfl rfl rfl rfl rfl (val_move rfl rfl) ?_
    refine Gx.valg rfl rfl rfl rfl rfl (val_len rfl Try.underlying23 rfl (len_base hs16)) ?_
    refine Gx.valg rfl rfl rfl rfl rfl (val_eql rfl rfl rfl) ?_
    refine Gx.val rfl rfl rfl (val_pickT rfl rfl rfl) ?_
    refine Gx.val rfl rfl rfl (val_move rfl rfl) ?_
    refine Gx.cases (t := 70) rfl (fun h17 => ?_) (fun h17 => ?_)
    · refine Gx.valg rfl rfl rfl rfl rfl (val_move rfl rfl) ?_
      refine Gx.valg rfl rfl rfl rfl rfl (val_call (vs := [.slice a9 n9 c9]) rfl Try.fn13 rfl (fun w H => once_any (hz.below H.below))) ?_
      refine Gx.val rfl rfl rfl (val_pickT rfl rfl rfl) ?_
      refine Gx.val rfl rfl rfl (val_assign rfl rfl) ?_
      refine Gx.done ?_
      refine Gx.thenN ?_
      refine Gx.ret ?_
      refine Gx.ret1B hW13 Try.results5 rfl ?_
      exact congrArg Value.bool (decide_eq_true (topo_keeps hT).nd)
    · refine Gx.skipg rfl rfl rfl rfl rfl rfl ?_
      refine Gx.skipg rfl rfl rfl rfl rfl rfl ?_
      refine Gx.val rfl rfl rfl (val_pickF rfl rfl rfl) ?_
      refine Gx.val rfl rfl rfl (val_assign rfl rfl) ?_
      refine Gx.done ?_
      refine Gx.thenN ?_
      refine Gx.ret ?_
      refine Gx.ret1B hW13 Try.results5 rfl ?_
      exfalso; first | (simp_all; done) | (simp only [zi_len, List.length_map] at *; omega)

theorem one_any {W : World} {hv : Value} {r : List Act}  (hs : SlS FR 3 W hv r) : Calls Try.prog 5 #[hv] W fun e w' => e = .returned (.bool true) ∧ Below W.heap.size W w' := by
  by_cases hok : OkA r
  · obtain ⟨l, rfl, hn⟩ := raw_of hok
    exact one_ok  hn (sls_raw.1 hs)
  · exact one_no  hok hs

end Go.Proofs.Ytcepfpbhfobbeaa
