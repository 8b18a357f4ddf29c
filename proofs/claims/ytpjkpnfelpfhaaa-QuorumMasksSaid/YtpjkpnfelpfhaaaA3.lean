/- What may be a family; the least sets and what meets each of a family. The walks. No condition. -/
import Derived.Test.YtpjkpnfelpfhaaaM1
namespace Go.Proofs.Ytpjkpnfelpfhaaa
open Go.RowKit
set_option linter.unusedVariables false
set_option linter.unusedSimpArgs false
set_option maxRecDepth 100000

theorem shr_zero {w m : Nat} : w >>> m = 0 ↔ ∀ j, m ≤ j → w.testBit j = false := by
  constructor
  · intro h j hj
    have : (w >>> m).testBit (j - m) = false := by rw [h, Nat.zero_testBit]
    rw [Nat.testBit_shiftRight, show m + (j - m) = j by omega] at this; exact this
  · intro h
    refine Nat.eq_of_testBit_eq fun i => ?_
    rw [Nat.testBit_shiftRight, Nat.zero_testBit]; exact h _ (by omega)
theorem outs_c {w m : Nat} {W : World} (hx : w < 4294967296) (hm : m ≤ 12) : Calls Try.prog 17 #[.int .u32 ((w : Nat) : Int), .int .i64 ((m : Nat) : Int)] W fun e w' => e = .returned (.bool (decide (w >>> m ≠ 0))) ∧ Below W.heap.size W w' := by
  have e : outsideF w (m : Int) = decide (w >>> m ≠ 0) := by
    by_cases h : w >>> m = 0
    · rw [decide_eq_false (by simpa using h)]
      exact outside_yes fun j _ hj => shr_zero.1 h j (by omega)
    · rw [decide_eq_true h]
      obtain ⟨i, hi⟩ := bit_of h
      rw [Nat.testBit_shiftRight] at hi
      refine outside_no (j := m + i) ?_ (by omega) hi
      refine Classical.byContradiction fun q => ?_
      have : w.testBit (m + i) = false := Nat.testBit_lt_two_pow (Nat.lt_of_lt_of_le hx (show 2 ^ 32 ≤ 2 ^ (m + i) from Nat.pow_le_pow_right (by decide) (by omega)))
      rw [this] at hi; cases hi
  rw [← e]
  exact (outside_any w m W hx (by omega) (by omega)).mono fun e w' ⟨h, e2⟩ => by subst e2; exact ⟨h, Below.refl ..⟩
theorem fcheck_any {W : World} {n : Int} {qv : Value} {xs : List Nat} (hs : SlS FU 1 W qv xs) (hlt : ∀ x ∈ xs, x < 4294967296) :
    Calls Try.prog 20 #[.int .i64 n, qv] W fun e w' => ∃ v, e = .returned v ∧ (∃ c : Int, v = .int .i64 c ∧ (c = 0 ↔ Fmly n xs)) ∧ Below W.heap.size W w' := by
  have hm9 := sls_bd hs
  refine calls_rel (R := fun v => ∃ c : Int, v = .int .i64 c ∧ (c = 0 ↔ Fmly n xs)) (Gx.enter (l := []) Try.func20 rfl Try.ntmps20 rfl (Sat.start W) ?_)
  refine Gx.know (m' := [(0, .int .i64 n), (1, qv)]) (.cons rfl (.cons rfl .nil)) ?_
  refine Gx.seq ?_
  refine Gx.region ?_
  refine Gx.val rfl rfl rfl (val_assign rfl rfl) ?_
  refine Gx.done ?_
  refine Gx.thenN ?_
  refine Gx.seq ?_
  refine Gx.seq ?_
  refine Gx.region ?_
  refine Gx.val rfl rfl rfl (val_move rfl rfl) ?_
  refine Gx.val rfl rfl rfl (val_lss rfl rfl rfl) ?_
  refine Gx.val rfl rfl rfl (val_move rfl rfl) ?_
  refine Gx.cases (t := 9) rfl (fun h1 => ?_) (fun h1 => ?_)
  · refine Gx.skipg rfl rfl rfl rfl rfl rfl ?_
    refine Gx.skipg rfl rfl rfl rfl rfl rfl ?_
    refine Gx.val rfl rfl rfl (val_pickT rfl rfl rfl) ?_
    refine Gx.val rfl rfl rfl (val_move rfl rfl) ?_
    refine Gx.skipg rfl rfl rfl rfl rfl rfl ?_
    refine Gx.skipg rfl rfl rfl rfl rfl rfl ?_
    refine Gx.skipg rfl rfl rfl rfl rfl rfl ?_
    refine Gx.val rfl rfl rfl (val_pickT rfl rfl rfl) ?_
    refine Gx.done ?_
    refine Gx.thenN ?_
    refine Gx.t rfl ?_
    refine Gx.seq ?_
    refine Gx.region ?_
    refine Gx.val rfl rfl rfl (val_assign rfl rfl) ?_
    refine Gx.done ?_
    refine Gx.thenN ?_
    refine Gx.ret ?_
    refine Gx.thenR ?_
    refine Gx.ret1 Try.results20 rfl ?_
    exact ⟨_, rfl, ⟨fun h => absurd h (by decide), fun h => by have h1 := h.lo; have h2 := h.hi; have h3 := h.few; have h4 := h.some; omega⟩⟩
  · refine Gx.valg rfl rfl rfl rfl rfl (val_move rfl rfl) ?_
    refine Gx.valg rfl rfl rfl rfl rfl (val_gtr rfl rfl rfl) ?_
    refine Gx.val rfl rfl rfl (val_pickF rfl rfl rfl) ?_
    refine Gx.val rfl rfl rfl (val_move rfl rfl) ?_
    refine Gx.cases (t := 13) rfl (fun h2 => ?_) (fun h2 => ?_)
    · refine Gx.skipg rfl rfl rfl rfl rfl rfl ?_
      refine Gx.skipg rfl rfl rfl rfl rfl rfl ?_
      refine Gx.skipg rfl rfl rfl rfl rfl rfl ?_
      refine Gx.val rfl rfl rfl (val_pickT rfl rfl rfl) ?_
      refine Gx.done ?_
      refine Gx.thenN ?_
      refine Gx.t rfl ?_
      refine Gx.seq ?_
      refine Gx.region ?_
      refine Gx.val rfl rfl rfl (val_assign rfl rfl) ?_
      refine Gx.done ?_
      refine Gx.thenN ?_
      refine Gx.ret ?_
      refine Gx.thenR ?_
      refine Gx.ret1 Try.results20 rfl ?_
      exact ⟨_, rfl, ⟨fun h => absurd h (by decide), fun h => by have h1 := h.lo; have h2 := h.hi; have h3 := h.few; have h4 := h.some; omega⟩⟩
    · refine Gx.valg rfl rfl rfl rfl rfl (val_move rfl rfl) ?_
      refine Gx.valg rfl rfl rfl rfl rfl (val_len rfl Try.underlying22 rfl (len_base hs)) ?_
      refine Gx.valg rfl rfl rfl rfl rfl (val_gtr rfl rfl rfl) ?_
      refine Gx.val rfl rfl rfl (val_pickF rfl rfl rfl) ?_
      refine Gx.done ?_
      refine Gx.thenN ?_
      refine Gx.dec rfl (fun h3 => ?_) (fun h3 => ?_)
      · refine Gx.seq ?_
        refine Gx.region ?_
        refine Gx.val rfl rfl rfl (val_assign rfl rfl) ?_
        refine Gx.done ?_
        refine Gx.thenN ?_
        refine Gx.ret ?_
        refine Gx.thenR ?_
        refine Gx.ret1 Try.results20 rfl ?_
        exact ⟨_, rfl, ⟨fun h => absurd h (by decide), fun h => by have h1 := h.lo; have h2 := h.hi; have h3 := h.few; have h4 := h.some; omega⟩⟩
      · refine Gx.skip ?_
        refine Gx.thenN ?_
        refine Gx.seq ?_
        refine Gx.seq ?_
        refine Gx.region ?_
        refine Gx.val rfl rfl rfl (val_move rfl rfl) ?_
        refine Gx.val rfl rfl rfl (val_len rfl Try.underlying22 rfl (len_base hs)) ?_
        refine Gx.val rfl rfl rfl (val_eql rfl rfl rfl) ?_
        refine Gx.done ?_
        refine Gx.thenN ?_
        refine Gx.dec rfl (fun h4 => ?_) (fun h4 => ?_)
        · refine Gx.seq ?_
          refine Gx.region ?_
          refine Gx.val rfl rfl rfl (val_assign rfl rfl) ?_
          refine Gx.done ?_
          refine Gx.thenN ?_
          refine Gx.ret ?_
          refine Gx.thenR ?_
          refine Gx.ret1 Try.results20 rfl ?_
          exact ⟨_, rfl, ⟨fun h => absurd h (by decide), fun h => by have h1 := h.lo; have h2 := h.hi; have h3 := h.few; have h4 := h.some; omega⟩⟩
        · refine Gx.skip ?_
          refine Gx.thenN ?_
          refine Gx.seq ?_
          refine Gx.seq ?_
          obtain ⟨m, rfl⟩ : ∃ m : Nat, n = (m : Int) := ⟨n.toNat, by omega⟩
          refine Gx.region ?_
          refine Gx.val rfl rfl rfl (val_move rfl rfl) ?_
          refine Gx.val rfl rfl rfl (val_len rfl Try.underlying22 rfl (len_base hs)) ?_
          refine Gx.val rfl rfl rfl (val_move rfl rfl) ?_
          refine Gx.done ?_
          refine Gx.thenN ?_
          refine Gx.block ?_
          refine Gx.loop (ι := Nat) (fun ξ => (ξ ≤ xs.length) ∧ (∀ w ∈ xs.take ξ, w ≠ 0 ∧ w >>> m = 0)) (fun ξ => [(0, .int .i64 ((m : Nat) : Int)), (1, qv), (4, .int .i64 0), (21, qv), (22, .int .i64 ((xs.length : Nat) : Int)), (23, .int .i64 ((ξ : Nat) : Int))]) (fun ξ => []) (fun ξ => xs.length - ξ) 0 ⟨by first | omega | (dsimp only; omega), fun w h => by simp at h⟩ ((.cons rfl (.cons rfl (.cons rfl (.cons rfl (.cons rfl (.cons rfl .nil))))))) rfl ?_
          rintro i ⟨hi, hall⟩
          refine Gx.know (m' := [(0, .int .i64 ((m : Nat) : Int)), (1, qv), (4, .int .i64 0), (21, qv), (22, .int .i64 ((xs.length : Nat) : Int)), (23, .int .i64 ((i : Nat) : Int))]) (.cons rfl (.cons rfl (.cons rfl (.cons rfl (.cons rfl (.cons rfl .nil)))))) (Gx.norm (l' := []) rfl ?_)
          refine Gx.seq ?_
          refine Gx.region ?_
          refine Gx.val rfl rfl rfl (val_lss rfl rfl rfl) ?_
          refine Gx.done ?_
          refine Gx.thenN ?_
          refine Gx.seq ?_
          refine Gx.dec rfl (fun h5 => ?_) (fun h5 => ?_)
          · refine Gx.skip ?_
            refine Gx.thenN ?_
            refine Gx.seq ?_
            refine Gx.block ?_
            refine Gx.seq ?_
            obtain ⟨x, hx⟩ := get_of_lt (xs := xs) (k := i) (by omega)
            refine Gx.region ?_
            refine Gx.val rfl rfl rfl (val_ixa rfl Try.underlying22 Try.ty28 rfl rfl (j := i) (rfl) (reach_base hs hx)) ?_
            refine Gx.val rfl rfl rfl (val_load rfl Try.ty28 rfl rfl (cell_base (i := 0) hs hx rfl)) ?_
            refine Gx.val rfl rfl rfl (val_assign rfl rfl) ?_
            refine Gx.done ?_
            refine Gx.thenN ?_
            refine Gx.seq ?_
            refine Gx.region ?_
            refine Gx.val rfl rfl rfl (val_move rfl rfl) ?_
            refine Gx.val rfl rfl rfl (val_eql rfl rfl rfl) ?_
            refine Gx.val rfl rfl rfl (val_move rfl rfl) ?_
            refine Gx.cases (t := 29) rfl (fun h6 => ?_) (fun h6 => ?_)
            · refine Gx.skipg rfl rfl rfl rfl rfl rfl ?_
              refine Gx.skipg rfl rfl rfl rfl rfl rfl ?_
              refine Gx.skipg rfl rfl rfl rfl rfl rfl ?_
              refine Gx.val rfl rfl rfl (val_pickT rfl rfl rfl) ?_
              refine Gx.done ?_
              refine Gx.thenN ?_
              refine Gx.t rfl ?_
              refine Gx.seq ?_
              refine Gx.region ?_
              refine Gx.val rfl rfl rfl (val_assign rfl rfl) ?_
              refine Gx.done ?_
              refine Gx.thenN ?_
              refine Gx.ret ?_
              refine Gx.blkR ?_
              refine Gx.thenR ?_
              refine Gx.thenR ?_
              refine Gx.blkR ?_
              refine Gx.thenR ?_
              refine Gx.ret1 Try.results20 rfl ?_
              exact ⟨_, rfl, ⟨fun h => absurd h (by decide), fun h => by
                exfalso
                have := h.all x (List.mem_of_getElem? hx)
                rw [Int.toNat_natCast] at this
                have h1 := this.1; have h2 := this.2
                first | omega | contradiction | (simp_all; done)⟩⟩
            · refine Gx.valg rfl rfl rfl rfl rfl (val_move rfl rfl) ?_
              refine Gx.valg rfl rfl rfl rfl rfl (val_move rfl rfl) ?_
              refine Gx.valg rfl rfl rfl rfl rfl (val_call (vs := [.int .u32 ((x : Nat) : Int), .int .i64 ((m : Nat) : Int)]) rfl Try.fn17 rfl (fun w H => outs_c (hlt _ (List.mem_of_getElem? hx)) (by omega))) ?_
              refine Gx.val rfl rfl rfl (val_pickF rfl rfl rfl) ?_
              refine Gx.done ?_
              refine Gx.thenN ?_
              refine Gx.dec rfl (fun h7 => ?_) (fun h7 => ?_)
              · refine Gx.seq ?_
                refine Gx.region ?_
                refine Gx.val rfl rfl rfl (val_assign rfl rfl) ?_
                refine Gx.done ?_
                refine Gx.thenN ?_
                refine Gx.ret ?_
                refine Gx.blkR ?_
                refine Gx.thenR ?_
                refine Gx.thenR ?_
                refine Gx.blkR ?_
                refine Gx.thenR ?_
                refine Gx.ret1 Try.results20 rfl ?_
                exact ⟨_, rfl, ⟨fun h => absurd h (by decide), fun h => by
                  exfalso
                  have := h.all x (List.mem_of_getElem? hx)
                  rw [Int.toNat_natCast] at this
                  have h1 := this.1; have h2 := this.2
                  first | omega | contradiction | (simp_all; done)⟩⟩
              · refine Gx.skip ?_
                refine Gx.blkN ?_
                refine Gx.thenN ?_
                refine Gx.region ?_
                refine Gx.val rfl rfl rfl (val_add rfl rfl rfl (r := ((i + 1 : Nat) : Int)) (w64 (by omega) (by omega))) ?_
                refine Gx.val rfl rfl rfl (val_move rfl rfl) ?_
                refine Gx.done ?_
                refine Gx.thenN ?_
                exact Gx.round (i + 1) ⟨by first | omega | (dsimp only; omega), fun w hw => by
                  rw [take_snoc9 hx] at hw
                  rcases List.mem_append.1 hw with q | q
                  · exact hall w q
                  · rw [List.mem_singleton.1 q]; exact ⟨by omega, Classical.byContradiction (by assumption)⟩⟩ (by first | omega | (dsimp only; omega)) ((.cons rfl (.cons rfl (.cons rfl (.cons rfl (.cons rfl (.cons rfl .nil))))))) rfl
          · refine Gx.exit ?_
            refine Gx.thenE ?_
            refine Gx.thenE ?_
            refine Gx.blkE ?_
            refine Gx.thenN ?_
            refine Gx.seq ?_
            refine Gx.region ?_
            refine Gx.val rfl rfl rfl (val_assign rfl rfl) ?_
            refine Gx.done ?_
            refine Gx.thenN ?_
            refine Gx.ret ?_
            refine Gx.ret1 Try.results20 rfl ?_
            exact ⟨_, rfl, ⟨fun _ => ⟨by omega, by omega, by omega, by omega, fun w hw => by
              rw [Int.toNat_natCast]; exact hall w (by rw [List.take_of_length_le (by omega)]; exact hw)⟩, fun _ => rfl⟩⟩

theorem kfam_any {W : World} {n : Int} {qv : Value} {xs : List Nat} (hs : SlS FU 1 W qv xs) (hlt : ∀ x ∈ xs, x < 4294967296) :
    Calls Try.prog 9 #[.int .i64 n, qv] W fun e w' => ∃ v, e = .returned v ∧ (∃ b : Bool, v = .bool b ∧ (b = true ↔ Fmly n xs)) ∧ Below W.heap.size W w' := by
  refine calls_rel (R := fun v => ∃ b : Bool, v = .bool b ∧ (b = true ↔ Fmly n xs)) (Gx.enter (l := []) Try.func9 rfl Try.ntmps9 rfl (Sat.start W) ?_)
  refine Gx.know (m' := [(0, .int .i64 n), (1, qv)]) (.cons rfl (.cons rfl .nil)) ?_
  refine Gx.seq ?_
  refine Gx.region ?_
  refine Gx.val rfl rfl rfl (val_assign rfl rfl) ?_
  refine Gx.done ?_
  refine Gx.thenN ?_
  refine Gx.seq ?_
  refine Gx.region ?_
  refine Gx.val rfl rfl rfl (val_move rfl rfl) ?_
  refine Gx.val rfl rfl rfl (val_move rfl rfl) ?_
  refine Gx.eff rfl rfl rfl (eff_callE (vs := [.int .i64 n, qv]) rfl Try.fn20 rfl (R := fun v => ∃ c : Int, v = .int .i64 c ∧ (c = 0 ↔ Fmly n xs)) (fun w H => fcheck_any (hs.below H.below) hlt)) ?_
  rintro _ _ ⟨⟨cc, rfl, hcc⟩, rfl⟩
  refine Gx.val rfl rfl rfl (val_eql rfl rfl rfl) ?_
  refine Gx.val rfl rfl rfl (val_assign rfl rfl) ?_
  refine Gx.done ?_
  refine Gx.thenN ?_
  refine Gx.ret ?_
  refine Gx.ret1 Try.results9 rfl ?_
  exact ⟨_, rfl, by rw [decide_eq_true_iff]; exact hcc⟩

theorem Nx.snoc1 {bs : List Nat} {a b c j : Nat} (hb : bs[j]? = some b) (h : a &&& b ≠ 0) : Nx (bs.take (j + 1)) a c ↔ Nx (bs.take j) a c ∨ c = b := by
  unfold Nx
  rw [take_snoc9 hb]
  constructor
  · rintro ⟨x, hx, hc⟩
    rcases List.mem_append.1 hx with q | q
    · exact .inl ⟨x, q, hc⟩
    · obtain rfl := List.mem_singleton.1 q
      rcases hc with ⟨_, e⟩ | ⟨e, _⟩
      · exact .inr e
      · exact absurd e h
  · rintro (⟨x, hx, hc⟩ | rfl)
    · exact ⟨x, List.mem_append_left _ hx, hc⟩
    · exact ⟨c, by simp, .inl ⟨h, rfl⟩⟩
theorem Nx.snoc2 {bs : List Nat} {a b c j : Nat} (hb : bs[j]? = some b) (h : a &&& b = 0) : Nx (bs.take (j + 1)) a c ↔ Nx (bs.take j) a c ∨ ∃ i, a.testBit i = true ∧ c = b ||| 2 ^ i := by
  unfold Nx
  rw [take_snoc9 hb]
  constructor
  · rintro ⟨x, hx, hc⟩
    rcases List.mem_append.1 hx with q | q
    · exact .inl ⟨x, q, hc⟩
    · obtain rfl := List.mem_singleton.1 q
      rcases hc with ⟨e, _⟩ | ⟨_, e⟩
      · exact absurd h e
      · exact .inr e
  · rintro (⟨x, hx, hc⟩ | hc)
    · exact ⟨x, List.mem_append_left _ hx, hc⟩
    · exact ⟨b, by simp, .inr ⟨h, hc⟩⟩
theorem bit_lt12 {a i : Nat} (ha : a < 4096) (h : a.testBit i = true) : i < 12 := Classical.byContradiction fun q => by
  have := Nat.testBit_lt_two_pow (Nat.lt_of_lt_of_le ha (show 2 ^ 12 ≤ 2 ^ i from Nat.pow_le_pow_right (by decide) (by omega)))
  rw [this] at h; cases h
theorem or_lt12 {b i : Nat} (hb : b < 4096) (hi : i < 12) : b ||| 2 ^ i < 4096 := Nat.or_lt_two_pow (n := 12) hb (Nat.pow_lt_pow_right (by decide) hi)
theorem Nx.lt {bs : List Nat} {a c : Nat} (ha : a < 4096) (hb : ∀ b ∈ bs, b < 4096) (h : Nx bs a c) : c < 4096 := by
  obtain ⟨b, h1, h2⟩ := h
  rcases h2 with ⟨_, rfl⟩ | ⟨_, i, hi, rfl⟩
  · exact hb _ h1
  · exact or_lt12 (hb b h1) (bit_lt12 ha hi)
theorem Nx.some {bs : List Nat} {a b : Nat} (ha : a ≠ 0) (hb : b ∈ bs) : ∃ c, Nx bs a c := by
  by_cases q : a &&& b = 0
  · obtain ⟨i, hi⟩ := bit_of ha
    exact ⟨_, b, hb, .inr ⟨q, i, hi, rfl⟩⟩
  · exact ⟨_, b, hb, .inl ⟨q, rfl⟩⟩
theorem u32in {i : Int} {r : Nat} (e : i = (r : Int)) (h : r < 4294967296) : IntKind.u32.wrap i = (r : Int) := by
  subst e
  show ((r : Int) % 4294967296) = (r : Int)
  omega
theorem neg32 {w : Nat} (h0 : w ≠ 0) (h : w < 4294967296) : IntKind.u32.wrap (-((w : Nat) : Int)) = ((4294967296 - w : Nat) : Int) := by
  show (-(w : Int)) % 4294967296 = _
  omega
set_option maxHeartbeats 2000000 in
theorem blocks_any {W : World} {qv : Value} {xs : List Nat} (hs : SlS FU 1 W qv xs) (h0 : 0 < xs.length) (hl : xs.length ≤ 65000) (hall : ∀ x ∈ xs, x ≠ 0 ∧ x < 4096) :
    Calls Try.prog 21 #[qv] W (Ret W fun u l' => ∃ bl, IsS u ∧ IsBlk xs bl ∧ l' = [Hp.own FU 1 u bl]) := by
  refine Gx.enter (l := []) Try.func21 rfl Try.ntmps21 rfl (Sat.start W) ?_
  refine Gx.know (m' := [(0, qv)]) (.cons rfl .nil) ?_
  refine Gx.seq ?_
  refine Gx.region ?_
  refine Gx.val rfl rfl rfl (val_assign rfl rfl) ?_
  refine Gx.done ?_
  refine Gx.thenN ?_
  refine Gx.seq ?_
  refine Gx.region ?_
  refine Gx.eff rfl rfl rfl (eff_buildSlice rfl (qs := [(0, .int .u32 0)]) rfl rfl (cs := #[.int .u32 0]) (vs := [.int .u32 0]) (E := 28) rfl (fun w => by first | (go_simp; done) | (go_simp; rfl))) ?_
  rintro _ _ ⟨b1, rfl, rfl⟩
  refine Gx.val rfl rfl rfl (val_assign rfl rfl) ?_
  refine Gx.done ?_
  refine Gx.thenN ?_
  refine Gx.seq ?_
  refine Gx.seq ?_
  refine Gx.region ?_
  refine Gx.val rfl rfl rfl (val_move rfl rfl) ?_
  refine Gx.eff rfl rfl rfl (eff_callN (vs := [qv]) rfl Try.fn19 rfl (fun w H => least_any (hs.below H.below) h0 hl (fun x hx => by have := (hall x hx).2; omega))) ?_
  rintro lsv _ ⟨_, ⟨ls, hlsv, hls, rfl⟩, rfl⟩
  refine Gx.norm (l' := [Hp.own FU 1 lsv ls, Hp.rec_ b1 [.int .u32 0]]) rfl ?_
  refine Gx.val rfl rfl rfl (val_len rfl Try.underlying22 rfl (len_own (k := 0) rfl)) ?_
  refine Gx.val rfl rfl rfl (val_move rfl rfl) ?_
  refine Gx.done ?_
  refine Gx.thenN ?_
  refine Gx.block ?_
  refine Gx.part (k := 1) rfl (q := Hp.own FU 1 (.slice (some ⟨b1, 0, none⟩) 1 1) ([0])) (own_of_rec (f := FU) (xs := [0]) FU_len rfl) ?_
  refine Gx.norm (l' := [Hp.own FU 1 lsv ls, Hp.own FU 1 (.slice (some ⟨b1, 0, none⟩) 1 1) ([0])]) rfl ?_
  have hlall : ∀ a ∈ ls, a ≠ 0 ∧ a < 4096 := fun a ha => hall a ((hls.mem a).1 ha).1
  have hll : ls.length ≤ 4096 := by have := up_len (N := 4096) (lo := 0) hls.up (fun x hx => ⟨Nat.zero_le _, (hlall x hx).2⟩); omega
  refine Gx.front 1 rfl ?_
  refine Gx.loop (ι := Nat × Value × (List Nat)) (fun ξ => (ξ.1 ≤ ls.length) ∧ (IsS ξ.2.1) ∧ (IsBlk (ls.take ξ.1) ξ.2.2)) (fun ξ => [(3, ξ.2.1), (12, lsv), (13, .int .i64 ((ls.length : Nat) : Int)), (14, .int .i64 ((ξ.1 : Nat) : Int))]) (fun ξ => [Hp.own FU 1 ξ.2.1 ξ.2.2, Hp.own FU 1 lsv ls]) (fun ξ => ls.length - ξ.1) (0, .slice (some ⟨b1, 0, none⟩) 1 1, [0]) ⟨by first | omega | (dsimp only; omega), ⟨_, _, _, rfl⟩, blk_nil⟩ ((.cons rfl (.cons rfl (.cons rfl (.cons rfl .nil))))) rfl ?_
  rintro ⟨k, bv, bs⟩ ⟨hk, hbv, hblk⟩
  dsimp only at hk hbv hblk
  refine Gx.know (m' := [(3, bv), (12, lsv), (13, .int .i64 ((ls.length : Nat) : Int)), (14, .int .i64 ((k : Nat) : Int))]) (.cons rfl (.cons rfl (.cons rfl (.cons rfl .nil)))) (Gx.norm (l' := [Hp.own FU 1 bv bs, Hp.own FU 1 lsv ls]) rfl ?_)
  refine Gx.seq ?_
  refine Gx.region ?_
  refine Gx.val rfl rfl rfl (val_lss rfl rfl rfl) ?_
  refine Gx.done ?_
  refine Gx.thenN ?_
  refine Gx.seq ?_
  refine Gx.dec rfl (fun h2 => ?_) (fun h2 => ?_)
  · refine Gx.skip ?_
    refine Gx.thenN ?_
    refine Gx.seq ?_
    refine Gx.block ?_
    refine Gx.seq ?_
    obtain ⟨a, ha⟩ := get_of_lt (xs := ls) (k := k) (by omega)
    have hab := hlall a (List.mem_of_getElem? ha)
    have hAk : ∀ x ∈ ls.take k, x ≠ 0 ∧ x < 2 ^ 12 := fun x hx => hlall x (List.mem_of_mem_take hx)
    have hbslt : ∀ b ∈ bs, b < 4096 := fun b hb => hblk.lt (n := 12) (fun x hx => (hAk x hx).2) hb
    have hbsl : bs.length ≤ 4096 := by have := up_len (N := 4096) (lo := 0) hblk.up (fun x hx => ⟨Nat.zero_le _, hbslt x hx⟩); omega
    have hbs0 := hblk.pos hAk
    refine Gx.region ?_
    refine Gx.val rfl rfl rfl (val_ixa rfl Try.underlying22 Try.ty28 rfl rfl (j := k) (rfl) (reach_own (k := 1) rfl ha)) ?_
    refine Gx.val rfl rfl rfl (val_load rfl Try.ty28 rfl rfl (cell_own (i := 0) (k := 1) rfl ha rfl)) ?_
    refine Gx.val rfl rfl rfl (val_assign rfl rfl) ?_
    refine Gx.done ?_
    refine Gx.thenN ?_
    refine Gx.seq ?_
    refine Gx.region ?_
    refine Gx.val rfl rfl rfl (val_assign rfl rfl) ?_
    refine Gx.done ?_
    refine Gx.thenN ?_
    refine Gx.seq ?_
    refine Gx.seq ?_
    refine Gx.ownNil FU 1 ?_
    refine Gx.region ?_
    refine Gx.val rfl rfl rfl (val_move rfl rfl) ?_
    refine Gx.val rfl rfl rfl (val_len rfl Try.underlying22 rfl (len_own (k := 1) rfl)) ?_
    refine Gx.val rfl rfl rfl (val_move rfl rfl) ?_
    refine Gx.done ?_
    refine Gx.thenN ?_
    refine Gx.block ?_
    refine Gx.loop (ι := Nat × Value × (List Nat)) (fun ξ => (ξ.1 ≤ bs.length) ∧ (IsS ξ.2.1) ∧ (∀ c, c ∈ ξ.2.2 ↔ Nx (bs.take ξ.1) a c) ∧ (ξ.2.2.length ≤ 12 * ξ.1)) (fun ξ => [(3, bv), (5, .int .u32 ((a : Nat) : Int)), (12, lsv), (13, .int .i64 ((ls.length : Nat) : Int)), (14, .int .i64 ((k : Nat) : Int)), (18, bv), (19, .int .i64 ((bs.length : Nat) : Int)), (6, ξ.2.1), (20, .int .i64 ((ξ.1 : Nat) : Int))]) (fun ξ => [Hp.own FU 1 ξ.2.1 ξ.2.2, Hp.own FU 1 bv bs, Hp.own FU 1 lsv ls]) (fun ξ => bs.length - ξ.1) (0, .slice none 0 0, []) ⟨by first | omega | (dsimp only; omega), ⟨none, 0, 0, rfl⟩, fun c => ⟨fun h => by (cases h), fun ⟨b, h, _⟩ => by simp at h⟩, by simp⟩ ((.cons rfl (.cons rfl (.cons rfl (.cons rfl (.cons rfl (.cons rfl (.cons rfl (.cons rfl (.cons rfl .nil)))))))))) rfl ?_
    rintro ⟨j, nv, nx⟩ ⟨hj, hnv, hnx, hnl⟩
    dsimp only at hj hnv hnx hnl
    refine Gx.know (m' := [(3, bv), (5, .int .u32 ((a : Nat) : Int)), (12, lsv), (13, .int .i64 ((ls.length : Nat) : Int)), (14, .int .i64 ((k : Nat) : Int)), (18, bv), (19, .int .i64 ((bs.length : Nat) : Int)), (6, nv), (20, .int .i64 ((j : Nat) : Int))]) (.cons rfl (.cons rfl (.cons rfl (.cons rfl (.cons rfl (.cons rfl (.cons rfl (.cons rfl (.cons rfl .nil))))))))) (Gx.norm (l' := [Hp.own FU 1 nv nx, Hp.own FU 1 bv bs, Hp.own FU 1 lsv ls]) rfl ?_)
    refine Gx.seq ?_
    refine Gx.region ?_
    refine Gx.val rfl rfl rfl (val_lss rfl rfl rfl) ?_
    refine Gx.done ?_
    refine Gx.thenN ?_
    refine Gx.seq ?_
    refine Gx.dec rfl (fun h3 => ?_) (fun h3 => ?_)
    · refine Gx.skip ?_
      refine Gx.thenN ?_
      refine Gx.seq ?_
      refine Gx.block ?_
      refine Gx.seq ?_
      obtain ⟨b, hb⟩ := get_of_lt (xs := bs) (k := j) (by omega)
      have hb12 := hbslt b (List.mem_of_getElem? hb)
      refine Gx.region ?_
      refine Gx.val rfl rfl rfl (val_ixa rfl Try.underlying22 Try.ty28 rfl rfl (j := j) (rfl) (reach_own (k := 1) rfl hb)) ?_
      refine Gx.val rfl rfl rfl (val_load rfl Try.ty28 rfl rfl (cell_own (i := 0) (k := 1) rfl hb rfl)) ?_
      refine Gx.val rfl rfl rfl (val_assign rfl rfl) ?_
      refine Gx.done ?_
      refine Gx.thenN ?_
      refine Gx.seq ?_
      refine Gx.seq ?_
      refine Gx.region ?_
      refine Gx.val rfl rfl rfl (val_move rfl rfl) ?_
      refine Gx.val rfl rfl rfl (val_move rfl rfl) ?_
      refine Gx.val rfl rfl rfl (val_and rfl rfl rfl (and32 (by omega) (by omega))) ?_
      refine Gx.val rfl rfl rfl (val_neq rfl rfl rfl) ?_
      refine Gx.done ?_
      refine Gx.thenN ?_
      refine Gx.dec rfl (fun h4 => ?_) (fun h4 => ?_)
      · refine Gx.seq ?_
        have hm : a &&& b ≠ 0 := by omega
        refine Gx.region ?_
        refine Gx.val rfl rfl rfl (val_move rfl rfl) ?_
        refine Gx.val rfl rfl rfl (val_move rfl rfl) ?_
        refine Gx.eff rfl rfl rfl (eff_buildSlice rfl (qs := [(0, .int .u32 ((b : Nat) : Int))]) rfl rfl (cs := #[.int .u32 ((b : Nat) : Int)]) (vs := [.int .u32 ((b : Nat) : Int)]) (E := 28) rfl (fun w => by first | (go_simp; done) | (go_simp; rfl))) ?_
        rintro _ _ ⟨b5, rfl, rfl⟩
        refine Gx.eff rfl rfl rfl (eff_push (r := b) rfl Try.eU FU_len FU_one rfl rfl (k := 0) rfl rfl (k' := 0) rfl (by (try simp only [List.length_append, List.length_singleton]); omega) (by (try simp only [List.length_append, List.length_singleton]); omega)) ?_
        rintro v6 _ ⟨hiv6, rfl⟩
        refine Gx.norm (l' := [Hp.own FU 1 v6 (nx ++ [b]), Hp.own FU 1 bv bs, Hp.own FU 1 lsv ls]) rfl ?_
        refine Gx.val rfl rfl rfl (val_assign rfl rfl) ?_
        refine Gx.done ?_
        refine Gx.thenN ?_
        refine Gx.exit ?_
        refine Gx.thenE ?_
        refine Gx.blkE ?_
        refine Gx.thenN ?_
        refine Gx.region ?_
        refine Gx.val rfl rfl rfl (val_add rfl rfl rfl (r := ((j + 1 : Nat) : Int)) (w64 (by omega) (by omega))) ?_
        refine Gx.val rfl rfl rfl (val_move rfl rfl) ?_
        refine Gx.done ?_
        refine Gx.thenN ?_
        exact Gx.round (j + 1, v6, (nx ++ [b])) ⟨by first | omega | (dsimp only; omega), hiv6, fun c => by rw [List.mem_append, List.mem_singleton, hnx, Nx.snoc1 hb hm], by rw [List.length_append, List.length_singleton]; dsimp only; omega⟩ (by first | omega | (dsimp only; omega)) ((.cons rfl (.cons rfl (.cons rfl (.cons rfl (.cons rfl (.cons rfl (.cons rfl (.cons rfl (.cons rfl .nil)))))))))) rfl
      · refine Gx.skip ?_
        refine Gx.thenN ?_
        refine Gx.seq ?_
        have hm0 : a &&& b = 0 := by omega
        refine Gx.region ?_
        refine Gx.val rfl rfl rfl (val_move rfl rfl) ?_
        refine Gx.val rfl rfl rfl (val_assign rfl rfl) ?_
        refine Gx.done ?_
        refine Gx.thenN ?_
        refine Gx.block ?_
        refine Gx.loop (ι := Nat × Value × (List Nat) × Nat) (fun ξ => (ξ.1 < 4096) ∧ (∀ i, ξ.1.testBit i = true → a.testBit i = true) ∧ (IsS ξ.2.1) ∧ (∀ c, c ∈ ξ.2.2.1 ↔ c ∈ nx ∨ ∃ i, ξ.1.testBit i = false ∧ a.testBit i = true ∧ c = b ||| 2 ^ i) ∧ (ξ.2.2.1.length = nx.length + ξ.2.2.2) ∧ (∀ i, i < ξ.2.2.2 → ξ.1.testBit i = false) ∧ (ξ.2.2.2 ≤ 12)) (fun ξ => [(3, bv), (5, .int .u32 ((a : Nat) : Int)), (12, lsv), (13, .int .i64 ((ls.length : Nat) : Int)), (14, .int .i64 ((k : Nat) : Int)), (18, bv), (19, .int .i64 ((bs.length : Nat) : Int)), (6, ξ.2.1), (8, .int .u32 ((b : Nat) : Int)), (9, .int .u32 ((ξ.1 : Nat) : Int)), (20, .int .i64 ((j : Nat) : Int))]) (fun ξ => [Hp.own FU 1 ξ.2.1 ξ.2.2.1, Hp.own FU 1 bv bs, Hp.own FU 1 lsv ls]) (fun ξ => ξ.1) (a, nv, nx, 0) ⟨hab.2, fun i h => h, hnv, fun c => ⟨fun h => .inl h, fun h => by
          rcases h with h | ⟨i, h1, h2, _⟩
          · exact h
          · dsimp only at h1; rw [h1] at h2; cases h2⟩, by first | omega | (dsimp only; omega), fun i h => absurd h (Nat.not_lt_zero _), by first | omega | (dsimp only; omega)⟩ ((.cons rfl (.cons rfl (.cons rfl (.cons rfl (.cons rfl (.cons rfl (.cons rfl (.cons rfl (.cons rfl (.cons rfl (.cons rfl .nil)))))))))))) rfl ?_
        rintro ⟨w, nv2, nx2, t⟩ ⟨hw, hwa, hnv2, hmem, hlen, hlow, ht⟩
        dsimp only at hw hwa hnv2 hmem hlen hlow ht
        refine Gx.know (m' := [(3, bv), (5, .int .u32 ((a : Nat) : Int)), (12, lsv), (13, .int .i64 ((ls.length : Nat) : Int)), (14, .int .i64 ((k : Nat) : Int)), (18, bv), (19, .int .i64 ((bs.length : Nat) : Int)), (6, nv2), (8, .int .u32 ((b : Nat) : Int)), (9, .int .u32 ((w : Nat) : Int)), (20, .int .i64 ((j : Nat) : Int))]) (.cons rfl (.cons rfl (.cons rfl (.cons rfl (.cons rfl (.cons rfl (.cons rfl (.cons rfl (.cons rfl (.cons rfl (.cons rfl .nil))))))))))) (Gx.norm (l' := [Hp.own FU 1 nv2 nx2, Hp.own FU 1 bv bs, Hp.own FU 1 lsv ls]) rfl ?_)
        refine Gx.seq ?_
        refine Gx.seq ?_
        refine Gx.region ?_
        refine Gx.val rfl rfl rfl (val_move rfl rfl) ?_
        refine Gx.val rfl rfl rfl (val_neq rfl rfl rfl) ?_
        refine Gx.done ?_
        refine Gx.thenN ?_
        refine Gx.dec rfl (fun h7 => ?_) (fun h7 => ?_)
        · refine Gx.skip ?_
          refine Gx.thenN ?_
          refine Gx.seq ?_
          refine Gx.block ?_
          have hwn : w ≠ 0 := by omega
          obtain ⟨i, hi1, hi2⟩ := low_bit hwn
          have hi12 := bit_lt12 hw hi1
          have hti : t ≤ i := Classical.byContradiction fun q => by
            rw [hlow i (by omega)] at hi1; cases hi1
          have hor := or_lt12 hb12 hi12
          have hp2 : 2 ^ i < 4294967296 := Nat.pow_lt_pow_right (by decide) (by omega : i < 32)
          refine Gx.region ?_
          refine Gx.val rfl rfl rfl (val_move rfl rfl) ?_
          refine Gx.val rfl rfl rfl (val_move rfl rfl) ?_
          refine Gx.val rfl rfl rfl (val_move rfl rfl) ?_
          refine Gx.val rfl rfl rfl (val_move rfl rfl) ?_
          refine Gx.val rfl rfl rfl (val_neg rfl rfl (r := ((4294967296 - w : Nat) : Int)) (neg32 hwn (by omega))) ?_
          refine Gx.val rfl rfl rfl (val_and rfl rfl rfl ((and32 (by omega) (by omega)).trans (by rw [low_neg hi1 hi2 (by omega)]))) ?_
          refine Gx.val rfl rfl rfl (val_or rfl rfl rfl (or32 (by omega) hp2)) ?_
          refine Gx.eff rfl rfl rfl (eff_buildSlice rfl (qs := [(0, .int .u32 ((b ||| 2 ^ i : Nat) : Int))]) rfl rfl (cs := #[.int .u32 ((b ||| 2 ^ i : Nat) : Int)]) (vs := [.int .u32 ((b ||| 2 ^ i : Nat) : Int)]) (E := 28) rfl (fun w => by first | (go_simp; done) | (go_simp; rfl))) ?_
          rintro _ _ ⟨b8, rfl, rfl⟩
          refine Gx.eff rfl rfl rfl (eff_push (r := b ||| 2 ^ i) rfl Try.eU FU_len FU_one rfl rfl (k := 0) rfl rfl (k' := 0) rfl (by (try simp only [List.length_append, List.length_singleton]); omega) (by (try simp only [List.length_append, List.length_singleton]); omega)) ?_
          rintro v9 _ ⟨hiv9, rfl⟩
          refine Gx.norm (l' := [Hp.own FU 1 v9 (nx2 ++ [b ||| 2 ^ i]), Hp.own FU 1 bv bs, Hp.own FU 1 lsv ls]) rfl ?_
          refine Gx.val rfl rfl rfl (val_assign rfl rfl) ?_
          refine Gx.done ?_
          refine Gx.blkN ?_
          refine Gx.thenN ?_
          refine Gx.region ?_
          refine Gx.val rfl rfl rfl (val_move rfl rfl) ?_
          refine Gx.val rfl rfl rfl (val_move rfl rfl) ?_
          refine Gx.val rfl rfl rfl (val_sub rfl rfl rfl (r := ((w - 1 : Nat) : Int)) (u32in (by omega) (by omega))) ?_
          refine Gx.val rfl rfl rfl (val_and rfl rfl rfl (and32 (by omega) (by omega))) ?_
          refine Gx.val rfl rfl rfl (val_assign rfl rfl) ?_
          refine Gx.done ?_
          refine Gx.thenN ?_
          exact Gx.round (w &&& (w - 1), v9, (nx2 ++ [b ||| 2 ^ i]), t + 1) ⟨Nat.lt_of_le_of_lt Nat.and_le_left hw, fun i hi => by
            dsimp only at hi
            rw [low_drop hi1 hi2, Bool.and_eq_true] at hi; exact hwa i hi.1, hiv9, fun c => by
            dsimp only
            rw [List.mem_append, List.mem_singleton, hmem]
            constructor
            · rintro ((h | ⟨i', h1, h2, h3⟩) | h)
              · exact .inl h
              · exact .inr ⟨i', by rw [low_drop hi1 hi2, h1]; rfl, h2, h3⟩
              · exact .inr ⟨i, by rw [low_drop hi1 hi2]; simp, hwa i hi1, h⟩
            · rintro (h | ⟨i', h1, h2, h3⟩)
              · exact .inl (.inl h)
              · by_cases e : i' = i
                · subst e; exact .inr h3
                · refine .inl (.inr ⟨i', ?_, h2, h3⟩)
                  rw [low_drop hi1 hi2, decide_eq_true e, Bool.and_true] at h1; exact h1, by dsimp only; rw [List.length_append, List.length_singleton]; omega, fun i' h => by
            dsimp only at h ⊢
            rw [low_drop hi1 hi2]
            by_cases e : i' = i
            · subst e; simp
            · rw [show w.testBit i' = false from hi2 i' (by omega)]; rfl, by dsimp only; omega⟩ (by have := Nat.and_le_right (n := w) (m := w - 1); dsimp only; omega) ((.cons rfl (.cons rfl (.cons rfl (.cons rfl (.cons rfl (.cons rfl (.cons rfl (.cons rfl (.cons rfl (.cons rfl (.cons rfl .nil)))))))))))) rfl
        · refine Gx.exit ?_
          refine Gx.thenE ?_
          refine Gx.thenE ?_
          refine Gx.blkE ?_
          refine Gx.blkN ?_
          refine Gx.thenN ?_
          have hw0 : w = 0 := by omega
          refine Gx.region ?_
          refine Gx.val rfl rfl rfl (val_add rfl rfl rfl (r := ((j + 1 : Nat) : Int)) (w64 (by omega) (by omega))) ?_
          refine Gx.val rfl rfl rfl (val_move rfl rfl) ?_
          refine Gx.done ?_
          refine Gx.thenN ?_
          exact Gx.round (j + 1, nv2, nx2) ⟨by first | omega | (dsimp only; omega), hnv2, fun c => by
            rw [hmem, hnx, Nx.snoc2 hb hm0, hw0]
            simp only [Nat.zero_testBit, true_and], by dsimp only; omega⟩ (by first | omega | (dsimp only; omega)) ((.cons rfl (.cons rfl (.cons rfl (.cons rfl (.cons rfl (.cons rfl (.cons rfl (.cons rfl (.cons rfl .nil)))))))))) rfl
    · refine Gx.exit ?_
      refine Gx.thenE ?_
      refine Gx.thenE ?_
      refine Gx.blkE ?_
      refine Gx.thenN ?_
      have hje : j = bs.length := by omega
      have hnxE : ∀ c, c ∈ nx ↔ Nx bs a c := fun c => by rw [hnx, hje, List.take_length]
      have hnlt : ∀ x ∈ nx, x < 4096 := fun x hx => ((hnxE x).1 hx).lt hab.2 hbslt
      have hn0 : 0 < nx.length := by
        obtain ⟨b0, hb0⟩ := get_of_lt (xs := bs) (k := 0) hbs0
        obtain ⟨c, hc⟩ := Nx.some hab.1 (List.mem_of_getElem? hb0)
        exact List.length_pos_of_mem ((hnxE c).2 hc)
      refine Gx.region ?_
      refine Gx.val rfl rfl rfl (val_move rfl rfl) ?_
      refine Gx.eff rfl rfl rfl (eff_callN (vs := [nv]) rfl Try.fn19 rfl (fun w H => least_any ((H.at_ (k := 0) rfl).sls (by omega)) hn0 (by omega) (fun x hx => by have := hnlt x hx; omega))) ?_
      rintro bv2 _ ⟨_, ⟨bs2, hbv2, hbs2, rfl⟩, rfl⟩
      refine Gx.norm (l' := [Hp.own FU 1 bv2 bs2, Hp.own FU 1 nv nx, Hp.own FU 1 bv bs, Hp.own FU 1 lsv ls]) rfl ?_
      refine Gx.val rfl rfl rfl (val_assign rfl rfl) ?_
      refine Gx.done ?_
      refine Gx.blkN ?_
      refine Gx.thenN ?_
      refine Gx.drop 2 rfl ?_
      refine Gx.drop 1 rfl ?_
      refine Gx.region ?_
      refine Gx.val rfl rfl rfl (val_add rfl rfl rfl (r := ((k + 1 : Nat) : Int)) (w64 (by omega) (by omega))) ?_
      refine Gx.val rfl rfl rfl (val_move rfl rfl) ?_
      refine Gx.done ?_
      refine Gx.thenN ?_
      exact Gx.round (k + 1, bv2, bs2) ⟨by first | omega | (dsimp only; omega), hbv2, by rw [take_snoc9 ha]; exact blk_step hblk hnxE hbs2⟩ (by first | omega | (dsimp only; omega)) ((.cons rfl (.cons rfl (.cons rfl (.cons rfl .nil))))) rfl
  · refine Gx.exit ?_
    refine Gx.thenE ?_
    refine Gx.thenE ?_
    refine Gx.blkE ?_
    refine Gx.thenN ?_
    refine Gx.seq ?_
    refine Gx.region ?_
    refine Gx.val rfl rfl rfl (val_move rfl rfl) ?_
    refine Gx.val rfl rfl rfl (val_assign rfl rfl) ?_
    refine Gx.done ?_
    refine Gx.thenN ?_
    refine Gx.ret ?_
    refine Gx.drop 1 rfl ?_
    rw [List.take_of_length_le (by omega)] at hblk
    refine Gx.ret1 Try.results21 rfl ?_
    exact ⟨_, hbv, hblk.of_hit hls.hit, rfl⟩

end Go.Proofs.Ytpjkpnfelpfhaaa
