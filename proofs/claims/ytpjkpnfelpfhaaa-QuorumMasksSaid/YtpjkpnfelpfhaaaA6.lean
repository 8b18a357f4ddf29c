/- QuorumFull. The walk. No condition. -/
import Derived.Test.YtpjkpnfelpfhaaaA5
import Derived.Test.YtpjkpnfelpfhaaaB2
namespace Go.Proofs.Ytpjkpnfelpfhaaa
open Go.RowKit
set_option linter.unusedVariables false
set_option linter.unusedSimpArgs false
set_option maxRecDepth 100000

theorem Sysm.meet {n : Int} {q : List Nat} (h : Sysm n q) {a b : Nat} (ha : a ∈ q) (hb : b ∈ q) : a &&& b ≠ 0 := by
  obtain ⟨i, hi⟩ := List.mem_iff_getElem?.1 ha
  obtain ⟨j, hj⟩ := List.mem_iff_getElem?.1 hb
  rcases Nat.le_total i j with e | e
  · exact h.2 (a, b) ⟨i, j, e, hi, hj⟩
  · rw [Nat.and_comm]; exact h.2 (b, a) ⟨j, i, e, hj, hi⟩
def Cov (q : List Nat) (m w : Nat) : Prop := (∃ a ∈ q, a &&& w = a) ∨ ∃ a ∈ q, a &&& ((2 ^ m - 1) ^^^ ((2 ^ m - 1) &&& w)) = a
theorem comp_hit {q : List Nat} {n y : Nat} (hq : ∀ a ∈ q, a < 2 ^ n) (hno : ¬ ∃ a ∈ q, a &&& y = a) : Hit q ((2 ^ n - 1) ^^^ ((2 ^ n - 1) &&& y)) := fun a ha => by
  have h1 : ¬ a &&& y = a := fun e => hno ⟨a, ha, e⟩
  rw [in_iff] at h1
  obtain ⟨i, hi⟩ := Classical.not_forall.1 h1
  obtain ⟨hi1, hi2⟩ := Classical.not_imp.1 hi
  refine meet_iff.2 ⟨i, hi1, ?_⟩
  rw [diff_bit, Nat.testBit_two_pow_sub_one]
  have : i < n := Classical.byContradiction fun hn => by
    have := Nat.testBit_lt_two_pow (Nat.lt_of_lt_of_le (hq a ha) (show 2 ^ n ≤ 2 ^ i from Nat.pow_le_pow_right (by decide) (by omega)))
    rw [this] at hi1; cases hi1
  rw [decide_eq_true this]
  simpa using hi2
theorem comp_no {a n c : Nat} (h : a &&& ((2 ^ n - 1) ^^^ ((2 ^ n - 1) &&& c)) = a) : a &&& c = 0 := Classical.byContradiction fun h0 => by
  obtain ⟨i, h1, h2⟩ := meet_iff.1 h0
  have := in_iff.1 h i h1
  rw [diff_bit, h2] at this
  simp at this
theorem full_iff {q ls bl : List Nat} {n : Nat} (hq : ∀ a ∈ q, a < 2 ^ n) (hm : ∀ a ∈ q, ∀ b ∈ q, a &&& b ≠ 0) (hl : IsLeast q ls) (hb : IsBlk q bl) : ls = bl ↔ ∀ w, w < 2 ^ n → Cov q n w := by
  constructor
  · rintro rfl w hw
    by_cases h : ∃ a ∈ q, a &&& w = a
    · exact .inl h
    · obtain ⟨b, hbm, hbc⟩ := hb.below (comp_hit hq h)
      exact .inr ⟨b, ((hl.mem b).1 hbm).1, hbc⟩
  · intro h
    refine up_uniq hl.up hb.up fun x => ⟨fun hx => ?_, fun hx => ?_⟩
    · obtain ⟨h1, h2⟩ := (hl.mem x).1 hx
      refine (hb.mem x).2 ⟨fun a ha => hm a ha x h1, fun c hc hh => ?_⟩
      obtain ⟨g1, g2⟩ := ssub_iff.1 hc
      rcases h c (Nat.lt_of_le_of_lt (in_le g2) (hq x h1)) with ⟨a, ha, hac⟩ | ⟨a, ha, hac⟩
      · refine ssub_no.1 (h2 a ha) ⟨fun e => ?_, in_trans hac g2⟩
        subst e
        exact g1 (in_eq g2 hac)
      · exact hh a ha (comp_no hac)
    · obtain ⟨h1, h2⟩ := (hb.mem x).1 hx
      rcases h x (hb.lt hq hx) with ⟨a, ha, hax⟩ | ⟨a, ha, hax⟩
      · have e : a = x := Classical.byContradiction fun e => h2 a (ssub_iff.2 ⟨e, hax⟩) fun b hbm => hm b hbm a ha
        subst e
        refine (hl.mem a).2 ⟨ha, fun b hbm => ?_⟩
        cases e : ssub b a with
        | false => rfl
        | true => exact absurd (fun c hc => hm c hc b hbm) (h2 b e)
      · exact absurd (comp_no hax) (h1 a ha)
theorem scheck_any {W : World} {n : Int} {qv : Value} {xs : List Nat} (hs : SlS FU 1 W qv xs) (hlt : ∀ x ∈ xs, x < 4294967296) :
    Calls Try.prog 24 #[.int .i64 n, qv] W fun e w' => ∃ v, e = .returned v ∧ (∃ c : Int, v = .int .i64 c ∧ (c = 0 ↔ Sysm n xs)) ∧ Below W.heap.size W w' := by
  have hm9 := sls_bd hs
  refine calls_rel (R := fun v => ∃ c : Int, v = .int .i64 c ∧ (c = 0 ↔ Sysm n xs)) (Gx.enter (l := []) Try.func24 rfl Try.ntmps24 rfl (Sat.start W) ?_)
  refine Gx.know (m' := [(0, .int .i64 n), (1, qv)]) (.cons rfl (.cons rfl .nil)) ?_
  refine Gx.seq ?_
  refine Gx.region ?_
  refine Gx.val rfl rfl rfl (val_assign rfl rfl) ?_
  refine Gx.done ?_
  refine Gx.thenN ?_
  refine Gx.seq ?_
  refine Gx.region ?_
  refine Gx.val rfl rfl rfl (val_move rfl rfl) ?_
  refine Gx.val rfl rfl rfl (val_move rfl rfl) ?_
  refine Gx.eff rfl rfl rfl (eff_callE (vs := [.int .i64 n, qv]) rfl Try.fn20 rfl (R := fun v => ∃ c : Int, v = .int .i64 c ∧ (c = 0 ↔ Fmly n xs)) (fun w H => fcheck_any (hs.below H.below) hlt)) ?_
  rintro _ _ ⟨⟨cc, rfl, hcc⟩, rfl⟩
  refine Gx.val rfl rfl rfl (val_assign rfl rfl) ?_
  refine Gx.done ?_
  refine Gx.thenN ?_
  refine Gx.seq ?_
  refine Gx.seq ?_
  refine Gx.region ?_
  refine Gx.val rfl rfl rfl (val_move rfl rfl) ?_
  refine Gx.val rfl rfl rfl (val_neq rfl rfl rfl) ?_
  refine Gx.done ?_
  refine Gx.thenN ?_
  refine Gx.dec rfl (fun h1 => ?_) (fun h1 => ?_)
  · refine Gx.seq ?_
    refine Gx.region ?_
    refine Gx.val rfl rfl rfl (val_move rfl rfl) ?_
    refine Gx.val rfl rfl rfl (val_assign rfl rfl) ?_
    refine Gx.done ?_
    refine Gx.thenN ?_
    refine Gx.ret ?_
    refine Gx.thenR ?_
    refine Gx.ret1 Try.results24 rfl ?_
    exact ⟨_, rfl, ⟨fun h => by omega, fun h => by have := hcc.2 h.1; omega⟩⟩
  · refine Gx.skip ?_
    refine Gx.thenN ?_
    refine Gx.seq ?_
    refine Gx.seq ?_
    refine Gx.region ?_
    refine Gx.val rfl rfl rfl (val_move rfl rfl) ?_
    refine Gx.val rfl rfl rfl (val_len rfl Try.underlying22 rfl (len_base hs)) ?_
    refine Gx.val rfl rfl rfl (val_move rfl rfl) ?_
    refine Gx.done ?_
    refine Gx.thenN ?_
    refine Gx.block ?_
    refine Gx.loop (ι := Nat) (fun ξ => (ξ ≤ xs.length) ∧ (∀ (i j x y : Nat), i < ξ → xs[i]? = some x → xs[j]? = some y → x &&& y ≠ 0)) (fun ξ => [(1, qv), (4, .int .i64 0), (16, qv), (17, .int .i64 ((xs.length : Nat) : Int)), (18, .int .i64 ((ξ : Nat) : Int))]) (fun ξ => []) (fun ξ => xs.length - ξ) 0 ⟨by first | omega | (dsimp only; omega), fun i j x y h => absurd h (Nat.not_lt_zero _)⟩ ((.cons rfl (.cons rfl (.cons rfl (.cons rfl (.cons rfl .nil)))))) rfl ?_
    rintro k ⟨hk, hall⟩
    refine Gx.know (m' := [(1, qv), (4, .int .i64 0), (16, qv), (17, .int .i64 ((xs.length : Nat) : Int)), (18, .int .i64 ((k : Nat) : Int))]) (.cons rfl (.cons rfl (.cons rfl (.cons rfl (.cons rfl .nil))))) (Gx.norm (l' := []) rfl ?_)
    refine Gx.seq ?_
    refine Gx.region ?_
    refine Gx.val rfl rfl rfl (val_lss rfl rfl rfl) ?_
    refine Gx.done ?_
    refine Gx.thenN ?_
    refine Gx.seq ?_
    refine Gx.dec rfl (fun h2 => ?_) (fun h2 => ?_)
    · refine Gx.skip ?_
      refine Gx.thenN ?_
      refine Gx.seq ?_
      refine Gx.block ?_
      refine Gx.seq ?_
      obtain ⟨x, hx⟩ := get_of_lt (xs := xs) (k := k) (by omega)
      have hx9 := hlt x (List.mem_of_getElem? hx)
      refine Gx.region ?_
      refine Gx.val rfl rfl rfl (val_ixa rfl Try.underlying22 Try.ty28 rfl rfl (j := k) (rfl) (reach_base hs hx)) ?_
      refine Gx.val rfl rfl rfl (val_load rfl Try.ty28 rfl rfl (cell_base (i := 0) hs hx rfl)) ?_
      refine Gx.val rfl rfl rfl (val_assign rfl rfl) ?_
      refine Gx.done ?_
      refine Gx.thenN ?_
      refine Gx.seq ?_
      refine Gx.region ?_
      refine Gx.val rfl rfl rfl (val_move rfl rfl) ?_
      refine Gx.val rfl rfl rfl (val_len rfl Try.underlying22 rfl (len_base hs)) ?_
      refine Gx.val rfl rfl rfl (val_move rfl rfl) ?_
      refine Gx.done ?_
      refine Gx.thenN ?_
      refine Gx.block ?_
      refine Gx.loop (ι := Nat) (fun ξ => (ξ ≤ xs.length) ∧ (∀ (j y : Nat), j < ξ → xs[j]? = some y → x &&& y ≠ 0)) (fun ξ => [(1, qv), (4, .int .i64 0), (7, .int .u32 ((x : Nat) : Int)), (16, qv), (17, .int .i64 ((xs.length : Nat) : Int)), (18, .int .i64 ((k : Nat) : Int)), (22, qv), (23, .int .i64 ((xs.length : Nat) : Int)), (24, .int .i64 ((ξ : Nat) : Int))]) (fun ξ => []) (fun ξ => xs.length - ξ) 0 ⟨by first | omega | (dsimp only; omega), fun j y h => absurd h (Nat.not_lt_zero _)⟩ ((.cons rfl (.cons rfl (.cons rfl (.cons rfl (.cons rfl (.cons rfl (.cons rfl (.cons rfl (.cons rfl .nil)))))))))) rfl ?_
      rintro t ⟨ht, hin⟩
      refine Gx.know (m' := [(1, qv), (4, .int .i64 0), (7, .int .u32 ((x : Nat) : Int)), (16, qv), (17, .int .i64 ((xs.length : Nat) : Int)), (18, .int .i64 ((k : Nat) : Int)), (22, qv), (23, .int .i64 ((xs.length : Nat) : Int)), (24, .int .i64 ((t : Nat) : Int))]) (.cons rfl (.cons rfl (.cons rfl (.cons rfl (.cons rfl (.cons rfl (.cons rfl (.cons rfl (.cons rfl .nil))))))))) (Gx.norm (l' := []) rfl ?_)
      refine Gx.seq ?_
      refine Gx.region ?_
      refine Gx.val rfl rfl rfl (val_lss rfl rfl rfl) ?_
      refine Gx.done ?_
      refine Gx.thenN ?_
      refine Gx.seq ?_
      refine Gx.dec rfl (fun h3 => ?_) (fun h3 => ?_)
      · refine Gx.skip ?_
        refine Gx.thenN ?_
        refine Gx.seq ?_
        refine Gx.block ?_
        refine Gx.seq ?_
        obtain ⟨y, hy⟩ := get_of_lt (xs := xs) (k := t) (by omega)
        have hy9 := hlt y (List.mem_of_getElem? hy)
        refine Gx.region ?_
        refine Gx.val rfl rfl rfl (val_ixa rfl Try.underlying22 Try.ty28 rfl rfl (j := t) (rfl) (reach_base hs hy)) ?_
        refine Gx.val rfl rfl rfl (val_load rfl Try.ty28 rfl rfl (cell_base (i := 0) hs hy rfl)) ?_
        refine Gx.val rfl rfl rfl (val_assign rfl rfl) ?_
        refine Gx.done ?_
        refine Gx.thenN ?_
        refine Gx.seq ?_
        refine Gx.region ?_
        refine Gx.val rfl rfl rfl (val_move rfl rfl) ?_
        refine Gx.val rfl rfl rfl (val_move rfl rfl) ?_
        refine Gx.val rfl rfl rfl (val_and rfl rfl rfl (and32 hx9 hy9)) ?_
        refine Gx.val rfl rfl rfl (val_eql rfl rfl rfl) ?_
        refine Gx.done ?_
        refine Gx.thenN ?_
        refine Gx.dec rfl (fun h4 => ?_) (fun h4 => ?_)
        · refine Gx.seq ?_
          refine Gx.region ?_
          refine Gx.val rfl rfl rfl (val_assign rfl rfl) ?_
          refine Gx.done ?_
          refine Gx.thenN ?_
          refine Gx.ret ?_
          refine Gx.blkR ?_
          refine Gx.thenR ?_
          refine Gx.thenR ?_
          refine Gx.blkR ?_
          refine Gx.blkR ?_
          refine Gx.thenR ?_
          refine Gx.thenR ?_
          refine Gx.blkR ?_
          refine Gx.thenR ?_
          refine Gx.ret1 Try.results24 rfl ?_
          exact ⟨_, rfl, ⟨fun h => absurd h (by decide), fun h => absurd (by omega) (h.meet (List.mem_of_getElem? hx) (List.mem_of_getElem? hy))⟩⟩
        · refine Gx.skip ?_
          refine Gx.blkN ?_
          refine Gx.thenN ?_
          refine Gx.region ?_
          refine Gx.val rfl rfl rfl (val_add rfl rfl rfl (r := ((t + 1 : Nat) : Int)) (w64 (by omega) (by omega))) ?_
          refine Gx.val rfl rfl rfl (val_move rfl rfl) ?_
          refine Gx.done ?_
          refine Gx.thenN ?_
          exact Gx.round (t + 1) ⟨by first | omega | (dsimp only; omega), fun j y' g1 g2 => by
            by_cases e : j = t
            · subst e; rw [hy] at g2; cases g2; omega
            · exact hin j y' (by (try dsimp only at g1); omega) g2⟩ (by first | omega | (dsimp only; omega)) ((.cons rfl (.cons rfl (.cons rfl (.cons rfl (.cons rfl (.cons rfl (.cons rfl (.cons rfl (.cons rfl .nil)))))))))) rfl
      · refine Gx.exit ?_
        refine Gx.thenE ?_
        refine Gx.thenE ?_
        refine Gx.blkE ?_
        refine Gx.blkN ?_
        refine Gx.thenN ?_
        refine Gx.region ?_
        refine Gx.val rfl rfl rfl (val_add rfl rfl rfl (r := ((k + 1 : Nat) : Int)) (w64 (by omega) (by omega))) ?_
        refine Gx.val rfl rfl rfl (val_move rfl rfl) ?_
        refine Gx.done ?_
        refine Gx.thenN ?_
        exact Gx.round (k + 1) ⟨by first | omega | (dsimp only; omega), fun i j' x' y' g1 g2 g3 => by
          by_cases e : i = k
          · subst e; rw [hx] at g2; cases g2
            exact hin j' y' (by have := (List.getElem?_eq_some_iff.1 g3).1; omega) g3
          · exact hall i j' x' y' (by (try dsimp only at g1); omega) g2 g3⟩ (by first | omega | (dsimp only; omega)) ((.cons rfl (.cons rfl (.cons rfl (.cons rfl (.cons rfl .nil)))))) rfl
    · refine Gx.exit ?_
      refine Gx.thenE ?_
      refine Gx.thenE ?_
      refine Gx.blkE ?_
      refine Gx.thenN ?_
      refine Gx.seq ?_
      refine Gx.region ?_
      refine Gx.val rfl rfl rfl (val_assign rfl rfl) ?_
      refine Gx.done ?_
      refine Gx.thenN ?_
      refine Gx.ret ?_
      refine Gx.ret1 Try.results24 rfl ?_
      exact ⟨_, rfl, ⟨fun _ => ⟨hcc.1 (by omega), fun p ⟨i, j, h1, h2, h3⟩ => hall i j p.1 p.2 (by have := (List.getElem?_eq_some_iff.1 h2).1; omega) h2 h3⟩, fun _ => rfl⟩⟩

theorem ksys_yes {W : World} {n : Int} {qv : Value} {xs : List Nat} (hs : SlS FU 1 W qv xs) (hlt : ∀ x ∈ xs, x < 4294967296) (b0 : Bool) (hf : b0 = true ↔ Sysm n xs) :
    Calls Try.prog 14 #[.int .i64 n, qv] W fun e w' => e = .returned (.bool b0) ∧ Below W.heap.size W w' := by
  refine calls_pure (Gx.enter (l := []) Try.func14 rfl Try.ntmps14 rfl (Sat.start W) ?_)
  refine Gx.know (m' := [(0, .int .i64 n), (1, qv)]) (.cons rfl (.cons rfl .nil)) ?_
  refine Gx.seq ?_
  refine Gx.region ?_
  refine Gx.val rfl rfl rfl (val_assign rfl rfl) ?_
  refine Gx.done ?_
  refine Gx.thenN ?_
  refine Gx.seq ?_
  refine Gx.region ?_
  refine Gx.val rfl rfl rfl (val_move rfl rfl) ?_
  refine Gx.val rfl rfl rfl (val_move rfl rfl) ?_
  refine Gx.eff rfl rfl rfl (eff_callE (vs := [.int .i64 n, qv]) rfl Try.fn24 rfl (R := fun v => ∃ c : Int, v = .int .i64 c ∧ (c = 0 ↔ Sysm n xs)) (fun w H => scheck_any (hs.below H.below) hlt)) ?_
  rintro _ _ ⟨⟨cc, rfl, hcc⟩, rfl⟩
  refine Gx.val rfl rfl rfl (val_eql rfl rfl rfl) ?_
  refine Gx.val rfl rfl rfl (val_assign rfl rfl) ?_
  refine Gx.done ?_
  refine Gx.thenN ?_
  refine Gx.ret ?_
  refine Gx.ret1 Try.results14 rfl ?_
  exact congrArg Value.bool (by
    cases b0 with
    | true => exact decide_eq_true (hcc.2 (hf.1 rfl))
    | false => exact decide_eq_false (fun e => by have := hf.2 (hcc.1 e); cases this))

theorem full_yes {W : World} {n : Int} {qv : Value} {xs : List Nat} (hs : SlS FU 1 W qv xs) (hlt : ∀ x ∈ xs, x < 4294967296) (hf : Sysm n xs) :
    Calls Try.prog 13 #[.int .i64 n, qv] W fun e w' => ∃ v, e = .returned v ∧ (∃ b : Bool, v = .tuple #[.bool b, .int .i64 0] ∧ (b = true ↔ ∀ w, w < 2 ^ n.toNat → Cov xs n.toNat w)) ∧ Below W.heap.size W w' := by
  refine calls_rel (R := fun v => ∃ b : Bool, v = .tuple #[.bool b, .int .i64 0] ∧ (b = true ↔ ∀ w, w < 2 ^ n.toNat → Cov xs n.toNat w)) (Gx.enter (l := []) Try.func13 rfl Try.ntmps13 rfl (Sat.start W) ?_)
  refine Gx.know (m' := [(0, .int .i64 n), (1, qv)]) (.cons rfl (.cons rfl .nil)) ?_
  refine Gx.seq ?_
  refine Gx.region ?_
  refine Gx.val rfl rfl rfl (val_assign rfl rfl) ?_
  refine Gx.val rfl rfl rfl (val_assign rfl rfl) ?_
  refine Gx.done ?_
  refine Gx.thenN ?_
  refine Gx.seq ?_
  refine Gx.seq ?_
  refine Gx.region ?_
  refine Gx.val rfl rfl rfl (val_move rfl rfl) ?_
  refine Gx.val rfl rfl rfl (val_move rfl rfl) ?_
  refine Gx.eff rfl rfl rfl (eff_callE (vs := [.int .i64 n, qv]) rfl Try.fn22 rfl (R := fun v => ∃ c : Int, v = .int .i64 c ∧ (c = 0 ↔ Sysm n xs)) (fun w H => check_any (hs.below H.below) hlt)) ?_
  rintro _ _ ⟨⟨cc, rfl, hcc⟩, rfl⟩
  refine Gx.val rfl rfl rfl (val_assign rfl rfl) ?_
  refine Gx.done ?_
  refine Gx.thenN ?_
  refine Gx.seq ?_
  have hc0 : cc = 0 := hcc.2 hf
  refine Gx.region ?_
  refine Gx.val rfl rfl rfl (val_move rfl rfl) ?_
  refine Gx.val rfl rfl rfl (val_neq rfl rfl rfl) ?_
  refine Gx.done ?_
  refine Gx.thenN ?_
  refine Gx.decF rfl (by omega) ?_
  refine Gx.skip ?_
  refine Gx.thenN ?_
  refine Gx.seq ?_
  refine Gx.region ?_
  refine Gx.val rfl rfl rfl (val_move rfl rfl) ?_
  refine Gx.eff rfl rfl rfl (eff_callN (vs := [qv]) rfl Try.fn19 rfl (fun w H => least_any (hs.below H.below) hf.1.some (by have := hf.1.few; omega) (fun x hx => by have := (hf.1.lt12 hx).2; omega))) ?_
  rintro lv _ ⟨_, ⟨ls, hlv, hls, rfl⟩, rfl⟩
  refine Gx.norm (l' := [Hp.own FU 1 lv ls]) rfl ?_
  refine Gx.val rfl rfl rfl (val_move rfl rfl) ?_
  refine Gx.eff rfl rfl rfl (eff_callN (vs := [qv]) rfl Try.fn21 rfl (fun w H => blocks_any (hs.below H.below) hf.1.some (by have := hf.1.few; omega) (fun x hx => hf.1.lt12 hx))) ?_
  rintro bv _ ⟨_, ⟨bl, hbv, hbl, rfl⟩, rfl⟩
  refine Gx.norm (l' := [Hp.own FU 1 bv bl, Hp.own FU 1 lv ls]) rfl ?_
  refine Gx.val rfl rfl rfl (val_call (vs := [lv, bv]) rfl Try.fn23 rfl (fun w H => equal_any ((H.at_ (k := 1) rfl).sls (by have := (hf.1.least hls).2; have := hf.1.few; omega)) ((H.at_ (k := 0) rfl).sls (by have := (hbl.len hf.1).2.1; omega)))) ?_
  refine Gx.val rfl rfl rfl (val_assign rfl rfl) ?_
  refine Gx.val rfl rfl rfl (val_assign rfl rfl) ?_
  refine Gx.done ?_
  refine Gx.thenN ?_
  refine Gx.ret ?_
  refine Gx.ret2 Try.results13 rfl rfl ?_
  exact ⟨_, rfl, by rw [decide_eq_true_iff]; exact full_iff (fun a ha => hf.1.lt ha) (fun a ha b hb => hf.meet ha hb) hls hbl⟩

theorem full_no {W : World} {n : Int} {qv : Value} {xs : List Nat} (hs : SlS FU 1 W qv xs) (hlt : ∀ x ∈ xs, x < 4294967296) (hf : ¬ Sysm n xs) :
    Calls Try.prog 13 #[.int .i64 n, qv] W fun e w' => ∃ v, e = .returned v ∧ (∃ c : Int, c ≠ 0 ∧ v = .tuple #[.bool false, .int .i64 c]) ∧ Below W.heap.size W w' := by
  refine calls_rel (R := fun v => ∃ c : Int, c ≠ 0 ∧ v = .tuple #[.bool false, .int .i64 c]) (Gx.enter (l := []) Try.func13 rfl Try.ntmps13 rfl (Sat.start W) ?_)
  refine Gx.know (m' := [(0, .int .i64 n), (1, qv)]) (.cons rfl (.cons rfl .nil)) ?_
  refine Gx.seq ?_
  refine Gx.region ?_
  refine Gx.val rfl rfl rfl (val_assign rfl rfl) ?_
  refine Gx.val rfl rfl rfl (val_assign rfl rfl) ?_
  refine Gx.done ?_
  refine Gx.thenN ?_
  refine Gx.seq ?_
  refine Gx.seq ?_
  refine Gx.region ?_
  refine Gx.val rfl rfl rfl (val_move rfl rfl) ?_
  refine Gx.val rfl rfl rfl (val_move rfl rfl) ?_
  refine Gx.eff rfl rfl rfl (eff_callE (vs := [.int .i64 n, qv]) rfl Try.fn22 rfl (R := fun v => ∃ c : Int, v = .int .i64 c ∧ (c = 0 ↔ Sysm n xs)) (fun w H => check_any (hs.below H.below) hlt)) ?_
  rintro _ _ ⟨⟨cc, rfl, hcc⟩, rfl⟩
  refine Gx.val rfl rfl rfl (val_assign rfl rfl) ?_
  refine Gx.done ?_
  refine Gx.thenN ?_
  refine Gx.seq ?_
  have hc0 : cc ≠ 0 := fun e => hf (hcc.1 e)
  refine Gx.region ?_
  refine Gx.val rfl rfl rfl (val_move rfl rfl) ?_
  refine Gx.val rfl rfl rfl (val_neq rfl rfl rfl) ?_
  refine Gx.done ?_
  refine Gx.thenN ?_
  refine Gx.decT rfl (by omega) ?_
  refine Gx.seq ?_
  refine Gx.region ?_
  refine Gx.val rfl rfl rfl (val_move rfl rfl) ?_
  refine Gx.val rfl rfl rfl (val_assign rfl rfl) ?_
  refine Gx.val rfl rfl rfl (val_assign rfl rfl) ?_
  refine Gx.done ?_
  refine Gx.thenN ?_
  refine Gx.ret ?_
  refine Gx.thenR ?_
  refine Gx.ret2 Try.results13 rfl rfl ?_
  exact ⟨_, hc0, rfl⟩

theorem fullq_bad {W : World} {n : Int} {qv : Value} {xs : List Nat} (hs : SlS FU 1 W qv xs) (hlt : ∀ x ∈ xs, x < 4294967296) (hf : ¬ Sysm n xs) :
    Calls Try.prog 6 #[.int .i64 n, qv] W fun e w' => e = .returned (.bool true) ∧ Below W.heap.size W w' := by
  have hm9 := sls_bd hs
  refine calls_pure (Gx.enter (l := []) Try.func6 rfl Try.ntmps6 rfl (Sat.start W) ?_)
  refine Gx.know (m' := [(0, .int .i64 n), (1, qv)]) (.cons rfl (.cons rfl .nil)) ?_
  refine Gx.seq ?_
  refine Gx.region ?_
  refine Gx.val rfl rfl rfl (val_assign rfl rfl) ?_
  refine Gx.done ?_
  refine Gx.thenN ?_
  refine Gx.seq ?_
  refine Gx.region ?_
  refine Gx.val rfl rfl rfl (val_move rfl rfl) ?_
  refine Gx.val rfl rfl rfl (val_move rfl rfl) ?_
  refine Gx.eff rfl rfl rfl (eff_callE (vs := [.int .i64 n, qv]) rfl Try.fn13 rfl (R := fun v => ∃ c : Int, c ≠ 0 ∧ v = .tuple #[.bool false, .int .i64 c]) (fun w H => full_no (hs.below H.below) hlt hf)) ?_
  rintro _ _ ⟨⟨zz, hzz, rfl⟩, rfl⟩
  refine Gx.val rfl rfl rfl (val_move rfl rfl) ?_
  refine Gx.val rfl rfl rfl (val_extract rfl rfl rfl) ?_
  refine Gx.val rfl rfl rfl (val_extract rfl rfl rfl) ?_
  refine Gx.val rfl rfl rfl (val_assign rfl rfl) ?_
  refine Gx.val rfl rfl rfl (val_assign rfl rfl) ?_
  refine Gx.done ?_
  refine Gx.thenN ?_
  refine Gx.seq ?_
  refine Gx.seq ?_
  refine Gx.region ?_
  refine Gx.val rfl rfl rfl (val_move rfl rfl) ?_
  refine Gx.val rfl rfl rfl (val_move rfl rfl) ?_
  refine Gx.val rfl rfl rfl (val_call (vs := [.int .i64 n, qv]) rfl Try.fn14 rfl (fun w H => ksys_yes (hs.below H.below) hlt false ⟨fun h => (by cases h), fun h => absurd h hf⟩)) ?_
  refine Gx.val rfl rfl rfl (Val.cast (val_not rfl rfl) (v' := .bool true) rfl) ?_
  refine Gx.done ?_
  refine Gx.thenN ?_
  refine Gx.t rfl ?_
  refine Gx.seq ?_
  refine Gx.region ?_
  refine Gx.val rfl rfl rfl (val_move rfl rfl) ?_
  refine Gx.val rfl rfl rfl (val_neq rfl rfl rfl) ?_
  refine Gx.val rfl rfl rfl (val_assign rfl rfl) ?_
  refine Gx.done ?_
  refine Gx.thenN ?_
  refine Gx.ret ?_
  refine Gx.thenR ?_
  refine Gx.ret1 Try.results6 rfl ?_
  exact congrArg Value.bool (decide_eq_true hzz)

theorem cov_snoc {q : List Nat} {m w : Nat} : (∀ y, y < w + 1 → Cov q m y) ↔ (∀ y, y < w → Cov q m y) ∧ Cov q m w := by
  constructor
  · intro h; exact ⟨fun y hy => h y (by omega), h w (by omega)⟩
  · rintro ⟨h1, h2⟩ y hy
    by_cases e : y = w
    · subst e; exact h2
    · exact h1 y (by omega)
theorem cov_any {q : List Nat} {m w : Nat} : Cov q m w ↔ ((q.any fun a => decide (a &&& w = a)) = true ∨ (q.any fun a => decide (a &&& ((2 ^ m - 1) ^^^ ((2 ^ m - 1) &&& w)) = a)) = true) := by
  unfold Cov
  simp only [List.any_eq_true, decide_eq_true_iff]
theorem fullq_yes {W : World} {m : Nat} {qv : Value} {xs : List Nat} (hs : SlS FU 1 W qv xs) (hlt : ∀ x ∈ xs, x < 4294967296) (hf : Sysm (m : Int) xs) :
    Calls Try.prog 6 #[.int .i64 ((m : Nat) : Int), qv] W fun e w' => e = .returned (.bool true) ∧ Below W.heap.size W w' := by
  have hm9 := sls_bd hs
  have hm12 := hf.1.hi
  have hp12 : 2 ^ m ≤ 4096 := show 2 ^ m ≤ 2 ^ 12 from Nat.pow_le_pow_right (by decide) (by omega)
  have hp0 := Nat.two_pow_pos m
  refine calls_pure (Gx.enter (l := []) Try.func6 rfl Try.ntmps6 rfl (Sat.start W) ?_)
  refine Gx.know (m' := [(0, .int .i64 ((m : Nat) : Int)), (1, qv)]) (.cons rfl (.cons rfl .nil)) ?_
  refine Gx.seq ?_
  refine Gx.region ?_
  refine Gx.val rfl rfl rfl (val_assign rfl rfl) ?_
  refine Gx.done ?_
  refine Gx.thenN ?_
  refine Gx.seq ?_
  refine Gx.region ?_
  refine Gx.val rfl rfl rfl (val_move rfl rfl) ?_
  refine Gx.val rfl rfl rfl (val_move rfl rfl) ?_
  refine Gx.eff rfl rfl rfl (eff_callE (vs := [.int .i64 ((m : Nat) : Int), qv]) rfl Try.fn13 rfl (R := fun v => ∃ b : Bool, v = .tuple #[.bool b, .int .i64 0] ∧ (b = true ↔ ∀ w, w < 2 ^ m → Cov xs m w)) (fun w H => full_yes (n := (m : Int)) (hs.below H.below) hlt hf)) ?_
  rintro _ _ ⟨⟨b, rfl, hb⟩, rfl⟩
  refine Gx.val rfl rfl rfl (val_move rfl rfl) ?_
  refine Gx.val rfl rfl rfl (val_extract rfl rfl rfl) ?_
  refine Gx.val rfl rfl rfl (val_extract rfl rfl rfl) ?_
  refine Gx.val rfl rfl rfl (val_assign rfl rfl) ?_
  refine Gx.val rfl rfl rfl (val_assign rfl rfl) ?_
  refine Gx.done ?_
  refine Gx.thenN ?_
  refine Gx.seq ?_
  refine Gx.seq ?_
  refine Gx.region ?_
  refine Gx.val rfl rfl rfl (val_move rfl rfl) ?_
  refine Gx.val rfl rfl rfl (val_move rfl rfl) ?_
  refine Gx.val rfl rfl rfl (val_call (vs := [.int .i64 ((m : Nat) : Int), qv]) rfl Try.fn14 rfl (fun w H => ksys_yes (hs.below H.below) hlt true ⟨fun _ => hf, fun _ => rfl⟩)) ?_
  refine Gx.val rfl rfl rfl (Val.cast (val_not rfl rfl) (v' := .bool false) rfl) ?_
  refine Gx.done ?_
  refine Gx.thenN ?_
  refine Gx.f rfl ?_
  refine Gx.skip ?_
  refine Gx.thenN ?_
  refine Gx.seq ?_
  refine Gx.region ?_
  refine Gx.val rfl rfl rfl (val_assign rfl rfl) ?_
  refine Gx.done ?_
  refine Gx.thenN ?_
  refine Gx.seq ?_
  refine Gx.seq ?_
  refine Gx.region ?_
  refine Gx.val rfl rfl rfl (val_assign rfl rfl) ?_
  refine Gx.done ?_
  refine Gx.thenN ?_
  refine Gx.block ?_
  refine Gx.loop (ι := Nat × Bool) (fun ξ => (ξ.1 ≤ 2 ^ m) ∧ (ξ.2 = true ↔ ∀ y, y < ξ.1 → Cov xs m y)) (fun ξ => [(0, .int .i64 ((m : Nat) : Int)), (1, qv), (5, .bool b), (6, .int .i64 0), (7, .bool ξ.2), (8, .int .u32 ((ξ.1 : Nat) : Int))]) (fun ξ => []) (fun ξ => 2 ^ m - ξ.1) (0, true) ⟨by first | omega | (dsimp only; omega), ⟨fun _ y h => absurd h (Nat.not_lt_zero _), fun _ => rfl⟩⟩ ((.cons rfl (.cons rfl (.cons rfl (.cons rfl (.cons rfl (.cons rfl .nil))))))) rfl ?_
  rintro ⟨w, al⟩ ⟨hw, hal⟩
  dsimp only at hw hal
  refine Gx.know (m' := [(0, .int .i64 ((m : Nat) : Int)), (1, qv), (5, .bool b), (6, .int .i64 0), (7, .bool al), (8, .int .u32 ((w : Nat) : Int))]) (.cons rfl (.cons rfl (.cons rfl (.cons rfl (.cons rfl (.cons rfl .nil)))))) (Gx.norm (l' := []) rfl ?_)
  refine Gx.seq ?_
  refine Gx.seq ?_
  refine Gx.region ?_
  refine Gx.val rfl rfl rfl (val_move rfl rfl) ?_
  refine Gx.val rfl rfl rfl (val_move rfl rfl) ?_
  refine Gx.val rfl rfl rfl (val_conv rfl Try.underlying3 Try.underlying32 rfl (r := ((m : Nat) : Int)) (u64id (by omega))) ?_
  refine Gx.val rfl rfl rfl (val_shl (b := m) rfl rfl rfl rfl (by show m ≤ 32; omega) (shl32 (a := 1) (Nat.one_mul _) (by omega))) ?_
  refine Gx.val rfl rfl rfl (val_lss rfl rfl rfl) ?_
  refine Gx.done ?_
  refine Gx.thenN ?_
  refine Gx.dec rfl (fun h1 => ?_) (fun h1 => ?_)
  · refine Gx.skip ?_
    refine Gx.thenN ?_
    refine Gx.seq ?_
    refine Gx.block ?_
    refine Gx.seq ?_
    refine Gx.region ?_
    refine Gx.val rfl rfl rfl (val_move rfl rfl) ?_
    refine Gx.val rfl rfl rfl (val_move rfl rfl) ?_
    refine Gx.val rfl rfl rfl (val_call (vs := [qv, .int .u32 ((w : Nat) : Int)]) rfl Try.fn11 rfl (fun w H => holds_any (hs.below H.below) hlt (by first | omega | exact diff_lt (by omega)))) ?_
    refine Gx.val rfl rfl rfl (val_not rfl rfl) ?_
    refine Gx.val rfl rfl rfl (val_move rfl rfl) ?_
    refine Gx.casesB (t := 32) rfl (fun h2 => ?_) (fun h2 => ?_)
    · refine Gx.valg rfl rfl rfl rfl rfl (val_move rfl rfl) ?_
      refine Gx.valg rfl rfl rfl rfl rfl (val_move rfl rfl) ?_
      refine Gx.valg rfl rfl rfl rfl rfl (val_conv rfl Try.underlying3 Try.underlying32 rfl (r := ((m : Nat) : Int)) (u64id (by omega))) ?_
      refine Gx.valg rfl rfl rfl rfl rfl (val_shl (b := m) rfl rfl rfl rfl (by show m ≤ 32; omega) (shl32 (a := 1) (Nat.one_mul _) (by omega))) ?_
      refine Gx.valg rfl rfl rfl rfl rfl (val_sub rfl rfl rfl (r := ((2 ^ m - 1 : Nat) : Int)) (u32in (by omega) (by omega))) ?_
      refine Gx.valg rfl rfl rfl rfl rfl (val_move rfl rfl) ?_
      refine Gx.valg rfl rfl rfl rfl rfl (val_andNot rfl rfl rfl (andNot32 (by omega) (by omega) (diff_lt (by omega)) (fun i _ => diff_bit _ _ i))) ?_
      refine Gx.valg rfl rfl rfl rfl rfl (val_call (vs := [qv, .int .u32 ((((2 ^ m - 1) ^^^ ((2 ^ m - 1) &&& w)) : Nat) : Int)]) rfl Try.fn11 rfl (fun w H => holds_any (hs.below H.below) hlt (by first | omega | exact diff_lt (by omega)))) ?_
      refine Gx.valg rfl rfl rfl rfl rfl (val_not rfl rfl) ?_
      refine Gx.val rfl rfl rfl (val_pickT rfl rfl rfl) ?_
      refine Gx.done ?_
      refine Gx.thenN ?_
      refine Gx.bool rfl (fun h3 => ?_) (fun h3 => ?_)
      · refine Gx.region ?_
        refine Gx.val rfl rfl rfl (val_assign rfl rfl) ?_
        refine Gx.done ?_
        refine Gx.blkN ?_
        refine Gx.thenN ?_
        refine Gx.region ?_
        refine Gx.val rfl rfl rfl (val_move rfl rfl) ?_
        refine Gx.val rfl rfl rfl (val_add rfl rfl rfl (r := ((w + 1 : Nat) : Int)) (u32in (by omega) (by omega))) ?_
        refine Gx.val rfl rfl rfl (val_assign rfl rfl) ?_
        refine Gx.done ?_
        refine Gx.thenN ?_
        exact Gx.round (w + 1, false) ⟨by first | omega | (dsimp only; omega), by
          dsimp only
          rw [cov_snoc]
          have hc : Cov xs m w ↔ ((xs.any fun a => decide (a &&& w = a)) = true ∨ (xs.any fun a => decide (a &&& ((2 ^ m - 1) ^^^ ((2 ^ m - 1) &&& w)) = a)) = true) := cov_any
          rw [← hal, hc]
          simp_all⟩ (by first | omega | (dsimp only; omega)) ((.cons rfl (.cons rfl (.cons rfl (.cons rfl (.cons rfl (.cons rfl .nil))))))) rfl
      · refine Gx.skip ?_
        refine Gx.blkN ?_
        refine Gx.thenN ?_
        refine Gx.region ?_
        refine Gx.val rfl rfl rfl (val_move rfl rfl) ?_
        refine Gx.val rfl rfl rfl (val_add rfl rfl rfl (r := ((w + 1 : Nat) : Int)) (u32in (by omega) (by omega))) ?_
        refine Gx.val rfl rfl rfl (val_assign rfl rfl) ?_
        refine Gx.done ?_
        refine Gx.thenN ?_
        exact Gx.round (w + 1, al) ⟨by first | omega | (dsimp only; omega), by
          dsimp only
          rw [cov_snoc]
          have hc : Cov xs m w ↔ ((xs.any fun a => decide (a &&& w = a)) = true ∨ (xs.any fun a => decide (a &&& ((2 ^ m - 1) ^^^ ((2 ^ m - 1) &&& w)) = a)) = true) := cov_any
          rw [← hal, hc]
          simp_all⟩ (by first | omega | (dsimp only; omega)) ((.cons rfl (.cons rfl (.cons rfl (.cons rfl (.cons rfl (.cons rfl .nil))))))) rfl
    · refine Gx.skipg rfl rfl rfl rfl rfl rfl ?_
      refine Gx.skipg rfl rfl rfl rfl rfl rfl ?_
      refine Gx.skipg rfl rfl rfl rfl rfl rfl ?_
      refine Gx.skipg rfl rfl rfl rfl rfl rfl ?_
      refine Gx.skipg rfl rfl rfl rfl rfl rfl ?_
      refine Gx.skipg rfl rfl rfl rfl rfl rfl ?_
      refine Gx.skipg rfl rfl rfl rfl rfl rfl ?_
      refine Gx.skipg rfl rfl rfl rfl rfl rfl ?_
      refine Gx.skipg rfl rfl rfl rfl rfl rfl ?_
      refine Gx.val rfl rfl rfl (val_pickF rfl rfl rfl) ?_
      refine Gx.done ?_
      refine Gx.thenN ?_
      refine Gx.f rfl ?_
      refine Gx.skip ?_
      refine Gx.blkN ?_
      refine Gx.thenN ?_
      refine Gx.region ?_
      refine Gx.val rfl rfl rfl (val_move rfl rfl) ?_
      refine Gx.val rfl rfl rfl (val_add rfl rfl rfl (r := ((w + 1 : Nat) : Int)) (u32in (by omega) (by omega))) ?_
      refine Gx.val rfl rfl rfl (val_assign rfl rfl) ?_
      refine Gx.done ?_
      refine Gx.thenN ?_
      exact Gx.round (w + 1, al) ⟨by first | omega | (dsimp only; omega), by
        dsimp only
        rw [cov_snoc]
        have hc : Cov xs m w ↔ ((xs.any fun a => decide (a &&& w = a)) = true ∨ (xs.any fun a => decide (a &&& ((2 ^ m - 1) ^^^ ((2 ^ m - 1) &&& w)) = a)) = true) := cov_any
        rw [← hal, hc]
        simp_all⟩ (by first | omega | (dsimp only; omega)) ((.cons rfl (.cons rfl (.cons rfl (.cons rfl (.cons rfl (.cons rfl .nil))))))) rfl
  · refine Gx.exit ?_
    refine Gx.thenE ?_
    refine Gx.thenE ?_
    refine Gx.blkE ?_
    refine Gx.thenN ?_
    refine Gx.seq ?_
    refine Gx.region ?_
    refine Gx.val rfl rfl rfl (val_move rfl rfl) ?_
    refine Gx.val rfl rfl rfl (Val.cast (val_eql rfl rfl rfl) (v' := .bool true) rfl) ?_
    refine Gx.val rfl rfl rfl (val_move rfl rfl) ?_
    refine Gx.valg rfl rfl rfl rfl rfl (val_move rfl rfl) ?_
    refine Gx.valg rfl rfl rfl rfl rfl (val_move rfl rfl) ?_
    refine Gx.valg rfl rfl rfl rfl rfl (val_eqlB Try.underlying4 rfl rfl rfl) ?_
    refine Gx.val rfl rfl rfl (val_pickT rfl rfl rfl) ?_
    refine Gx.val rfl rfl rfl (val_assign rfl rfl) ?_
    refine Gx.done ?_
    refine Gx.thenN ?_
    refine Gx.ret ?_
    refine Gx.ret1 Try.results6 rfl ?_
    exact congrArg Value.bool (by
      have hwe : w = 2 ^ m := by omega
      subst hwe
      have e : b = al := by
        have := hb.trans hal.symm
        cases b <;> cases al <;> simp_all
      simp [e])

theorem fullq_any {W : World} {n : Int} {qv : Value} {xs : List Nat} (hs : SlS FU 1 W qv xs) (hlt : ∀ x ∈ xs, x < 4294967296) :
    Calls Try.prog 6 #[.int .i64 n, qv] W fun e w' => e = .returned (.bool true) ∧ Below W.heap.size W w' := by
  by_cases hf : Sysm n xs
  · obtain ⟨m, rfl⟩ : ∃ m : Nat, n = (m : Int) := ⟨n.toNat, by have := hf.1.lo; omega⟩
    exact fullq_yes hs hlt hf
  · exact fullq_bad hs hlt hf
end Go.Proofs.Ytpjkpnfelpfhaaa
