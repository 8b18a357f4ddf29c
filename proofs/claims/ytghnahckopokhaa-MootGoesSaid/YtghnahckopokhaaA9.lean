/- A block's path; is an answer one of its blocks; are there few liars? The walks. No condition. -/
import Derived.Test.YtghnahckopokhaaM3
import Derived.Test.YtghnahckopokhaaK
namespace Go.Proofs.Ytghnahckopokhaa
open Go.RowKit
set_option linter.unusedVariables false
set_option linter.unusedSimpArgs false
set_option maxRecDepth 100000

theorem few_c {L : Nat} {n f : Int} {w : World} (hx : L < 4294967296) (hn : 0 ≤ n) (hn2 : n ≤ 9223372036854775807) : Calls Try.prog 10 #[.int .u32 ((L : Nat) : Int), .int .i64 n, .int .i64 f] w fun e w' => e = .returned (.bool (fewF L n f)) ∧ Below w.heap.size w w' :=
  (few_any L n f w hx hn hn2).mono fun e w' ⟨h, e2⟩ => by subst e2; exact ⟨h, Below.refl ..⟩
theorem few_pop {L : Nat} {n f : Nat} (h : fewF L (n : Int) (f : Int) = true) : pop L ≤ f := by
  unfold fewF at h
  rw [Bool.and_eq_true, decide_eq_true_iff] at h
  have : sizeF L = pop L := rfl
  omega
theorem blocks_yes {W : World} {v : Value} {l : List (Int × Int)} (hok : Chn.OkC l) (h : SlS Chn.FK 2 W v l) : Calls Try.prog 18 #[v] W fun e w' => e = .returned (.bool true) ∧ Below W.heap.size W w' := by
  refine (Chn.blocks_any h).mono ?_
  rintro e w' ⟨⟨b, rfl, hc⟩, hb⟩
  obtain rfl := hc.2 hok
  exact ⟨rfl, hb⟩
/-- the path from the first one -/
def pthN (l : List (Int × Int)) (n b : Nat) : List Int := (Chn.nI (Chn.ups l n b)).reverse
theorem pthN_zero (l : List (Int × Int)) (n : Nat) : pthN l n 0 = [0] := by cases n <;> rfl
theorem pthN_succ (l : List (Int × Int)) {n b : Nat} (hb : 0 < b) : pthN l (n + 1) b = pthN l n (Chn.pr l b) ++ [(b : Int)] := by
  unfold pthN
  rw [show Chn.ups l (n + 1) b = b :: Chn.ups l n (Chn.pr l b) from if_neg (by omega)]
  simp [Chn.nI]
theorem pthN_len (l : List (Int × Int)) (n b : Nat) : (pthN l n b).length ≤ n + 1 := by unfold pthN; simp only [Chn.nI, List.length_reverse, List.length_map]; exact Chn.ups_len l n b
theorem pthN_mem {l : List (Int × Int)} (h : Chn.OkC l) {n b c : Nat} (hn : b ≤ n) (hb : b < l.length) : (c : Int) ∈ pthN l n b ↔ Chn.Anc l c b := by
  unfold pthN
  rw [List.mem_reverse, ← h.ups_mem n b hn hb c]
  unfold Chn.nI
  rw [List.mem_map]
  exact ⟨fun ⟨x, h1, h2⟩ => by rw [← Int.ofNat.inj h2]; exact h1, fun h1 => ⟨c, h1, rfl⟩⟩
theorem path_zero {bv : Value} {l : List Bk} {n : Nat} {W : World} : Calls Try.prog 12 #[bv, .int .i64 0] W (Ret W fun v l' => IsS v ∧ l' = [Hp.own FI 1 v (pthN (blsP l) n 0)]) := by
  refine Gx.enter (l := []) Try.func12 rfl Try.ntmps12 rfl (Sat.start W) ?_
  refine Gx.know (m' := [(0, bv), (1, .int .i64 0)]) (.cons rfl (.cons rfl .nil)) ?_
  refine Gx.seq ?_
  refine Gx.region ?_
  refine Gx.val rfl rfl rfl (val_assign rfl rfl) ?_
  refine Gx.done ?_
  refine Gx.thenN ?_
  refine Gx.seq ?_
  refine Gx.seq ?_
  refine Gx.region ?_
  refine Gx.val rfl rfl rfl (val_move rfl rfl) ?_
  refine Gx.val rfl rfl rfl (Val.cast (val_eql rfl rfl rfl) (v' := .bool true) rfl) ?_
  refine Gx.done ?_
  refine Gx.thenN ?_
  refine Gx.t rfl ?_
  refine Gx.seq ?_
  refine Gx.region ?_
  refine Gx.eff rfl rfl rfl (eff_buildSlice rfl (qs := [(0, .int .i64 0)]) rfl rfl (cs := #[.int .i64 0]) (vs := [.int .i64 0]) (E := 3) rfl (fun w => by first | (go_simp; done) | (go_simp; rfl))) ?_
  rintro _ _ ⟨b1, rfl, rfl⟩
  refine Gx.val rfl rfl rfl (val_assign rfl rfl) ?_
  refine Gx.done ?_
  refine Gx.thenN ?_
  refine Gx.ret ?_
  refine Gx.thenR ?_
  refine Gx.part (k := 0) rfl (q := Hp.own FI 1 (.slice (some ⟨b1, 0, none⟩) 1 1) ([0])) (own_of_rec (f := FI) (xs := [0]) FI_len rfl) ?_
  refine Gx.norm (l' := [Hp.own FI 1 (.slice (some ⟨b1, 0, none⟩) 1 1) ([0])]) rfl ?_
  refine Gx.ret1 Try.results12 rfl ?_
  exact ⟨⟨_, _, _, rfl⟩, by rw [pthN_zero]⟩

theorem path_step {bv : Value} {l : List Bk} {n' b : Nat} {W : World} (hok : Chn.OkC (blsP l)) (h40 : l.length ≤ 40) (hbn : b ≤ n' + 1) (hbl : b < l.length) (hn : n' + 1 ≤ 40) (hs : SlS FK 2 W bv l) (ih : ∀ (b : Nat) {W : World}, b ≤ n' → b < l.length → SlS FK 2 W bv l → Calls Try.prog 12 #[bv, .int .i64 ((b : Nat) : Int)] W (Ret W fun v l' => IsS v ∧ l' = [Hp.own FI 1 v (pthN (blsP l) n' b)])) :
    Calls Try.prog 12 #[bv, .int .i64 ((b : Nat) : Int)] W (Ret W fun v l' => IsS v ∧ l' = [Hp.own FI 1 v (pthN (blsP l) (n' + 1) b)]) := by
    refine Gx.enter (l := []) Try.func12 rfl Try.ntmps12 rfl (Sat.start W) ?_
    refine Gx.know (m' := [(0, bv), (1, .int .i64 ((b : Nat) : Int))]) (.cons rfl (.cons rfl .nil)) ?_
    refine Gx.seq ?_
    refine Gx.region ?_
    refine Gx.val rfl rfl rfl (val_assign rfl rfl) ?_
    refine Gx.done ?_
    refine Gx.thenN ?_
    refine Gx.seq ?_
    refine Gx.seq ?_
    refine Gx.region ?_
    refine Gx.val rfl rfl rfl (val_move rfl rfl) ?_
    refine Gx.val rfl rfl rfl (val_eql rfl rfl rfl) ?_
    refine Gx.done ?_
    refine Gx.thenN ?_
    refine Gx.dec rfl (fun h1 => ?_) (fun h1 => ?_)
    · refine Gx.seq ?_
      obtain rfl : b = 0 := by omega
      refine Gx.region ?_
      refine Gx.eff rfl rfl rfl (eff_buildSlice rfl (qs := [(0, .int .i64 0)]) rfl rfl (cs := #[.int .i64 0]) (vs := [.int .i64 0]) (E := 3) rfl (fun w => by first | (go_simp; done) | (go_simp; rfl))) ?_
      rintro _ _ ⟨b2, rfl, rfl⟩
      refine Gx.val rfl rfl rfl (val_assign rfl rfl) ?_
      refine Gx.done ?_
      refine Gx.thenN ?_
      refine Gx.ret ?_
      refine Gx.thenR ?_
      refine Gx.part (k := 0) rfl (q := Hp.own FI 1 (.slice (some ⟨b2, 0, none⟩) 1 1) ([0])) (own_of_rec (f := FI) (xs := [0]) FI_len rfl) ?_
      refine Gx.norm (l' := [Hp.own FI 1 (.slice (some ⟨b2, 0, none⟩) 1 1) ([0])]) rfl ?_
      refine Gx.ret1 Try.results12 rfl ?_
      exact ⟨⟨_, _, _, rfl⟩, by rw [pthN_zero]⟩
    · refine Gx.skip ?_
      refine Gx.thenN ?_
      refine Gx.seq ?_
      obtain ⟨x, hx⟩ := get_of_lt (xs := l) (k := b) hbl
      have hx2 : (blsP l)[b]? = some (toP x) := by rw [List.getElem?_map, hx]; rfl
      obtain ⟨hp1, hp2, _⟩ := hok.par (show 0 < b by omega) hx2
      have hp3 : x.par = ((Chn.pr (blsP l) b : Nat) : Int) := hp1
      obtain ⟨p, hpe⟩ : ∃ p, p = Chn.pr (blsP l) b := ⟨_, rfl⟩
      rw [← hpe] at hp2 hp3
      skip
      have hplen := pthN_len (blsP l) n' p
      refine Gx.region ?_
      refine Gx.val rfl rfl rfl (val_move rfl rfl) ?_
      refine Gx.val rfl rfl rfl (val_move rfl rfl) ?_
      refine Gx.val rfl rfl rfl (val_move rfl rfl) ?_
      refine Gx.val rfl rfl rfl (val_ixa rfl Try.underlying25 Try.ty35 rfl rfl (j := b) (rfl) (reach_base hs hx)) ?_
      refine Gx.val rfl rfl rfl (Val.cast (val_fieldAddr rfl Try.underlying35 rfl Try.ty3 rfl rfl) (v' := ptr (sB bv) (sO bv + b * 2)) rfl) ?_
      refine Gx.val rfl rfl rfl (val_load rfl Try.ty3 rfl rfl (cell_base (i := 0) hs hx rfl)) ?_
      refine Gx.slot (t := 13) (v := .int .i64 ((p : Nat) : Int)) (by rw [← hp3]; rfl) ?_
      refine Gx.eff rfl rfl rfl (eff_callN (vs := [bv, .int .i64 ((p : Nat) : Int)]) rfl Try.fn12 rfl (fun w H => ih p (by omega) (by omega) (hs.below H.below))) ?_
      rintro pv _ ⟨_, ⟨hpv, rfl⟩, rfl⟩
      refine Gx.norm (l' := [Hp.own FI 1 pv (pthN (blsP l) n' p)]) rfl ?_
      refine Gx.val rfl rfl rfl (val_move rfl rfl) ?_
      refine Gx.eff rfl rfl rfl (eff_buildSlice rfl (qs := [(0, .int .i64 ((b : Nat) : Int))]) rfl rfl (cs := #[.int .i64 ((b : Nat) : Int)]) (vs := [.int .i64 ((b : Nat) : Int)]) (E := 3) rfl (fun w => by first | (go_simp; done) | (go_simp; rfl))) ?_
      rintro _ _ ⟨b3, rfl, rfl⟩
      refine Gx.eff rfl rfl rfl (eff_push (r := ((b : Nat) : Int)) rfl Try.eI FI_len FI_one rfl rfl (k := 0) rfl rfl (k' := 0) rfl (by omega) (by omega)) ?_
      rintro v4 _ ⟨hiv4, rfl⟩
      refine Gx.norm (l' := [Hp.own FI 1 v4 ((pthN (blsP l) n' p) ++ [((b : Nat) : Int)])]) rfl ?_
      refine Gx.val rfl rfl rfl (val_assign rfl rfl) ?_
      refine Gx.done ?_
      refine Gx.thenN ?_
      refine Gx.ret ?_
      refine Gx.ret1 Try.results12 rfl ?_
      exact ⟨hiv4, by rw [pthN_succ _ (by omega), ← hpe]⟩

theorem path_any {bv : Value} {l : List Bk} (hok : Chn.OkC (blsP l)) (h40 : l.length ≤ 40) : ∀ (n b : Nat) {W : World}, b ≤ n → b < l.length → SlS FK 2 W bv l → n ≤ 40 →
    Calls Try.prog 12 #[bv, .int .i64 ((b : Nat) : Int)] W (Ret W fun v l' => IsS v ∧ l' = [Hp.own FI 1 v (pthN (blsP l) n b)]) := by
  intro n
  induction n with
  | zero =>
    intro b W hbn hbl hs hn
    obtain rfl : b = 0 := by omega
    exact path_zero
  | succ n ih0 =>
    intro b W hbn hbl hs hn
    have ih : ∀ (b : Nat) {W : World}, b ≤ n → b < l.length → SlS FK 2 W bv l → Calls Try.prog 12 #[bv, .int .i64 ((b : Nat) : Int)] W (Ret W fun v l' => IsS v ∧ l' = [Hp.own FI 1 v (pthN (blsP l) n b)]) := fun b W h1 h2 h3 => ih0 b h1 h2 h3 (by omega)
    exact path_step hok h40 hbn hbl hn hs ih
theorem position_any {W : World} {pv : Value} {xs : List Int} {x : Int} (hs : SlS FI 1 W pv xs) :
    Calls Try.prog 11 #[pv, .int .i64 x] W fun e w' => ∃ v, e = .returned v ∧ (∃ p : Int, v = .int .i64 p ∧ (p < 0 ↔ x ∉ xs)) ∧ Below W.heap.size W w' := by
  have hm9 := sls_bd hs
  refine calls_rel (Gx.enter (l := []) Try.func11 rfl Try.ntmps11 rfl (Sat.start W) ?_)
  refine Gx.know (m' := [(0, pv), (1, .int .i64 x)]) (.cons rfl (.cons rfl .nil)) ?_
  refine Gx.seq ?_
  refine Gx.region ?_
  refine Gx.val rfl rfl rfl (val_assign rfl rfl) ?_
  refine Gx.done ?_
  refine Gx.thenN ?_
  refine Gx.seq ?_
  refine Gx.seq ?_
  refine Gx.region ?_
  refine Gx.val rfl rfl rfl (val_assign rfl rfl) ?_
  refine Gx.done ?_
  refine Gx.thenN ?_
  refine Gx.block ?_
  refine Gx.loop (ι := Nat) (fun ξ => (ξ ≤ xs.length) ∧ (x ∉ xs.take ξ)) (fun ξ => [(0, pv), (1, .int .i64 x), (5, .int .i64 ((ξ : Nat) : Int))]) (fun ξ => []) (fun ξ => xs.length - ξ) 0 ⟨by first | omega | (dsimp only; omega), by simp⟩ ((.cons rfl (.cons rfl (.cons rfl .nil)))) rfl ?_
  rintro i ⟨hi, hno⟩
  refine Gx.know (m' := [(0, pv), (1, .int .i64 x), (5, .int .i64 ((i : Nat) : Int))]) (.cons rfl (.cons rfl (.cons rfl .nil))) (Gx.norm (l' := []) rfl ?_)
  refine Gx.seq ?_
  refine Gx.seq ?_
  refine Gx.region ?_
  refine Gx.val rfl rfl rfl (val_move rfl rfl) ?_
  refine Gx.val rfl rfl rfl (val_move rfl rfl) ?_
  refine Gx.val rfl rfl rfl (val_len rfl Try.underlying37 rfl (len_base hs)) ?_
  refine Gx.val rfl rfl rfl (val_lss rfl rfl rfl) ?_
  refine Gx.done ?_
  refine Gx.thenN ?_
  refine Gx.dec rfl (fun h1 => ?_) (fun h1 => ?_)
  · refine Gx.skip ?_
    refine Gx.thenN ?_
    refine Gx.seq ?_
    refine Gx.block ?_
    refine Gx.seq ?_
    refine Gx.region ?_
    refine Gx.val rfl rfl rfl (val_move rfl rfl) ?_
    refine Gx.val rfl rfl rfl (val_move rfl rfl) ?_
    obtain ⟨x2, hx2⟩ := get_of_lt (xs := xs) (k := i) (by omega)
    refine Gx.val rfl rfl rfl (val_ixa rfl Try.underlying37 Try.ty3 rfl rfl (j := i) (rfl) (reach_base hs hx2)) ?_
    refine Gx.val rfl rfl rfl (val_load rfl Try.ty3 rfl rfl (cell_base (i := 0) hs hx2 rfl)) ?_
    refine Gx.val rfl rfl rfl (val_move rfl rfl) ?_
    refine Gx.val rfl rfl rfl (val_eql rfl rfl rfl) ?_
    refine Gx.done ?_
    refine Gx.thenN ?_
    refine Gx.dec rfl (fun h3 => ?_) (fun h3 => ?_)
    · refine Gx.seq ?_
      refine Gx.region ?_
      refine Gx.val rfl rfl rfl (val_move rfl rfl) ?_
      refine Gx.val rfl rfl rfl (val_assign rfl rfl) ?_
      refine Gx.done ?_
      refine Gx.thenN ?_
      refine Gx.ret ?_
      refine Gx.blkR ?_
      refine Gx.thenR ?_
      refine Gx.thenR ?_
      refine Gx.blkR ?_
      refine Gx.thenR ?_
      refine Gx.ret1 Try.results11 rfl ?_
      exact ⟨_, rfl, ⟨fun q => by omega, fun q => absurd (by have h9 := List.mem_of_getElem? hx2; rw [h3] at h9; exact h9) q⟩⟩
    · refine Gx.skip ?_
      refine Gx.blkN ?_
      refine Gx.thenN ?_
      refine Gx.region ?_
      refine Gx.val rfl rfl rfl (val_move rfl rfl) ?_
      refine Gx.val rfl rfl rfl (val_add rfl rfl rfl (r := ((i + 1 : Nat) : Int)) (w64 (by omega) (by omega))) ?_
      refine Gx.val rfl rfl rfl (val_assign rfl rfl) ?_
      refine Gx.done ?_
      refine Gx.thenN ?_
      exact Gx.round (i + 1) ⟨by first | omega | (dsimp only; omega), by rw [take_snoc' hx2]; intro q; rcases List.mem_append.1 q with q | q; exact hno q; rw [List.mem_singleton] at q; omega⟩ (by first | omega | (dsimp only; omega)) ((.cons rfl (.cons rfl (.cons rfl .nil)))) rfl
  · refine Gx.exit ?_
    refine Gx.thenE ?_
    refine Gx.thenE ?_
    refine Gx.blkE ?_
    refine Gx.thenN ?_
    refine Gx.seq ?_
    refine Gx.region ?_
    refine Gx.val rfl rfl rfl (val_assign rfl rfl) ?_
    refine Gx.done ?_
    refine Gx.thenN ?_
    refine Gx.ret ?_
    refine Gx.ret1 Try.results11 rfl ?_
    exact ⟨-1, rfl, ⟨fun _ => by rw [← List.take_of_length_le (l := xs) (i := i) (by omega)]; exact hno, fun _ => by decide⟩⟩

theorem met_yes {W : World} {a0 a1 a2 a3 : Option Addr} {m0 c0 m1 c1 m2 c2 m3 c3 : Nat} {sv : Value} {kc : List Int} {l : List Bk} {ws ds : List Bool} {cs : List Sy} (h0 : SlS FZ 1 W (.slice a0 m0 c0) kc) (h1 : SlS FK 2 W (.slice a1 m1 c1) l) (h2 : SlS FB 1 W (.slice a2 m2 c2) ws) (h3 : SlS FB 1 W (.slice a3 m3 c3) ds) (hs : SlS FM 5 W sv cs)
    (e0 : kc.length = cs.length) (hok : Chn.OkC (blsP l)) (e2 : ws.length = l.length) (e3 : ds.length = l.length) : Calls Try.prog 9 #[.agg #[.slice a0 m0 c0, .slice a1 m1 c1, .slice a2 m2 c2, .slice a3 m3 c3], sv] W fun e w' => e = .returned (.bool true) ∧ Below W.heap.size W w' := by
  refine calls_pure (Gx.enter (l := []) Try.func9 rfl Try.ntmps9 rfl (Sat.start W) ?_)
  refine Gx.know (m' := [(0, .agg #[.slice a0 m0 c0, .slice a1 m1 c1, .slice a2 m2 c2, .slice a3 m3 c3]), (1, sv)]) (.cons rfl (.cons rfl .nil)) ?_
  refine Gx.seq ?_
  refine Gx.region ?_
  refine Gx.eff rfl rfl rfl (eff_box rfl rfl (vs := [.slice a0 m0 c0, .slice a1 m1 c1, .slice a2 m2 c2, .slice a3 m3 c3]) rfl) ?_
  rintro _ _ ⟨b1, rfl, rfl⟩
  refine Gx.val rfl rfl rfl (val_assign rfl rfl) ?_
  refine Gx.done ?_
  refine Gx.thenN ?_
  refine Gx.seq ?_
  refine Gx.region ?_
  refine Gx.val rfl rfl rfl (Val.cast (val_fieldAddr rfl Try.underlying28 rfl Try.ty24 rfl rfl) (v' := ptr b1 0) rfl) ?_
  refine Gx.val rfl rfl rfl (val_load rfl Try.ty24 rfl rfl (cell_rec (k := 0) rfl rfl)) ?_
  refine Gx.val rfl rfl rfl (val_len rfl Try.underlying24 rfl (len_base h0)) ?_
  refine Gx.val rfl rfl rfl (val_move rfl rfl) ?_
  refine Gx.val rfl rfl rfl (val_len rfl Try.underlying23 rfl (len_base hs)) ?_
  refine Gx.val rfl rfl rfl (val_eql rfl rfl rfl) ?_
  refine Gx.val rfl rfl rfl (val_move rfl rfl) ?_
  refine Gx.slot (t := 11) (v := .bool true) (look_decT rfl (by omega)) ?_
  refine Gx.valg rfl rfl rfl rfl rfl (Val.cast (val_fieldAddr rfl Try.underlying28 rfl Try.ty25 rfl rfl) (v' := ptr b1 1) rfl) ?_
  refine Gx.valg rfl rfl rfl rfl rfl (val_load rfl Try.ty25 rfl rfl (cell_rec (k := 0) rfl rfl)) ?_
  refine Gx.valg rfl rfl rfl rfl rfl (val_call (vs := [.slice a1 m1 c1]) rfl Try.fn18 rfl (fun w H => blocks_yes hok (h1.below H.below).toP)) ?_
  refine Gx.val rfl rfl rfl (val_pickT rfl rfl rfl) ?_
  refine Gx.val rfl rfl rfl (val_move rfl rfl) ?_
  refine Gx.valg rfl rfl rfl rfl rfl (Val.cast (val_fieldAddr rfl Try.underlying28 rfl Try.ty26 rfl rfl) (v' := ptr b1 2) rfl) ?_
  refine Gx.valg rfl rfl rfl rfl rfl (val_load rfl Try.ty26 rfl rfl (cell_rec (k := 0) rfl rfl)) ?_
  refine Gx.valg rfl rfl rfl rfl rfl (val_len rfl Try.underlying26 rfl (len_base h2)) ?_
  refine Gx.valg rfl rfl rfl rfl rfl (Val.cast (val_fieldAddr rfl Try.underlying28 rfl Try.ty25 rfl rfl) (v' := ptr b1 1) rfl) ?_
  refine Gx.valg rfl rfl rfl rfl rfl (val_load rfl Try.ty25 rfl rfl (cell_rec (k := 0) rfl rfl)) ?_
  refine Gx.valg rfl rfl rfl rfl rfl (val_len rfl Try.underlying25 rfl (len_base h1)) ?_
  refine Gx.valg rfl rfl rfl rfl rfl (val_eql rfl rfl rfl) ?_
  refine Gx.val rfl rfl rfl (val_pickT rfl rfl rfl) ?_
  refine Gx.val rfl rfl rfl (val_move rfl rfl) ?_
  refine Gx.slot (t := 25) (v := .bool true) (look_decT rfl (by omega)) ?_
  refine Gx.valg rfl rfl rfl rfl rfl (Val.cast (val_fieldAddr rfl Try.underlying28 rfl Try.ty26 rfl rfl) (v' := ptr b1 3) rfl) ?_
  refine Gx.valg rfl rfl rfl rfl rfl (val_load rfl Try.ty26 rfl rfl (cell_rec (k := 0) rfl rfl)) ?_
  refine Gx.valg rfl rfl rfl rfl rfl (val_len rfl Try.underlying26 rfl (len_base h3)) ?_
  refine Gx.valg rfl rfl rfl rfl rfl (Val.cast (val_fieldAddr rfl Try.underlying28 rfl Try.ty25 rfl rfl) (v' := ptr b1 1) rfl) ?_
  refine Gx.valg rfl rfl rfl rfl rfl (val_load rfl Try.ty25 rfl rfl (cell_rec (k := 0) rfl rfl)) ?_
  refine Gx.valg rfl rfl rfl rfl rfl (val_len rfl Try.underlying25 rfl (len_base h1)) ?_
  refine Gx.valg rfl rfl rfl rfl rfl (val_eql rfl rfl rfl) ?_
  refine Gx.val rfl rfl rfl (val_pickT rfl rfl rfl) ?_
  refine Gx.val rfl rfl rfl (val_assign rfl rfl) ?_
  refine Gx.done ?_
  refine Gx.thenN ?_
  refine Gx.ret ?_
  refine Gx.ret1 Try.results9 rfl ?_
  first | rfl | exact congrArg Value.bool (decide_eq_true (by omega))

end Go.Proofs.Ytghnahckopokhaa
