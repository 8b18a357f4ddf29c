/- Play. The walk. No condition. -/
import Derived.Test.YtmkhjlmhobihmaaA4
namespace Go.Proofs.Ytmkhjlmhobihmaa
open Go.RowKit
set_option linter.unusedVariables false
set_option linter.unusedSimpArgs false
set_option maxRecDepth 100000

def qB (l : List (Nat × Ms)) (n : Nat) : List (Option Nat) := l.map (fun m => some m.1) ++ List.replicate (n - l.length) none
theorem qB_set {l : List (Nat × Ms)} {n k b : Nat} (ms : Ms) (hk : k = l.length) (hn : k < n) : (qB l n).set k (some b) = qB (l ++ [(b, ms)]) n := by
  subst hk
  unfold qB
  obtain ⟨m, hm⟩ : ∃ m, n - l.length = m + 1 := ⟨n - l.length - 1, by omega⟩
  rw [List.set_append_right _ _ (by simp), hm, List.length_map, Nat.sub_self, List.replicate_succ, List.length_append, List.length_singleton, show n - (l.length + 1) = m by omega, List.map_append]
  simp
theorem qB_at {l : List (Nat × Ms)} {n k : Nat} {m : Nat × Ms} (h : l[k]? = some m) : (qB l n)[k]? = some (some m.1) := by
  unfold qB
  rw [List.getElem?_append_left (by rw [List.length_map]; exact (List.getElem?_eq_some_iff.1 h).1), List.getElem?_map, h]; rfl
theorem qB_no {l : List (Nat × Ms)} {n k : Nat} (hk : k = l.length) (hn : k < n) : (qB l n)[k]? = some none := by
  unfold qB
  rw [List.getElem?_append_right (by rw [List.length_map]; omega), List.getElem?_replicate, if_pos (by rw [List.length_map]; omega)]
theorem qB_eq (l : List (Nat × Ms)) (n b : Nat) (m m' : Ms) : qB (l ++ [(b, m)]) n = qB (l ++ [(b, m')]) n := by
  unfold qB; simp
theorem qB_len {l : List (Nat × Ms)} {n : Nat} (h : l.length ≤ n) : (qB l n).length = n := by
  unfold qB; simp; omega
structure MOk (P : Int → Prop) (ms : Ms) : Prop where
  nd : ms.Pairwise (fun p q => p.1 ≠ q.1)
  mem : ∀ x, x ∈ keysM ms ↔ P x
theorem nodup_subI : ∀ (l l' : List Int), l.Nodup → (∀ x ∈ l, x ∈ l') → l.length ≤ l'.length
  | [], _, _, _ => Nat.zero_le _
  | a :: l, l', hn, hs => by
    obtain ⟨h1, h2⟩ := List.nodup_cons.1 hn
    have := nodup_subI l (l'.erase a) h2 fun x hx => (List.mem_erase_of_ne (fun e => by subst e; exact h1 hx)).2 (hs x (by simp [hx]))
    have h3 := List.length_erase_of_mem (hs a (by simp))
    have h4 := List.length_pos_of_mem (hs a (by simp))
    simp only [List.length_cons]; omega
theorem MOk.len {P : Int → Prop} {ms : Ms} {vs : List Int} (h : MOk P ms) (hs : ∀ x, P x → x ∈ vs) : ms.length ≤ vs.length := by
  have h1 : (keysM ms).Nodup := by
    unfold keysM
    rw [List.nodup_iff_pairwise_ne, List.pairwise_map]; exact h.nd
  have := nodup_subI (keysM ms) vs h1 fun x hx => hs x ((h.mem x).1 hx)
  unfold keysM at this; rwa [List.length_map] at this
theorem MOk.congr {P Q : Int → Prop} {ms : Ms} (h : MOk P ms) (e : ∀ x, P x ↔ Q x) : MOk Q ms := ⟨h.nd, fun x => (h.mem x).trans (e x)⟩
def KOk (cs : List Cr) (vs : List Int) (r : Nat) (pms : List (Nat × Ms)) : Prop := ∀ (j : Nat) (m : Nat × Ms), pms[j]? = some m → MOk (Kn cs vs r j) m.2
theorem KOk.snoc {cs : List Cr} {vs : List Int} {r j b : Nat} {pms : List (Nat × Ms)} {ms : Ms} (h : KOk cs vs r pms) (hj : pms.length = j) (hm : MOk (Kn cs vs r j) ms) : KOk cs vs r (pms ++ [(b, ms)]) := fun i m hi => by
  rcases Nat.lt_or_ge i pms.length with q | q
  · rw [List.getElem?_append_left q] at hi; exact h i m hi
  · rw [List.getElem?_append_right q] at hi
    obtain ⟨h1, h2⟩ := List.getElem?_eq_some_iff.1 hi
    simp at h1
    obtain rfl : i = j := by omega
    have : i - pms.length = 0 := by omega
    simp [this] at h2; subst h2; exact hm
def Ks (cs : List Cr) (vs : List Int) (r j i : Nat) (x : Int) : Prop := Kn cs vs r j x ∨ ∃ i', i' < i ∧ i' ≠ j ∧ sendsF cs (i' : Int) j (r : Int) = true ∧ Kn cs vs r i' x
theorem Ks.zero {cs : List Cr} {vs : List Int} {r j : Nat} (x : Int) : Kn cs vs r j x ↔ Ks cs vs r j 0 x := ⟨.inl, fun h => h.elim id fun ⟨_, h, _⟩ => absurd h (Nat.not_lt_zero _)⟩
theorem Ks.not {cs : List Cr} {vs : List Int} {r j i : Nat} (h : ¬ (i ≠ j ∧ sendsF cs (i : Int) j (r : Int) = true)) (x : Int) : Ks cs vs r j i x ↔ Ks cs vs r j (i + 1) x :=
  ⟨fun q => q.elim .inl fun ⟨i', h1, h2⟩ => .inr ⟨i', by omega, h2⟩, fun q => q.elim .inl fun ⟨i', h1, h2, h3, h4⟩ => by
    rcases Nat.lt_or_eq_of_le (Nat.le_of_lt_succ h1) with e | e
    · exact .inr ⟨i', e, h2, h3, h4⟩
    · subst e; exact absurd ⟨h2, h3⟩ h⟩
theorem Ks.yes {cs : List Cr} {vs : List Int} {r j i : Nat} (h1 : i ≠ j) (h2 : sendsF cs (i : Int) j (r : Int) = true) {md im md2 : Ms} (hd : MOk (Ks cs vs r j i) md) (hi : MOk (Kn cs vs r i) im) (h : (∀ x, x ∈ keysM md2 ↔ x ∈ keysM md ∨ x ∈ keysM im) ∧ md2.length ≤ md.length + im.length ∧ md2.Pairwise (fun p q => p.1 ≠ q.1)) : MOk (Ks cs vs r j (i + 1)) md2 :=
  ⟨h.2.2, fun x => by
    rw [h.1, hd.mem, hi.mem]
    constructor
    · rintro ((q | ⟨i', a, b⟩) | q)
      · exact .inl q
      · exact .inr ⟨i', by omega, b⟩
      · exact .inr ⟨i, by omega, h1, h2, q⟩
    · rintro (q | ⟨i', a, b, c, d⟩)
      · exact .inl (.inl q)
      · rcases Nat.lt_or_eq_of_le (Nat.le_of_lt_succ a) with e | e
        · exact .inl (.inr ⟨i', e, b, c, d⟩)
        · subst e; exact .inr d⟩
theorem Ks.mem {cs : List Cr} {vs : List Int} {r j i : Nat} {x : Int} (h : Ks cs vs r j i x) : x ∈ vs := h.elim Kn.mem fun ⟨_, _, _, _, h⟩ => Kn.mem h
theorem lst_take {cs : List Cr} {vs : List Int} {r i : Nat} {m : Int} {ks : List Int} (hi : i < vs.length) (hk : ∀ x, x ∈ ks ↔ Kn cs vs r i x) (hm : m ∈ ks ∧ ∀ x ∈ ks, m ≤ x) : (lstF cs vs r).take (i + 1) = (lstF cs vs r).take i ++ [m] := by
  have : (lstF cs vs r)[i]? = some m := by
    unfold lstF
    rw [List.getElem?_map, List.getElem?_range hi]
    exact congrArg some (minP_of ((hk m).1 hm.1) fun x hx => hm.2 x ((hk x).2 hx))
  exact take_of this
theorem lst_len (cs : List Cr) (vs : List Int) (r : Nat) : (lstF cs vs r).length = vs.length := by unfold lstF; simp
theorem play_no1 {W : World} {vs va : Value} {vals : List Int} {cs : List Cr} (hv : SlS FI 1 W vs vals) (ha : SlS FC 3 W va cs) {r : Int} (hbad : vals.length = 0 ∨ 6 < vals.length ∨ r < 0 ∨ 6 < r ∨ 6 < cs.length) : Calls Try.prog 6 #[vs, .int .i64 r, va] W fun e w' => e = .returned (.tuple #[.slice none 0 0, .int .i64 1]) ∧ Below W.heap.size W w' := by
  have m1 := sls_bd ha
  have m2 := sls_bd hv
  refine calls_pure (Gx.enter (l := []) Try.func6 rfl Try.ntmps6 rfl (Sat.start W) ?_)
  refine Gx.know (m' := [(0, vs), (1, .int .i64 r), (2, va)]) (.cons rfl (.cons rfl (.cons rfl .nil))) ?_
  refine Gx.seq ?_
  refine Gx.region ?_
  refine Gx.val rfl rfl rfl (val_assign rfl rfl) ?_
  refine Gx.val rfl rfl rfl (val_assign rfl rfl) ?_
  refine Gx.done ?_
  refine Gx.thenN ?_
  refine Gx.seq ?_
  refine Gx.region ?_
  refine Gx.val rfl rfl rfl (val_move rfl rfl) ?_
  refine Gx.val rfl rfl rfl (val_len rfl Try.underlying22 rfl (len_base hv)) ?_
  refine Gx.val rfl rfl rfl (val_assign rfl rfl) ?_
  refine Gx.done ?_
  refine Gx.thenN ?_
  refine Gx.seq ?_
  refine Gx.seq ?_
  refine Gx.region ?_
  refine Gx.val rfl rfl rfl (val_move rfl rfl) ?_
  refine Gx.val rfl rfl rfl (val_eql rfl rfl rfl) ?_
  refine Gx.val rfl rfl rfl (val_move rfl rfl) ?_
  refine Gx.cases (t := 24) rfl (fun h1 => ?_) (fun h1 => ?_)
  · refine Gx.skipg rfl rfl rfl rfl rfl rfl ?_
    refine Gx.skipg rfl rfl rfl rfl rfl rfl ?_
    refine Gx.val rfl rfl rfl (val_pickT rfl rfl rfl) ?_
    refine Gx.val rfl rfl rfl (val_move rfl rfl) ?_
    refine Gx.skipg rfl rfl rfl rfl rfl rfl ?_
    refine Gx.skipg rfl rfl rfl rfl rfl rfl ?_
    refine Gx.val rfl rfl rfl (val_pickT rfl rfl rfl) ?_
    refine Gx.val rfl rfl rfl (val_move rfl rfl) ?_
    refine Gx.skipg rfl rfl rfl rfl rfl rfl ?_
    refine Gx.skipg rfl rfl rfl rfl rfl rfl ?_
    refine Gx.val rfl rfl rfl (val_pickT rfl rfl rfl) ?_
    refine Gx.val rfl rfl rfl (val_move rfl rfl) ?_
    refine Gx.skipg rfl rfl rfl rfl rfl rfl ?_
    refine Gx.skipg rfl rfl rfl rfl rfl rfl ?_
    refine Gx.skipg rfl rfl rfl rfl rfl rfl ?_
    refine Gx.val rfl rfl rfl (val_pickT rfl rfl rfl) ?_
    refine Gx.done ?_
    refine Gx.thenN ?_
    refine Gx.t rfl ?_
    refine Gx.seq ?_
    refine Gx.region ?_
    refine Gx.val rfl rfl rfl (val_assign rfl rfl) ?_
    refine Gx.val rfl rfl rfl (val_assign rfl rfl) ?_
    refine Gx.done ?_
    refine Gx.thenN ?_
    refine Gx.ret ?_
    refine Gx.thenR ?_
    refine Gx.ret2 Try.results6 rfl rfl ?_
    rfl
  · refine Gx.valg rfl rfl rfl rfl rfl (val_move rfl rfl) ?_
    refine Gx.valg rfl rfl rfl rfl rfl (val_gtr rfl rfl rfl) ?_
    refine Gx.val rfl rfl rfl (val_pickF rfl rfl rfl) ?_
    refine Gx.val rfl rfl rfl (val_move rfl rfl) ?_
    refine Gx.cases (t := 28) rfl (fun h2 => ?_) (fun h2 => ?_)
    · refine Gx.skipg rfl rfl rfl rfl rfl rfl ?_
      refine Gx.skipg rfl rfl rfl rfl rfl rfl ?_
      refine Gx.val rfl rfl rfl (val_pickT rfl rfl rfl) ?_
      refine Gx.val rfl rfl rfl (val_move rfl rfl) ?_
      refine Gx.skipg rfl rfl rfl rfl rfl rfl ?_
      refine Gx.skipg rfl rfl rfl rfl rfl rfl ?_
      refine Gx.val rfl rfl rfl (val_pickT rfl rfl rfl) ?_
      refine Gx.val rfl rfl rfl (val_move rfl rfl) ?_
      refine Gx.skipg rfl rfl rfl rfl rfl rfl ?_
      refine Gx.skipg rfl rfl rfl rfl rfl rfl ?_
      refine Gx.skipg rfl rfl rfl rfl rfl rfl ?_
      refine Gx.val rfl rfl rfl (val_pickT rfl rfl rfl) ?_
      refine Gx.done ?_
      refine Gx.thenN ?_
      refine Gx.t rfl ?_
      refine Gx.seq ?_
      refine Gx.region ?_
      refine Gx.val rfl rfl rfl (val_assign rfl rfl) ?_
      refine Gx.val rfl rfl rfl (val_assign rfl rfl) ?_
      refine Gx.done ?_
      refine Gx.thenN ?_
      refine Gx.ret ?_
      refine Gx.thenR ?_
      refine Gx.ret2 Try.results6 rfl rfl ?_
      rfl
    · refine Gx.valg rfl rfl rfl rfl rfl (val_move rfl rfl) ?_
      refine Gx.valg rfl rfl rfl rfl rfl (val_lss rfl rfl rfl) ?_
      refine Gx.val rfl rfl rfl (val_pickF rfl rfl rfl) ?_
      refine Gx.val rfl rfl rfl (val_move rfl rfl) ?_
      refine Gx.cases (t := 32) rfl (fun h3 => ?_) (fun h3 => ?_)
      · refine Gx.skipg rfl rfl rfl rfl rfl rfl ?_
        refine Gx.skipg rfl rfl rfl rfl rfl rfl ?_
        refine Gx.val rfl rfl rfl (val_pickT rfl rfl rfl) ?_
        refine Gx.val rfl rfl rfl (val_move rfl rfl) ?_
        refine Gx.skipg rfl rfl rfl rfl rfl rfl ?_
        refine Gx.skipg rfl rfl rfl rfl rfl rfl ?_
        refine Gx.skipg rfl rfl rfl rfl rfl rfl ?_
        refine Gx.val rfl rfl rfl (val_pickT rfl rfl rfl) ?_
        refine Gx.done ?_
        refine Gx.thenN ?_
        refine Gx.t rfl ?_
        refine Gx.seq ?_
        refine Gx.region ?_
        refine Gx.val rfl rfl rfl (val_assign rfl rfl) ?_
        refine Gx.val rfl rfl rfl (val_assign rfl rfl) ?_
        refine Gx.done ?_
        refine Gx.thenN ?_
        refine Gx.ret ?_
        refine Gx.thenR ?_
        refine Gx.ret2 Try.results6 rfl rfl ?_
        rfl
      · refine Gx.valg rfl rfl rfl rfl rfl (val_move rfl rfl) ?_
        refine Gx.valg rfl rfl rfl rfl rfl (val_gtr rfl rfl rfl) ?_
        refine Gx.val rfl rfl rfl (val_pickF rfl rfl rfl) ?_
        refine Gx.val rfl rfl rfl (val_move rfl rfl) ?_
        refine Gx.cases (t := 36) rfl (fun h4 => ?_) (fun h4 => ?_)
        · refine Gx.skipg rfl rfl rfl rfl rfl rfl ?_
          refine Gx.skipg rfl rfl rfl rfl rfl rfl ?_
          refine Gx.skipg rfl rfl rfl rfl rfl rfl ?_
          refine Gx.val rfl rfl rfl (val_pickT rfl rfl rfl) ?_
          refine Gx.done ?_
          refine Gx.thenN ?_
          refine Gx.t rfl ?_
          refine Gx.seq ?_
          refine Gx.region ?_
          refine Gx.val rfl rfl rfl (val_assign rfl rfl) ?_
          refine Gx.val rfl rfl rfl (val_assign rfl rfl) ?_
          refine Gx.done ?_
          refine Gx.thenN ?_
          refine Gx.ret ?_
          refine Gx.thenR ?_
          refine Gx.ret2 Try.results6 rfl rfl ?_
          rfl
        · refine Gx.valg rfl rfl rfl rfl rfl (val_move rfl rfl) ?_
          refine Gx.valg rfl rfl rfl rfl rfl (val_len rfl Try.underlying23 rfl (len_base ha)) ?_
          refine Gx.valg rfl rfl rfl rfl rfl (val_gtr rfl rfl rfl) ?_
          refine Gx.val rfl rfl rfl (val_pickF rfl rfl rfl) ?_
          refine Gx.done ?_
          refine Gx.thenN ?_
          refine Gx.decT rfl (by omega) ?_
          refine Gx.seq ?_
          refine Gx.region ?_
          refine Gx.val rfl rfl rfl (val_assign rfl rfl) ?_
          refine Gx.val rfl rfl rfl (val_assign rfl rfl) ?_
          refine Gx.done ?_
          refine Gx.thenN ?_
          refine Gx.ret ?_
          refine Gx.thenR ?_
          refine Gx.ret2 Try.results6 rfl rfl ?_
          rfl

theorem play_no2 {W : World} {vs va : Value} {vals : List Int} {cs : List Cr} (hv : SlS FI 1 W vs vals) (ha : SlS FC 3 W va cs) {R : Nat} (hto : ∀ c ∈ cs, c.to_ < 4294967296) (hn1 : 1 ≤ vals.length) (hn6 : vals.length ≤ 6) (hr6 : R ≤ 6) (hc6 : cs.length ≤ 6) (hbad : wrC vals.length cs [] ≠ 0) : Calls Try.prog 6 #[vs, .int .i64 ((R : Nat) : Int), va] W fun e w' => e = .returned (.tuple #[.slice none 0 0, .int .i64 (wrC vals.length cs [])]) ∧ Below W.heap.size W w' := by
  have m1 := sls_bd ha
  have m2 := sls_bd hv
  refine calls_pure (Gx.enter (l := []) Try.func6 rfl Try.ntmps6 rfl (Sat.start W) ?_)
  refine Gx.know (m' := [(0, vs), (1, .int .i64 ((R : Nat) : Int)), (2, va)]) (.cons rfl (.cons rfl (.cons rfl .nil))) ?_
  refine Gx.seq ?_
  refine Gx.region ?_
  refine Gx.val rfl rfl rfl (val_assign rfl rfl) ?_
  refine Gx.val rfl rfl rfl (val_assign rfl rfl) ?_
  refine Gx.done ?_
  refine Gx.thenN ?_
  refine Gx.seq ?_
  refine Gx.region ?_
  refine Gx.val rfl rfl rfl (val_move rfl rfl) ?_
  refine Gx.val rfl rfl rfl (val_len rfl Try.underlying22 rfl (len_base hv)) ?_
  refine Gx.val rfl rfl rfl (val_assign rfl rfl) ?_
  refine Gx.done ?_
  refine Gx.thenN ?_
  refine Gx.seq ?_
  refine Gx.seq ?_
  refine Gx.region ?_
  refine Gx.val rfl rfl rfl (val_move rfl rfl) ?_
  refine Gx.val rfl rfl rfl (val_eql rfl rfl rfl) ?_
  refine Gx.val rfl rfl rfl (val_move rfl rfl) ?_
  refine Gx.slot (t := 24) (v := .bool false) (look_decF rfl (by omega)) ?_
  refine Gx.valg rfl rfl rfl rfl rfl (val_move rfl rfl) ?_
  refine Gx.valg rfl rfl rfl rfl rfl (val_gtr rfl rfl rfl) ?_
  refine Gx.val rfl rfl rfl (val_pickF rfl rfl rfl) ?_
  refine Gx.val rfl rfl rfl (val_move rfl rfl) ?_
  refine Gx.slot (t := 28) (v := .bool false) (look_decF rfl (by omega)) ?_
  refine Gx.valg rfl rfl rfl rfl rfl (val_move rfl rfl) ?_
  refine Gx.valg rfl rfl rfl rfl rfl (val_lss rfl rfl rfl) ?_
  refine Gx.val rfl rfl rfl (val_pickF rfl rfl rfl) ?_
  refine Gx.val rfl rfl rfl (val_move rfl rfl) ?_
  refine Gx.slot (t := 32) (v := .bool false) (look_decF rfl (by omega)) ?_
  refine Gx.valg rfl rfl rfl rfl rfl (val_move rfl rfl) ?_
  refine Gx.valg rfl rfl rfl rfl rfl (val_gtr rfl rfl rfl) ?_
  refine Gx.val rfl rfl rfl (val_pickF rfl rfl rfl) ?_
  refine Gx.val rfl rfl rfl (val_move rfl rfl) ?_
  refine Gx.slot (t := 36) (v := .bool false) (look_decF rfl (by omega)) ?_
  refine Gx.valg rfl rfl rfl rfl rfl (val_move rfl rfl) ?_
  refine Gx.valg rfl rfl rfl rfl rfl (val_len rfl Try.underlying23 rfl (len_base ha)) ?_
  refine Gx.valg rfl rfl rfl rfl rfl (val_gtr rfl rfl rfl) ?_
  refine Gx.val rfl rfl rfl (val_pickF rfl rfl rfl) ?_
  refine Gx.done ?_
  refine Gx.thenN ?_
  refine Gx.decF rfl (by omega) ?_
  refine Gx.skip ?_
  refine Gx.thenN ?_
  refine Gx.seq ?_
  refine Gx.seq ?_
  refine Gx.region ?_
  refine Gx.val rfl rfl rfl (val_move rfl rfl) ?_
  refine Gx.val rfl rfl rfl (val_move rfl rfl) ?_
  refine Gx.val rfl rfl rfl (val_call (vs := [.int .i64 ((vals.length : Nat) : Int), va]) rfl Try.fn12 rfl (fun w H => wrong_any (ha.below H.below) hto hn6 hc6)) ?_
  refine Gx.val rfl rfl rfl (val_assign rfl rfl) ?_
  refine Gx.done ?_
  refine Gx.thenN ?_
  refine Gx.seq ?_
  refine Gx.region ?_
  refine Gx.val rfl rfl rfl (val_move rfl rfl) ?_
  refine Gx.val rfl rfl rfl (val_neq rfl rfl rfl) ?_
  refine Gx.done ?_
  refine Gx.thenN ?_
  refine Gx.decT rfl (hbad) ?_
  refine Gx.seq ?_
  refine Gx.region ?_
  refine Gx.val rfl rfl rfl (val_move rfl rfl) ?_
  refine Gx.val rfl rfl rfl (val_assign rfl rfl) ?_
  refine Gx.val rfl rfl rfl (val_assign rfl rfl) ?_
  refine Gx.done ?_
  refine Gx.thenN ?_
  refine Gx.ret ?_
  refine Gx.thenR ?_
  refine Gx.ret2 Try.results6 rfl rfl ?_
  rfl

theorem play_ok {W : World} {vs va : Value} {vals : List Int} {cs : List Cr} (hv : SlS FI 1 W vs vals) (ha : SlS FC 3 W va cs) {R : Nat} (hto : ∀ c ∈ cs, c.to_ < 4294967296) (hn1 : 1 ≤ vals.length) (hn6 : vals.length ≤ 6) (hr6 : R ≤ 6) (hc6 : cs.length ≤ 6) (hin : ∀ x ∈ vals, In x) (hok : wrC vals.length cs [] = 0) : Calls Try.prog 6 #[vs, .int .i64 ((R : Nat) : Int), va] W fun e w' => ∃ v, e = .returned v ∧ (∃ lv, v = .tuple #[lv, .int .i64 0] ∧ SlS FI 1 w' lv (lstF cs vals R)) ∧ Below W.heap.size W w' := by
  have m1 := sls_bd ha
  have m2 := sls_bd hv
  refine calls_some (S := fun v l => ∃ (lv : Value), v = .tuple #[lv, .int .i64 0] ∧ l = [Hp.own FI 1 lv (lstF cs vals R)]) (Gx.enter (l := []) Try.func6 rfl Try.ntmps6 rfl (Sat.start W) ?_) ?_
  refine Gx.know (m' := [(0, vs), (1, .int .i64 ((R : Nat) : Int)), (2, va)]) (.cons rfl (.cons rfl (.cons rfl .nil))) ?_
  refine Gx.seq ?_
  refine Gx.region ?_
  refine Gx.val rfl rfl rfl (val_assign rfl rfl) ?_
  refine Gx.val rfl rfl rfl (val_assign rfl rfl) ?_
  refine Gx.done ?_
  refine Gx.thenN ?_
  refine Gx.seq ?_
  refine Gx.region ?_
  refine Gx.val rfl rfl rfl (val_move rfl rfl) ?_
  refine Gx.val rfl rfl rfl (val_len rfl Try.underlying22 rfl (len_base hv)) ?_
  refine Gx.val rfl rfl rfl (val_assign rfl rfl) ?_
  refine Gx.done ?_
  refine Gx.thenN ?_
  refine Gx.seq ?_
  refine Gx.seq ?_
  refine Gx.region ?_
  refine Gx.val rfl rfl rfl (val_move rfl rfl) ?_
  refine Gx.val rfl rfl rfl (val_eql rfl rfl rfl) ?_
  refine Gx.val rfl rfl rfl (val_move rfl rfl) ?_
  refine Gx.slot (t := 24) (v := .bool false) (look_decF rfl (by omega)) ?_
  refine Gx.valg rfl rfl rfl rfl rfl (val_move rfl rfl) ?_
  refine Gx.valg rfl rfl rfl rfl rfl (val_gtr rfl rfl rfl) ?_
  refine Gx.val rfl rfl rfl (val_pickF rfl rfl rfl) ?_
  refine Gx.val rfl rfl rfl (val_move rfl rfl) ?_
  refine Gx.slot (t := 28) (v := .bool false) (look_decF rfl (by omega)) ?_
  refine Gx.valg rfl rfl rfl rfl rfl (val_move rfl rfl) ?_
  refine Gx.valg rfl rfl rfl rfl rfl (val_lss rfl rfl rfl) ?_
  refine Gx.val rfl rfl rfl (val_pickF rfl rfl rfl) ?_
  refine Gx.val rfl rfl rfl (val_move rfl rfl) ?_
  refine Gx.slot (t := 32) (v := .bool false) (look_decF rfl (by omega)) ?_
  refine Gx.valg rfl rfl rfl rfl rfl (val_move rfl rfl) ?_
  refine Gx.valg rfl rfl rfl rfl rfl (val_gtr rfl rfl rfl) ?_
  refine Gx.val rfl rfl rfl (val_pickF rfl rfl rfl) ?_
  refine Gx.val rfl rfl rfl (val_move rfl rfl) ?_
  refine Gx.slot (t := 36) (v := .bool false) (look_decF rfl (by omega)) ?_
  refine Gx.valg rfl rfl rfl rfl rfl (val_move rfl rfl) ?_
  refine Gx.valg rfl rfl rfl rfl rfl (val_len rfl Try.underlying23 rfl (len_base ha)) ?_
  refine Gx.valg rfl rfl rfl rfl rfl (val_gtr rfl rfl rfl) ?_
  refine Gx.val rfl rfl rfl (val_pickF rfl rfl rfl) ?_
  refine Gx.done ?_
  refine Gx.thenN ?_
  refine Gx.decF rfl (by omega) ?_
  refine Gx.skip ?_
  refine Gx.thenN ?_
  refine Gx.seq ?_
  refine Gx.seq ?_
  refine Gx.region ?_
  refine Gx.val rfl rfl rfl (val_move rfl rfl) ?_
  refine Gx.val rfl rfl rfl (val_move rfl rfl) ?_
  refine Gx.val rfl rfl rfl (val_call (vs := [.int .i64 ((vals.length : Nat) : Int), va]) rfl Try.fn12 rfl (fun w H => wrong_any (ha.below H.below) hto hn6 hc6)) ?_
  refine Gx.val rfl rfl rfl (val_assign rfl rfl) ?_
  refine Gx.done ?_
  refine Gx.thenN ?_
  refine Gx.seq ?_
  refine Gx.region ?_
  refine Gx.val rfl rfl rfl (val_move rfl rfl) ?_
  refine Gx.val rfl rfl rfl (val_neq rfl rfl rfl) ?_
  refine Gx.done ?_
  refine Gx.thenN ?_
  refine Gx.decF rfl (fun q => q hok) ?_
  refine Gx.skip ?_
  refine Gx.thenN ?_
  refine Gx.seq ?_
  refine Gx.region ?_
  refine Gx.val rfl rfl rfl (val_move rfl rfl) ?_
  refine Gx.eff rfl rfl rfl (eff_makeSlice (n := vals.length) (f := FQ) rfl Try.underlying37 Try.ty38 rfl rfl (rfl) (rfl) FQ_len none rfl (by omega) (by omega)) ?_
  rintro v1 _ ⟨hiv1, rfl⟩
  refine Gx.val rfl rfl rfl (val_assign rfl rfl) ?_
  refine Gx.done ?_
  refine Gx.thenN ?_
  refine Gx.seq ?_
  refine Gx.seq ?_
  refine Gx.norm (l' := [Hp.own FQ 1 v1 (qB ([] : List (Nat × Ms)) vals.length)]) (rfl) ?_
  refine Gx.emp ?_
  refine Gx.norm (l' := [Hp.big kH ([] : List (Nat × Ms)), Hp.own FQ 1 v1 (qB ([] : List (Nat × Ms)) vals.length)]) (rfl) ?_
  refine Gx.region ?_
  refine Gx.val rfl rfl rfl (val_move rfl rfl) ?_
  refine Gx.val rfl rfl rfl (val_len rfl Try.underlying22 rfl (len_base hv)) ?_
  refine Gx.val rfl rfl rfl (val_move rfl rfl) ?_
  refine Gx.done ?_
  refine Gx.thenN ?_
  refine Gx.block ?_
  refine Gx.front 0 rfl ?_
  refine Gx.front 1 rfl ?_
  refine Gx.loop (ι := Nat × (List (Nat × Ms))) (fun ξ => (ξ.1 ≤ vals.length) ∧ (ξ.2.length = ξ.1) ∧ (KOk cs vals 0 ξ.2)) (fun ξ => [(1, .int .i64 ((R : Nat) : Int)), (2, va), (8, .int .i64 ((vals.length : Nat) : Int)), (10, v1), (49, vs), (50, .int .i64 ((vals.length : Nat) : Int)), (51, .int .i64 ((ξ.1 : Nat) : Int))]) (fun ξ => [Hp.own FQ 1 v1 (qB ξ.2 vals.length), Hp.big kH ξ.2]) (fun ξ => vals.length - ξ.1) (0, ([] : List (Nat × Ms))) ⟨by first | omega | (dsimp only; omega), rfl, fun j m h => by simp at h⟩ ((.cons rfl (.cons rfl (.cons rfl (.cons rfl (.cons rfl (.cons rfl (.cons rfl .nil)))))))) rfl ?_
  rintro ⟨k, pms⟩ ⟨hk, hpl, hK⟩
  dsimp only at hk hpl hK
  refine Gx.know (m' := [(1, .int .i64 ((R : Nat) : Int)), (2, va), (8, .int .i64 ((vals.length : Nat) : Int)), (10, v1), (49, vs), (50, .int .i64 ((vals.length : Nat) : Int)), (51, .int .i64 ((k : Nat) : Int))]) (.cons rfl (.cons rfl (.cons rfl (.cons rfl (.cons rfl (.cons rfl (.cons rfl .nil))))))) (Gx.norm (l' := [Hp.own FQ 1 v1 (qB pms vals.length), Hp.big kH pms]) rfl ?_)
  refine Gx.seq ?_
  refine Gx.region ?_
  refine Gx.val rfl rfl rfl (val_lss rfl rfl rfl) ?_
  refine Gx.done ?_
  refine Gx.thenN ?_
  refine Gx.seq ?_
  refine Gx.dec rfl (fun h2 => ?_) (fun h2 => ?_)
  · refine Gx.skip ?_
    refine Gx.thenN ?_
    refine Gx.seq ?_
    refine Gx.block ?_
    refine Gx.seq ?_
    refine Gx.region ?_
    refine Gx.val rfl rfl rfl (val_move rfl rfl) ?_
    obtain ⟨x3, hx3⟩ := get_of_lt (xs := vals) (k := k) (by omega)
    refine Gx.val rfl rfl rfl (val_ixa rfl Try.underlying22 Try.ty3 rfl rfl (j := k) (rfl) (reach_base hv hx3)) ?_
    refine Gx.val rfl rfl rfl (val_load rfl Try.ty3 rfl rfl (cell_base (i := 0) hv hx3 rfl)) ?_
    refine Gx.val rfl rfl rfl (val_assign rfl rfl) ?_
    refine Gx.val rfl rfl rfl (val_assign rfl rfl) ?_
    refine Gx.done ?_
    refine Gx.thenN ?_
    have hqn := qB_no (n := vals.length) hpl.symm (by omega)
    have hix := hin x3 (List.mem_of_getElem? hx3)
    refine Gx.region ?_
    refine Gx.val rfl rfl rfl (val_move rfl rfl) ?_
    refine Gx.val rfl rfl rfl (val_move rfl rfl) ?_
    refine Gx.eff rfl rfl rfl (eff_makeMap 3 intL intV rfl) ?_
    rintro _ _ ⟨b4, rfl, rfl⟩
    refine Gx.val rfl rfl rfl (val_move rfl rfl) ?_
    refine Gx.eff0 rfl rfl (eff_insert (vf := intV) rfl Try.underlying38 Try.kI intK rfl rfl rfl (i := x3) (r := 1) (hix) (k := 0) rfl (by decide) (l' := [Hp.map Try.prog 3 intL intV b4 (putM ([]) x3 1), Hp.own FQ 1 v1 (qB pms vals.length), Hp.big kH pms]) rfl) ?_
    rintro _ _ rfl
    refine Gx.val rfl rfl rfl (val_move rfl rfl) ?_
    refine Gx.val rfl rfl rfl (val_ixa rfl Try.underlying37 Try.ty38 rfl rfl (j := k) (rfl) (reach_own (k := 1) rfl hqn)) ?_
    refine Gx.eff0 rfl rfl (eff_storeElA (some b4) rfl Try.ty38 rfl rfl rfl FQ_one (k := 1) rfl FQ_len hqn (l' := [Hp.map Try.prog 3 intL intV b4 (putM ([]) x3 1), Hp.own FQ 1 v1 (((qB pms vals.length)).set k (some b4)), Hp.big kH pms]) rfl) ?_
    rintro _ _ rfl
    refine Gx.done ?_
    refine Gx.blkN ?_
    refine Gx.thenN ?_
    refine Gx.norm (l' := [Hp.map Try.prog 3 intL intV b4 (putM ([]) x3 1), Hp.own FQ 1 v1 (qB (pms ++ [(b4, [(x3, 1)])]) vals.length), Hp.big kH pms]) (by rw [qB_set [(x3, 1)] hpl.symm (by omega)] <;> rfl) ?_
    refine Gx.norm (l' := [Hp.map Try.prog 3 intL intV b4 ([(x3, 1)]), Hp.own FQ 1 v1 (qB (pms ++ [(b4, [(x3, 1)])]) vals.length), Hp.big kH pms]) (rfl) ?_
    refine Gx.merge 2 0 rfl rfl (by rw [Hp.big_append]; show _ = _ * _; rw [show Hp.big kH [(b4, [(x3, 1)])] = kH (b4, [(x3, 1)]) * 1 from rfl, Hp.mul_one]; rfl) (l' := [Hp.big kH (pms ++ [(b4, [(x3, 1)])]), Hp.own FQ 1 v1 (qB (pms ++ [(b4, [(x3, 1)])]) vals.length)]) rfl ?_
    refine Gx.region ?_
    refine Gx.val rfl rfl rfl (val_add rfl rfl rfl (r := ((k + 1 : Nat) : Int)) (w64 (by omega) (by omega))) ?_
    refine Gx.val rfl rfl rfl (val_move rfl rfl) ?_
    refine Gx.done ?_
    refine Gx.thenN ?_
    refine Gx.front 0 rfl ?_
    refine Gx.front 1 rfl ?_
    exact Gx.round (k + 1, (pms ++ [(b4, [(x3, 1)])])) ⟨by first | omega | (dsimp only; omega), by simp; omega, hK.snoc hpl ⟨List.pairwise_singleton .., fun x => by show x ∈ [x3] ↔ vals[k]? = some x; rw [hx3, List.mem_singleton]; exact ⟨fun h => congrArg some h.symm, fun h => (Option.some.inj h).symm⟩⟩⟩ (by first | omega | (dsimp only; omega)) ((.cons rfl (.cons rfl (.cons rfl (.cons rfl (.cons rfl (.cons rfl (.cons rfl .nil)))))))) rfl
  · refine Gx.exit ?_
    refine Gx.thenE ?_
    refine Gx.thenE ?_
    refine Gx.blkE ?_
    refine Gx.thenN ?_
    refine Gx.seq ?_
    refine Gx.seq ?_
    refine Gx.region ?_
    refine Gx.val rfl rfl rfl (val_move rfl rfl) ?_
    refine Gx.val rfl rfl rfl (val_move rfl rfl) ?_
    refine Gx.done ?_
    refine Gx.thenN ?_
    refine Gx.block ?_
    refine Gx.loop (ι := Nat × (List (Nat × Ms)) × Value) (fun ξ => (ξ.1 ≤ R) ∧ (ξ.2.1.length = vals.length) ∧ (KOk cs vals ξ.1 ξ.2.1) ∧ (IsS ξ.2.2)) (fun ξ => [(2, va), (8, .int .i64 ((vals.length : Nat) : Int)), (63, .int .i64 ((R : Nat) : Int)), (10, ξ.2.2), (64, .int .i64 ((ξ.1 : Nat) : Int))]) (fun ξ => [Hp.own FQ 1 ξ.2.2 (qB ξ.2.1 vals.length), Hp.big kH ξ.2.1]) (fun ξ => R - ξ.1) (0, pms, v1) ⟨by first | omega | (dsimp only; omega), (show pms.length = vals.length by omega), hK, hiv1⟩ ((.cons rfl (.cons rfl (.cons rfl (.cons rfl (.cons rfl .nil)))))) rfl ?_
    rintro ⟨r, kms, kv⟩ ⟨hr, hkl, hKr, hikv⟩
    dsimp only at hr hkl hKr hikv
    refine Gx.know (m' := [(2, va), (8, .int .i64 ((vals.length : Nat) : Int)), (63, .int .i64 ((R : Nat) : Int)), (10, kv), (64, .int .i64 ((r : Nat) : Int))]) (.cons rfl (.cons rfl (.cons rfl (.cons rfl (.cons rfl .nil))))) (Gx.norm (l' := [Hp.own FQ 1 kv (qB kms vals.length), Hp.big kH kms]) rfl ?_)
    refine Gx.seq ?_
    refine Gx.region ?_
    refine Gx.val rfl rfl rfl (val_lss rfl rfl rfl) ?_
    refine Gx.done ?_
    refine Gx.thenN ?_
    refine Gx.seq ?_
    refine Gx.dec rfl (fun h5 => ?_) (fun h5 => ?_)
    · refine Gx.skip ?_
      refine Gx.thenN ?_
      refine Gx.seq ?_
      refine Gx.block ?_
      refine Gx.seq ?_
      refine Gx.region ?_
      refine Gx.val rfl rfl rfl (val_move rfl rfl) ?_
      refine Gx.val rfl rfl rfl (val_assign rfl rfl) ?_
      refine Gx.done ?_
      refine Gx.thenN ?_
      refine Gx.seq ?_
      refine Gx.region ?_
      refine Gx.val rfl rfl rfl (val_move rfl rfl) ?_
      refine Gx.eff rfl rfl rfl (eff_makeSlice (n := vals.length) (f := FQ) rfl Try.underlying37 Try.ty38 rfl rfl (rfl) (rfl) FQ_len none rfl (by omega) (by omega)) ?_
      rintro v6 _ ⟨hiv6, rfl⟩
      refine Gx.val rfl rfl rfl (val_assign rfl rfl) ?_
      refine Gx.done ?_
      refine Gx.thenN ?_
      refine Gx.seq ?_
      refine Gx.seq ?_
      refine Gx.norm (l' := [Hp.own FQ 1 v6 (qB ([] : List (Nat × Ms)) vals.length), Hp.own FQ 1 kv (qB kms vals.length), Hp.big kH kms]) (rfl) ?_
      refine Gx.emp ?_
      refine Gx.norm (l' := [Hp.big kH ([] : List (Nat × Ms)), Hp.own FQ 1 v6 (qB ([] : List (Nat × Ms)) vals.length), Hp.own FQ 1 kv (qB kms vals.length), Hp.big kH kms]) (rfl) ?_
      refine Gx.region ?_
      refine Gx.val rfl rfl rfl (val_move rfl rfl) ?_
      refine Gx.val rfl rfl rfl (val_move rfl rfl) ?_
      refine Gx.done ?_
      refine Gx.thenN ?_
      refine Gx.block ?_
      refine Gx.front 0 rfl ?_
      refine Gx.front 1 rfl ?_
      refine Gx.front 3 rfl ?_
      refine Gx.front 3 rfl ?_
      refine Gx.loop (ι := Nat × (List (Nat × Ms))) (fun ξ => (ξ.1 ≤ vals.length) ∧ (ξ.2.length = ξ.1) ∧ (KOk cs vals (r + 1) ξ.2)) (fun ξ => [(2, va), (8, .int .i64 ((vals.length : Nat) : Int)), (10, kv), (13, .int .i64 ((r : Nat) : Int)), (14, v6), (63, .int .i64 ((R : Nat) : Int)), (64, .int .i64 ((r : Nat) : Int)), (69, .int .i64 ((vals.length : Nat) : Int)), (70, .int .i64 ((ξ.1 : Nat) : Int))]) (fun ξ => [Hp.own FQ 1 kv (qB kms vals.length), Hp.big kH kms, Hp.own FQ 1 v6 (qB ξ.2 vals.length), Hp.big kH ξ.2]) (fun ξ => vals.length - ξ.1) (0, ([] : List (Nat × Ms))) ⟨by first | omega | (dsimp only; omega), rfl, fun j m h => by simp at h⟩ ((.cons rfl (.cons rfl (.cons rfl (.cons rfl (.cons rfl (.cons rfl (.cons rfl (.cons rfl (.cons rfl .nil)))))))))) rfl ?_
      rintro ⟨j, qms⟩ ⟨hj, hql, hQ⟩
      dsimp only at hj hql hQ
      refine Gx.know (m' := [(2, va), (8, .int .i64 ((vals.length : Nat) : Int)), (10, kv), (13, .int .i64 ((r : Nat) : Int)), (14, v6), (63, .int .i64 ((R : Nat) : Int)), (64, .int .i64 ((r : Nat) : Int)), (69, .int .i64 ((vals.length : Nat) : Int)), (70, .int .i64 ((j : Nat) : Int))]) (.cons rfl (.cons rfl (.cons rfl (.cons rfl (.cons rfl (.cons rfl (.cons rfl (.cons rfl (.cons rfl .nil))))))))) (Gx.norm (l' := [Hp.own FQ 1 kv (qB kms vals.length), Hp.big kH kms, Hp.own FQ 1 v6 (qB qms vals.length), Hp.big kH qms]) rfl ?_)
      refine Gx.seq ?_
      refine Gx.region ?_
      refine Gx.val rfl rfl rfl (val_lss rfl rfl rfl) ?_
      refine Gx.done ?_
      refine Gx.thenN ?_
      refine Gx.seq ?_
      refine Gx.dec rfl (fun h7 => ?_) (fun h7 => ?_)
      · refine Gx.skip ?_
        refine Gx.thenN ?_
        refine Gx.seq ?_
        refine Gx.block ?_
        refine Gx.seq ?_
        refine Gx.region ?_
        refine Gx.val rfl rfl rfl (val_move rfl rfl) ?_
        refine Gx.val rfl rfl rfl (val_assign rfl rfl) ?_
        refine Gx.done ?_
        refine Gx.thenN ?_
        refine Gx.seq ?_
        obtain ⟨km, hkm⟩ := get_of_lt (xs := kms) (k := j) (by omega)
        have hqn := qB_no (n := vals.length) hql.symm (by omega)
        have hqk := qB_at (n := vals.length) hkm
        have hko := hKr j km hkm
        have hkol := hko.len fun x h => h.mem
        refine Gx.focus (n := 1) (k := j) rfl hkm (fun R8 hf9 hg10 => ?_)
        refine Gx.norm (l' := [Hp.own FQ 1 kv (qB kms vals.length), kH km, Hp.own FQ 1 v6 (qB qms vals.length), Hp.big kH qms, R8]) rfl ?_
        refine Gx.norm (l' := [Hp.own FQ 1 kv (qB kms vals.length), Hp.map Try.prog 3 intL intV km.1 km.2, Hp.own FQ 1 v6 (qB qms vals.length), Hp.big kH qms, R8]) (rfl) ?_
        refine Gx.region ?_
        refine Gx.val rfl rfl rfl (val_move rfl rfl) ?_
        refine Gx.val rfl rfl rfl (val_move rfl rfl) ?_
        refine Gx.val rfl rfl rfl (val_move rfl rfl) ?_
        refine Gx.val rfl rfl rfl (val_move rfl rfl) ?_
        refine Gx.val rfl rfl rfl (val_ixa rfl Try.underlying37 Try.ty38 rfl rfl (j := j) (rfl) (reach_own (k := 0) rfl hqk)) ?_
        refine Gx.val rfl rfl rfl (val_load rfl Try.ty38 rfl rfl (cell_own (i := 0) (k := 0) rfl hqk rfl)) ?_
        refine Gx.eff rfl rfl rfl (eff_call (vs := [.map (some km.1)]) rfl Try.fn13 rfl (fun w H => clone_any (H.at_ (k := 1) rfl))) ?_
        rintro _ l11 ⟨cb, rfl, hl11⟩
        refine Gx.sepEq (l' := [Hp.map Try.prog 3 intL intV cb km.2, Hp.map Try.prog 3 intL intV km.1 km.2, Hp.own FQ 1 kv (qB kms vals.length), Hp.own FQ 1 v6 (qB qms vals.length), Hp.big kH qms, R8]) hl11 ?_
        refine Gx.val rfl rfl rfl (val_ixa rfl Try.underlying37 Try.ty38 rfl rfl (j := j) (rfl) (reach_own (k := 3) rfl hqn)) ?_
        refine Gx.eff0 rfl rfl (eff_storeElA (some cb) rfl Try.ty38 rfl rfl rfl FQ_one (k := 3) rfl FQ_len hqn (l' := [Hp.map Try.prog 3 intL intV cb km.2, Hp.map Try.prog 3 intL intV km.1 km.2, Hp.own FQ 1 kv (qB kms vals.length), Hp.own FQ 1 v6 (((qB qms vals.length)).set j (some cb)), Hp.big kH qms, R8]) rfl) ?_
        rintro _ _ rfl
        refine Gx.done ?_
        refine Gx.thenN ?_
        refine Gx.seq ?_
        refine Gx.norm (l' := [Hp.map Try.prog 3 intL intV cb km.2, Hp.map Try.prog 3 intL intV km.1 km.2, Hp.own FQ 1 kv (qB kms vals.length), Hp.own FQ 1 v6 (qB (qms ++ [(cb, ([] : Ms))]) vals.length), Hp.big kH qms, R8]) (by rw [qB_set ([] : Ms) hql.symm (by omega)] <;> rfl) ?_
        refine Gx.merge 1 4 rfl rfl (hf9) (l' := [Hp.big kH kms, Hp.map Try.prog 3 intL intV cb km.2, Hp.own FQ 1 kv (qB kms vals.length), Hp.own FQ 1 v6 (qB (qms ++ [(cb, ([] : Ms))]) vals.length), Hp.big kH qms]) rfl ?_
        refine Gx.region ?_
        refine Gx.val rfl rfl rfl (val_move rfl rfl) ?_
        refine Gx.val rfl rfl rfl (val_move rfl rfl) ?_
        refine Gx.done ?_
        refine Gx.thenN ?_
        refine Gx.block ?_
        refine Gx.front 1 rfl ?_
        refine Gx.front 4 rfl ?_
        refine Gx.front 4 rfl ?_
        refine Gx.front 3 rfl ?_
        refine Gx.front 4 rfl ?_
        refine Gx.loop (ι := Nat × Ms) (fun ξ => (ξ.1 ≤ vals.length) ∧ (MOk (Ks cs vals r j ξ.1) ξ.2)) (fun ξ => [(2, va), (8, .int .i64 ((vals.length : Nat) : Int)), (10, kv), (13, .int .i64 ((r : Nat) : Int)), (14, v6), (15, .int .i64 ((j : Nat) : Int)), (63, .int .i64 ((R : Nat) : Int)), (64, .int .i64 ((r : Nat) : Int)), (69, .int .i64 ((vals.length : Nat) : Int)), (70, .int .i64 ((j : Nat) : Int)), (81, .int .i64 ((vals.length : Nat) : Int)), (82, .int .i64 ((ξ.1 : Nat) : Int))]) (fun ξ => [Hp.own FQ 1 kv (qB kms vals.length), Hp.big kH kms, Hp.own FQ 1 v6 (qB (qms ++ [(cb, ([] : Ms))]) vals.length), Hp.big kH qms, Hp.map Try.prog 3 intL intV cb ξ.2]) (fun ξ => vals.length - ξ.1) (0, km.2) ⟨by first | omega | (dsimp only; omega), hko.congr Ks.zero⟩ ((.cons rfl (.cons rfl (.cons rfl (.cons rfl (.cons rfl (.cons rfl (.cons rfl (.cons rfl (.cons rfl (.cons rfl (.cons rfl (.cons rfl .nil))))))))))))) rfl ?_
        rintro ⟨i, md⟩ ⟨hi, hmd⟩
        dsimp only at hi hmd
        refine Gx.know (m' := [(2, va), (8, .int .i64 ((vals.length : Nat) : Int)), (10, kv), (13, .int .i64 ((r : Nat) : Int)), (14, v6), (15, .int .i64 ((j : Nat) : Int)), (63, .int .i64 ((R : Nat) : Int)), (64, .int .i64 ((r : Nat) : Int)), (69, .int .i64 ((vals.length : Nat) : Int)), (70, .int .i64 ((j : Nat) : Int)), (81, .int .i64 ((vals.length : Nat) : Int)), (82, .int .i64 ((i : Nat) : Int))]) (.cons rfl (.cons rfl (.cons rfl (.cons rfl (.cons rfl (.cons rfl (.cons rfl (.cons rfl (.cons rfl (.cons rfl (.cons rfl (.cons rfl .nil)))))))))))) (Gx.norm (l' := [Hp.own FQ 1 kv (qB kms vals.length), Hp.big kH kms, Hp.own FQ 1 v6 (qB (qms ++ [(cb, ([] : Ms))]) vals.length), Hp.big kH qms, Hp.map Try.prog 3 intL intV cb md]) rfl ?_)
        refine Gx.seq ?_
        refine Gx.region ?_
        refine Gx.val rfl rfl rfl (val_lss rfl rfl rfl) ?_
        refine Gx.done ?_
        refine Gx.thenN ?_
        refine Gx.seq ?_
        refine Gx.dec rfl (fun h12 => ?_) (fun h12 => ?_)
        · refine Gx.skip ?_
          refine Gx.thenN ?_
          refine Gx.seq ?_
          refine Gx.block ?_
          refine Gx.seq ?_
          refine Gx.region ?_
          refine Gx.val rfl rfl rfl (val_move rfl rfl) ?_
          refine Gx.val rfl rfl rfl (val_assign rfl rfl) ?_
          refine Gx.done ?_
          refine Gx.thenN ?_
          refine Gx.seq ?_
          refine Gx.region ?_
          refine Gx.val rfl rfl rfl (val_move rfl rfl) ?_
          refine Gx.val rfl rfl rfl (val_move rfl rfl) ?_
          refine Gx.val rfl rfl rfl (val_neq rfl rfl rfl) ?_
          refine Gx.val rfl rfl rfl (val_move rfl rfl) ?_
          refine Gx.cases (t := 88) rfl (fun h13 => ?_) (fun h13 => ?_)
          · refine Gx.valg rfl rfl rfl rfl rfl (val_move rfl rfl) ?_
            refine Gx.valg rfl rfl rfl rfl rfl (val_move rfl rfl) ?_
            refine Gx.valg rfl rfl rfl rfl rfl (val_move rfl rfl) ?_
            refine Gx.valg rfl rfl rfl rfl rfl (val_move rfl rfl) ?_
            refine Gx.valg rfl rfl rfl rfl rfl (val_call (vs := [va, .int .i64 ((i : Nat) : Int), .int .i64 ((j : Nat) : Int), .int .i64 ((r : Nat) : Int)]) rfl Try.fn14 rfl (fun w H => sends_any (ha.below H.below) hto (by omega))) ?_
            refine Gx.val rfl rfl rfl (val_pickT rfl rfl rfl) ?_
            refine Gx.done ?_
            refine Gx.thenN ?_
            refine Gx.bool rfl (fun h14 => ?_) (fun h14 => ?_)
            · obtain ⟨im, him⟩ := get_of_lt (xs := kms) (k := i) (by omega)
              have hqi := qB_at (n := vals.length) him
              have hio := hKr i im him
              have hiol := hio.len fun x h => h.mem
              have hmdl := hmd.len fun x h => h.mem
              have hqc : (qB (qms ++ [(cb, ([] : Ms))]) vals.length)[j]? = some (some cb) := qB_at (m := (cb, ([] : Ms))) (by rw [List.getElem?_append_right (by omega), hql, Nat.sub_self]; rfl)
              refine Gx.focus (n := 1) (k := i) rfl him (fun R15 hf16 hg17 => ?_)
              refine Gx.norm (l' := [Hp.own FQ 1 kv (qB kms vals.length), kH im, Hp.own FQ 1 v6 (qB (qms ++ [(cb, ([] : Ms))]) vals.length), Hp.big kH qms, Hp.map Try.prog 3 intL intV cb md, R15]) rfl ?_
              refine Gx.norm (l' := [Hp.own FQ 1 kv (qB kms vals.length), Hp.map Try.prog 3 intL intV im.1 im.2, Hp.own FQ 1 v6 (qB (qms ++ [(cb, ([] : Ms))]) vals.length), Hp.big kH qms, Hp.map Try.prog 3 intL intV cb md, R15]) (rfl) ?_
              refine Gx.regionO (fun j => false) 8 [0, 1, 2, 3, 4, 5, 6, 7] (fun _ => [Hp.own FQ 1 kv (qB kms vals.length), Hp.map Try.prog 3 intL intV im.1 im.2, Hp.own FQ 1 v6 (qB (qms ++ [(cb, ([] : Ms))]) vals.length), Hp.big kH qms, Hp.map Try.prog 3 intL intV cb md, R15]) Try.mixed (by kernel_rfl) rfl ?_
              refine Gw.val rfl rfl rfl rfl rfl (fun us => val_move rfl rfl) ?_
              refine Gw.val rfl rfl rfl rfl rfl (fun us => val_move rfl rfl) ?_
              refine Gw.val0 rfl rfl rfl (by kernel_rfl) rfl rfl (val_ixa rfl Try.underlying37 Try.ty38 rfl rfl (j := j) (rfl) (reach_own (k := 2) rfl hqc)) ?_
              refine Gw.val0 rfl rfl rfl (by kernel_rfl) rfl rfl (val_load rfl Try.ty38 rfl rfl (cell_own (i := 0) (k := 2) rfl hqc rfl)) ?_
              refine Gw.val rfl rfl rfl rfl rfl (fun us => val_move rfl rfl) ?_
              refine Gw.val rfl rfl rfl rfl rfl (fun us => val_move rfl rfl) ?_
              refine Gw.val0 rfl rfl rfl (by kernel_rfl) rfl rfl (val_ixa rfl Try.underlying37 Try.ty38 rfl rfl (j := i) (rfl) (reach_own (k := 0) rfl hqi)) ?_
              refine Gw.val0 rfl rfl rfl (by kernel_rfl) rfl rfl (val_load rfl Try.ty38 rfl rfl (cell_own (i := 0) (k := 0) rfl hqi rfl)) ?_
              refine Gw.done ?_
              refine Gx.norm (l' := [Hp.own FQ 1 kv (qB kms vals.length), Hp.map Try.prog 3 intL intV im.1 im.2, Hp.own FQ 1 v6 (qB (qms ++ [(cb, ([] : Ms))]) vals.length), Hp.big kH qms, Hp.map Try.prog 3 intL intV cb md, R15]) rfl ?_
              refine Gx.eff rfl rfl rfl (eff_call (vs := [.map (some cb), .map (some im.1)]) rfl Try.fn15 rfl (fun w H => copy_any (fun x hx => hin x ((hio.mem x).1 hx).mem) (by omega) (by omega) hmd.nd (H.at2 (k := 4) (k' := 1) rfl rfl))) ?_
              rintro _ l18 ⟨md2, hmd2, rfl, hl18⟩
              refine Gx.sepEq (l' := [Hp.map Try.prog 3 intL intV cb md2, Hp.map Try.prog 3 intL intV im.1 im.2, Hp.own FQ 1 kv (qB kms vals.length), Hp.own FQ 1 v6 (qB (qms ++ [(cb, ([] : Ms))]) vals.length), Hp.big kH qms, R15]) hl18 ?_
              refine Gx.done ?_
              refine Gx.blkN ?_
              refine Gx.thenN ?_
              refine Gx.merge 1 4 rfl rfl (hf16) (l' := [Hp.big kH kms, Hp.map Try.prog 3 intL intV cb md2, Hp.own FQ 1 kv (qB kms vals.length), Hp.own FQ 1 v6 (qB (qms ++ [(cb, ([] : Ms))]) vals.length), Hp.big kH qms]) rfl ?_
              refine Gx.region ?_
              refine Gx.val rfl rfl rfl (val_add rfl rfl rfl (r := ((i + 1 : Nat) : Int)) (w64 (by omega) (by omega))) ?_
              refine Gx.val rfl rfl rfl (val_move rfl rfl) ?_
              refine Gx.done ?_
              refine Gx.thenN ?_
              refine Gx.front 1 rfl ?_
              refine Gx.front 4 rfl ?_
              refine Gx.front 4 rfl ?_
              refine Gx.front 3 rfl ?_
              refine Gx.front 4 rfl ?_
              exact Gx.round (i + 1, md2) ⟨by first | omega | (dsimp only; omega), Ks.yes (by omega) h14 hmd hio hmd2⟩ (by first | omega | (dsimp only; omega)) ((.cons rfl (.cons rfl (.cons rfl (.cons rfl (.cons rfl (.cons rfl (.cons rfl (.cons rfl (.cons rfl (.cons rfl (.cons rfl (.cons rfl .nil))))))))))))) rfl
            · refine Gx.skip ?_
              refine Gx.blkN ?_
              refine Gx.thenN ?_
              refine Gx.region ?_
              refine Gx.val rfl rfl rfl (val_add rfl rfl rfl (r := ((i + 1 : Nat) : Int)) (w64 (by omega) (by omega))) ?_
              refine Gx.val rfl rfl rfl (val_move rfl rfl) ?_
              refine Gx.done ?_
              refine Gx.thenN ?_
              exact Gx.round (i + 1, md) ⟨by first | omega | (dsimp only; omega), hmd.congr (Ks.not fun q => by have := q.2; rw [h14] at this; cases this)⟩ (by first | omega | (dsimp only; omega)) ((.cons rfl (.cons rfl (.cons rfl (.cons rfl (.cons rfl (.cons rfl (.cons rfl (.cons rfl (.cons rfl (.cons rfl (.cons rfl (.cons rfl .nil))))))))))))) rfl
          · refine Gx.skipg rfl rfl rfl rfl rfl rfl ?_
            refine Gx.skipg rfl rfl rfl rfl rfl rfl ?_
            refine Gx.skipg rfl rfl rfl rfl rfl rfl ?_
            refine Gx.skipg rfl rfl rfl rfl rfl rfl ?_
            refine Gx.skipg rfl rfl rfl rfl rfl rfl ?_
            refine Gx.val rfl rfl rfl (val_pickF rfl rfl rfl) ?_
            refine Gx.done ?_
            refine Gx.thenN ?_
            refine Gx.f rfl ?_
            refine Gx.skip ?_
            refine Gx.blkN ?_
            refine Gx.thenN ?_
            refine Gx.region ?_
            refine Gx.val rfl rfl rfl (val_add rfl rfl rfl (r := ((i + 1 : Nat) : Int)) (w64 (by omega) (by omega))) ?_
            refine Gx.val rfl rfl rfl (val_move rfl rfl) ?_
            refine Gx.done ?_
            refine Gx.thenN ?_
            exact Gx.round (i + 1, md) ⟨by first | omega | (dsimp only; omega), hmd.congr (Ks.not fun q => by have := q.1; omega)⟩ (by first | omega | (dsimp only; omega)) ((.cons rfl (.cons rfl (.cons rfl (.cons rfl (.cons rfl (.cons rfl (.cons rfl (.cons rfl (.cons rfl (.cons rfl (.cons rfl (.cons rfl .nil))))))))))))) rfl
        · refine Gx.exit ?_
          refine Gx.thenE ?_
          refine Gx.thenE ?_
          refine Gx.blkE ?_
          refine Gx.blkN ?_
          refine Gx.thenN ?_
          refine Gx.norm (l' := [Hp.own FQ 1 kv (qB kms vals.length), Hp.big kH kms, Hp.own FQ 1 v6 (qB (qms ++ [(cb, md)]) vals.length), Hp.big kH qms, Hp.map Try.prog 3 intL intV cb md]) (by rw [qB_eq qms vals.length cb [] md] <;> rfl) ?_
          refine Gx.merge 3 3 rfl rfl (by rw [Hp.big_append]; show _ = _ * _; rw [show Hp.big kH [(cb, md)] = kH (cb, md) * 1 from rfl, Hp.mul_one]; rfl) (l' := [Hp.big kH (qms ++ [(cb, md)]), Hp.own FQ 1 kv (qB kms vals.length), Hp.big kH kms, Hp.own FQ 1 v6 (qB (qms ++ [(cb, md)]) vals.length)]) rfl ?_
          refine Gx.region ?_
          refine Gx.val rfl rfl rfl (val_add rfl rfl rfl (r := ((j + 1 : Nat) : Int)) (w64 (by omega) (by omega))) ?_
          refine Gx.val rfl rfl rfl (val_move rfl rfl) ?_
          refine Gx.done ?_
          refine Gx.thenN ?_
          refine Gx.front 0 rfl ?_
          refine Gx.front 3 rfl ?_
          refine Gx.front 3 rfl ?_
          refine Gx.front 3 rfl ?_
          exact Gx.round (j + 1, (qms ++ [(cb, md)])) ⟨by first | omega | (dsimp only; omega), by simp; omega, hQ.snoc hql (hmd.congr fun x => by rw [show i = vals.length by omega]; exact Iff.rfl)⟩ (by first | omega | (dsimp only; omega)) ((.cons rfl (.cons rfl (.cons rfl (.cons rfl (.cons rfl (.cons rfl (.cons rfl (.cons rfl (.cons rfl .nil)))))))))) rfl
      · refine Gx.exit ?_
        refine Gx.thenE ?_
        refine Gx.thenE ?_
        refine Gx.blkE ?_
        refine Gx.thenN ?_
        refine Gx.region ?_
        refine Gx.val rfl rfl rfl (val_move rfl rfl) ?_
        refine Gx.val rfl rfl rfl (val_assign rfl rfl) ?_
        refine Gx.done ?_
        refine Gx.blkN ?_
        refine Gx.thenN ?_
        have hql' : qms.length = vals.length := by omega
        refine Gx.drop 0 rfl ?_
        refine Gx.drop 0 rfl ?_
        refine Gx.region ?_
        refine Gx.val rfl rfl rfl (val_add rfl rfl rfl (r := ((r + 1 : Nat) : Int)) (w64 (by omega) (by omega))) ?_
        refine Gx.val rfl rfl rfl (val_move rfl rfl) ?_
        refine Gx.done ?_
        refine Gx.thenN ?_
        exact Gx.round (r + 1, qms, v6) ⟨by first | omega | (dsimp only; omega), hql', hQ, hiv6⟩ (by first | omega | (dsimp only; omega)) ((.cons rfl (.cons rfl (.cons rfl (.cons rfl (.cons rfl .nil)))))) rfl
    · refine Gx.exit ?_
      refine Gx.thenE ?_
      refine Gx.thenE ?_
      refine Gx.blkE ?_
      refine Gx.thenN ?_
      refine Gx.seq ?_
      refine Gx.region ?_
      refine Gx.val rfl rfl rfl (val_assign rfl rfl) ?_
      refine Gx.done ?_
      refine Gx.thenN ?_
      refine Gx.seq ?_
      refine Gx.seq ?_
      have er : r = R := by omega
      subst er
      refine Gx.ownNil FI 1 ?_
      refine Gx.region ?_
      refine Gx.val rfl rfl rfl (val_move rfl rfl) ?_
      refine Gx.val rfl rfl rfl (val_len rfl Try.underlying37 rfl (len_own (k := 1) rfl)) ?_
      refine Gx.val rfl rfl rfl (val_move rfl rfl) ?_
      refine Gx.done ?_
      refine Gx.thenN ?_
      refine Gx.block ?_
      refine Gx.norm (l' := [Hp.own FI 1 (.slice none 0 0) ((lstF cs vals r).take 0), Hp.own FQ 1 kv (qB kms vals.length), Hp.big kH kms]) (rfl) ?_
      refine Gx.loop (ι := Nat × Value) (fun ξ => (ξ.1 ≤ vals.length) ∧ (IsS ξ.2)) (fun ξ => [(108, kv), (109, .int .i64 (((qB kms vals.length).length : Nat) : Int)), (110, .int .i64 ((ξ.1 : Nat) : Int)), (17, ξ.2)]) (fun ξ => [Hp.own FI 1 ξ.2 ((lstF cs vals r).take ξ.1), Hp.own FQ 1 kv (qB kms vals.length), Hp.big kH kms]) (fun ξ => vals.length - ξ.1) (0, .slice none 0 0) ⟨by first | omega | (dsimp only; omega), ⟨_, _, _, rfl⟩⟩ ((.cons rfl (.cons rfl (.cons rfl (.cons rfl .nil))))) rfl ?_
      rintro ⟨i, lv⟩ ⟨hi, hilv⟩
      dsimp only at hi hilv
      refine Gx.know (m' := [(108, kv), (109, .int .i64 (((qB kms vals.length).length : Nat) : Int)), (110, .int .i64 ((i : Nat) : Int)), (17, lv)]) (.cons rfl (.cons rfl (.cons rfl (.cons rfl .nil)))) (Gx.norm (l' := [Hp.own FI 1 lv ((lstF cs vals r).take i), Hp.own FQ 1 kv (qB kms vals.length), Hp.big kH kms]) rfl ?_)
      have hqbl := qB_len (n := vals.length) (l := kms) (by omega)
      have hll : ((lstF cs vals r).take i).length = i := by rw [List.length_take, lst_len]; omega
      refine Gx.seq ?_
      refine Gx.region ?_
      refine Gx.val rfl rfl rfl (val_lss rfl rfl rfl) ?_
      refine Gx.done ?_
      refine Gx.thenN ?_
      refine Gx.seq ?_
      refine Gx.dec rfl (fun h19 => ?_) (fun h19 => ?_)
      · refine Gx.skip ?_
        refine Gx.thenN ?_
        refine Gx.seq ?_
        refine Gx.block ?_
        refine Gx.seq ?_
        obtain ⟨fm, hfm⟩ := get_of_lt (xs := kms) (k := i) (by omega)
        have hqf := qB_at (n := vals.length) hfm
        have hfo := hKr i fm hfm
        have hfol := hfo.len fun x h => h.mem
        refine Gx.region ?_
        refine Gx.val rfl rfl rfl (val_ixa rfl Try.underlying37 Try.ty38 rfl rfl (j := i) (rfl) (reach_own (k := 1) rfl hqf)) ?_
        refine Gx.val rfl rfl rfl (val_load rfl Try.ty38 rfl rfl (cell_own (i := 0) (k := 1) rfl hqf rfl)) ?_
        refine Gx.val rfl rfl rfl (val_assign rfl rfl) ?_
        refine Gx.done ?_
        refine Gx.thenN ?_
        refine Gx.focus (n := 2) (k := i) rfl hfm (fun R20 hf21 hg22 => ?_)
        refine Gx.norm (l' := [Hp.own FI 1 lv ((lstF cs vals r).take i), Hp.own FQ 1 kv (qB kms vals.length), kH fm, R20]) rfl ?_
        refine Gx.norm (l' := [Hp.own FI 1 lv ((lstF cs vals r).take i), Hp.own FQ 1 kv (qB kms vals.length), Hp.map Try.prog 3 intL intV fm.1 fm.2, R20]) (rfl) ?_
        refine Gx.region ?_
        refine Gx.val rfl rfl rfl (val_move rfl rfl) ?_
        refine Gx.val rfl rfl rfl (val_move rfl rfl) ?_
        refine Gx.eff rfl rfl rfl (eff_call (vs := [.map (some fm.1)]) rfl Try.fn18 rfl (fun w H => keys_any H)) ?_
        rintro _ l23 ⟨bb, rfl, hl23⟩
        refine Gx.sepEq (l' := [Hp.rec_ bb [.map (some fm.1)], Hp.own FI 1 lv ((lstF cs vals r).take i), Hp.own FQ 1 kv (qB kms vals.length), Hp.map Try.prog 3 intL intV fm.1 fm.2, R20]) hl23 ?_
        refine Gx.eff rfl rfl rfl (eff_call (vs := [.func (.func 23) #[] #[ptr bb 0]]) rfl Try.fn17 rfl (fun w H => collect_any (H.at2 (k := 0) (k' := 2) rfl rfl) (by omega))) ?_
        rintro _ l24 ⟨kcv, ss, hss, rfl, hl24⟩
        refine Gx.sepEq (l' := [Hp.own FI 1 kcv ss, Hp.rec_ bb [.map (some fm.1)], Hp.map Try.prog 3 intL intV fm.1 fm.2, Hp.own FI 1 lv ((lstF cs vals r).take i), Hp.own FQ 1 kv (qB kms vals.length), R20]) hl24 ?_
        have hssl : ss.length = fm.2.length := by rw [hss.length_eq]; unfold keysM; rw [List.length_map]
        have hss0 : 0 < ss.length := by
          obtain ⟨x, hx⟩ := get_of_lt (xs := vals) (k := i) (by omega)
          exact List.length_pos_of_mem (hss.mem_iff.2 ((hfo.mem x).2 (Kn.up hx _)))
        refine Gx.eff rfl rfl rfl (eff_callE (vs := [kcv]) rfl Try.fn16 rfl (R := fun v => ∃ m : Int, (m ∈ ss ∧ ∀ x ∈ ss, m ≤ x) ∧ v = .int .i64 m) (fun w H => min_any ((H.at_ (k := 0) rfl).sls (by first | omega | (simp; omega))) hss0)) ?_
        rintro _ _ ⟨⟨m9, hm9, rfl⟩, rfl⟩
        refine Gx.eff rfl rfl rfl (eff_buildSlice rfl (qs := [(0, .int .i64 m9)]) rfl rfl (cs := #[.int .i64 m9]) (vs := [.int .i64 m9]) (E := 3) rfl (fun w => by first | (go_simp; done) | (go_simp; rfl))) ?_
        rintro _ _ ⟨b25, rfl, rfl⟩
        refine Gx.eff rfl rfl rfl (eff_push (r := m9) rfl Try.eI FI_len FI_one rfl rfl (k := 0) rfl rfl (k' := 3) rfl (by rw [hll]; omega) (by rw [hll]; omega)) ?_
        rintro v26 _ ⟨hiv26, rfl⟩
        refine Gx.norm (l' := [Hp.own FI 1 kcv ss, Hp.rec_ bb [.map (some fm.1)], Hp.map Try.prog 3 intL intV fm.1 fm.2, Hp.own FI 1 v26 (((lstF cs vals r).take i) ++ [m9]), Hp.own FQ 1 kv (qB kms vals.length), R20]) rfl ?_
        refine Gx.val rfl rfl rfl (val_assign rfl rfl) ?_
        refine Gx.done ?_
        refine Gx.blkN ?_
        refine Gx.thenN ?_
        refine Gx.drop 0 rfl ?_
        refine Gx.drop 0 rfl ?_
        refine Gx.merge 0 2 rfl rfl (hf21) (l' := [Hp.big kH kms, Hp.own FI 1 v26 (((lstF cs vals r).take i) ++ [m9]), Hp.own FQ 1 kv (qB kms vals.length)]) rfl ?_
        refine Gx.region ?_
        refine Gx.val rfl rfl rfl (val_add rfl rfl rfl (r := ((i + 1 : Nat) : Int)) (w64 (by omega) (by omega))) ?_
        refine Gx.val rfl rfl rfl (val_move rfl rfl) ?_
        refine Gx.done ?_
        refine Gx.thenN ?_
        refine Gx.front 0 rfl ?_
        refine Gx.front 2 rfl ?_
        refine Gx.front 2 rfl ?_
        refine Gx.norm (l' := [Hp.own FI 1 v26 ((lstF cs vals r).take (i + 1)), Hp.own FQ 1 kv (qB kms vals.length), Hp.big kH kms]) (by rw [lst_take (by omega) (fun x => (hss.mem_iff).trans (hfo.mem x)) hm9] <;> rfl) ?_
        exact Gx.round (i + 1, v26) ⟨by first | omega | (dsimp only; omega), hiv26⟩ (by first | omega | (dsimp only; omega)) ((.cons rfl (.cons rfl (.cons rfl (.cons rfl .nil))))) rfl
      · refine Gx.exit ?_
        refine Gx.thenE ?_
        refine Gx.thenE ?_
        refine Gx.blkE ?_
        refine Gx.thenN ?_
        refine Gx.seq ?_
        refine Gx.region ?_
        refine Gx.val rfl rfl rfl (val_move rfl rfl) ?_
        refine Gx.val rfl rfl rfl (val_assign rfl rfl) ?_
        refine Gx.val rfl rfl rfl (val_assign rfl rfl) ?_
        refine Gx.done ?_
        refine Gx.thenN ?_
        refine Gx.ret ?_
        have ei : i = vals.length := by omega
        refine Gx.norm (l' := [Hp.own FI 1 lv (lstF cs vals r), Hp.own FQ 1 kv (qB kms vals.length), Hp.big kH kms]) (by rw [List.take_of_length_le (by rw [lst_len]; omega)] <;> rfl) ?_
        refine Gx.drop 2 rfl ?_
        refine Gx.drop 1 rfl ?_
        refine Gx.ret2 Try.results6 rfl rfl ?_
        exact ⟨_, rfl, rfl⟩
  rintro v l w ⟨lv, rfl, rfl⟩ H
  exact ⟨lv, rfl, (H.at_ (k := 0) rfl).sls (by rw [lst_len]; omega)⟩
end Go.Proofs.Ytmkhjlmhobihmaa
