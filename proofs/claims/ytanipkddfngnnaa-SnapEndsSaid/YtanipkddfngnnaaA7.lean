/- A script played. The walk. No condition. -/
import Derived.Test.YtanipkddfngnnaaA6
namespace Go.Proofs.Ytanipkddfngnnaa
open Go.RowKit
set_option linter.unusedVariables false
set_option linter.unusedSimpArgs false
set_option maxRecDepth 100000

theorem Try.eV : Elem Try.prog 25 22 (.slice none 0 0) 1 24 := ⟨Try.underlying25, by kernel_rfl, rfl, by decide⟩
theorem stS_snoc {l : List Mv} {i : Nat} {c : Mv} {s : SS} (h : l[i]? = some c) : stS s (l.take (i + 1)) = (stepS (stS s (l.take i)) c).2 := by
  rw [take_of h, stS_app]; rfl
theorem codesS_snoc {l : List Mv} {i : Nat} {c : Mv} {s : SS} (h : l[i]? = some c) : codesS s (l.take (i + 1)) = codesS s (l.take i) ++ [(stepS (stS s (l.take i)) c).1] := by
  rw [take_of h, codesS_app]; rfl
theorem lsum_le : ∀ {l : List Int}, (∀ x ∈ l, 0 ≤ x ∧ x ≤ 1000) → lsum l ≤ 1000 * l.length
  | [], _ => by simp [lsum]
  | a :: l, h => by have := lsum_le (l := l) fun x hx => h x (by simp [hx]); have := h a (by simp); simp only [lsum, List.sum_cons, List.length_cons] at this ⊢; unfold lsum at *; omega
def nts (s : SS) (n k : Nat) : List Int := if k / n = k % n then [] else (s.w (smN (k / n), smN (k % n))).nt
def DoneS (s : SS) (n : Nat) : Prop := (∀ p ∈ s.ps, p.ow ≠ -1) ∧ ∀ i j, i < n → j < n → i ≠ j → (s.w (smN i, smN j)).cl = true
structure Btw (n : Nat) (ks left : Ks) (rs : List Rm) (vals : List Sv) (d0 dn : Bool) : Prop where
  sub : ∀ p ∈ left, p ∈ ks
  nd : left.Nodup
  len : vals.length = n * n
  diag : ∀ i, i < n → vals[i * n + i]? = some ⟨none, 0, 0⟩
  done : ∀ (k : Nat) (p : (Sm × Sm) × Nat) (r : Rm), ks[k]? = some p → rs[k]? = some r → p ∉ left → ∃ v, vals[p.1.1.val * n + p.1.2.val]? = some v ∧ r.nv = .slice v.a v.n v.c
  cl : dn = true ↔ (d0 = true ∧ ∀ (k : Nat) (p : (Sm × Sm) × Nat) (r : Rm), ks[k]? = some p → rs[k]? = some r → p ∉ left → r.w.cl = true)
theorem all_snoc {P : Pr → Prop} {l : List Pr} {x : Pr} {b : Bool} (h : b = true ↔ ∀ p ∈ l, P p) (b' : Bool) (h' : b' = true ↔ (b = true ∧ P x)) : b' = true ↔ ∀ p ∈ l ++ [x], P p := by
  rw [h', h]
  constructor
  · rintro ⟨h1, h2⟩ p hp
    rcases List.mem_append.1 hp with g | g
    · exact h1 p g
    · rw [List.mem_singleton.1 g]; exact h2
  · intro h9
    exact ⟨fun p hp => h9 p (List.mem_append_left _ hp), h9 x (by simp)⟩
theorem idx_inj {n a b c d : Nat} (hb : b < n) (hd : d < n) (h : a * n + b = c * n + d) : a = c ∧ b = d := by
  have h1 : (a * n + b) / n = a := by rw [Nat.mul_comm, Nat.mul_add_div (by omega), Nat.div_eq_of_lt hb, Nat.add_zero]
  have h2 : (c * n + d) / n = c := by rw [Nat.mul_comm, Nat.mul_add_div (by omega), Nat.div_eq_of_lt hd, Nat.add_zero]
  have : a = c := by rw [← h1, ← h2, h]
  subst this; exact ⟨rfl, by omega⟩
theorem Btw.start {n : Nat} {ks : Ks} {rs : List Rm} {w : Wy} {d0 : Bool} (h : ROk n ks rs w) : Btw n ks ks rs (List.replicate (n * n) ⟨none, 0, 0⟩) d0 d0 := by
  refine ⟨fun p hp => hp, pw_nodup h.nodup, by simp, fun i hi => ?_, fun k p r hp _ q => absurd (List.mem_of_getElem? hp) q, ⟨fun q => ⟨q, fun k p r hp _ q => absurd (List.mem_of_getElem? hp) q⟩, fun q => q.1⟩⟩
  have : (i + 1) * n ≤ n * n := Nat.mul_le_mul_right n hi
  rw [Nat.add_mul, Nat.one_mul] at this
  rw [List.getElem?_replicate, if_pos (by omega)]
theorem Btw.at_ {n : Nat} {ks left rest : Ks} {rs : List Rm} {vals : List Sv} {w : Wy} {d0 dn : Bool} {a : Sm × Sm} {x : Nat} (hok : ROk n ks rs w) (h : Btw n ks left rs vals d0 dn) (hp : left.Perm ((a, x) :: rest)) : ∃ (k : Nat) (r : Rm), ks[k]? = some (a, x) ∧ rs[k]? = some r ∧ x = r.b ∧ a.1.val < n ∧ a.2.val < n ∧ a.1.val ≠ a.2.val := by
  have hm : (a, x) ∈ left := hp.symm.subset (List.mem_cons_self ..)
  obtain ⟨k, hk⟩ := List.getElem?_of_mem (h.sub _ hm)
  obtain ⟨r, hr, e⟩ := row_at hok.bl hk
  obtain ⟨g1, g2, g3⟩ := (hok.keys a).1 (List.mem_map.2 ⟨_, h.sub _ hm, rfl⟩)
  exact ⟨k, r, hk, hr, e, g1, g2, fun e => g3 (Fin.ext e)⟩
theorem Btw.next {n k x : Nat} {ks left rest : Ks} {rs : List Rm} {vals : List Sv} {w : Wy} {d0 dn : Bool} {a : Sm × Sm} {r : Rm} {v : Sv} (hok : ROk n ks rs w) (h : Btw n ks left rs vals d0 dn) (hp : left.Perm ((a, x) :: rest)) (hk : ks[k]? = some (a, x)) (hr : rs[k]? = some r) (h1 : a.1.val < n) (h2 : a.2.val < n) (h3 : a.1.val ≠ a.2.val) (hv : r.nv = .slice v.a v.n v.c) (dn' : Bool) (hdn : dn' = true ↔ (dn = true ∧ r.w.cl = true)) :
    Btw n ks rest rs (vals.set (a.1.val * n + a.2.val) v) d0 dn' := by
  have hnd := (hp.nodup_iff.1 h.nd)
  obtain ⟨n1, n2⟩ := List.nodup_cons.1 hnd
  have hml : (a.1.val + 1) * n ≤ n * n := Nat.mul_le_mul_right n h1
  rw [Nat.add_mul, Nat.one_mul] at hml
  have hcase : ∀ (j : Nat) (p : (Sm × Sm) × Nat) (z : Rm), ks[j]? = some p → rs[j]? = some z → p ∉ rest → (p = (a, x) ∧ z = r) ∨ (p ∉ left ∧ p.1 ≠ a) := fun j p z hj hz hq => by
    by_cases e : p = (a, x)
    · subst e
      have := nodup_idx (pw_nodup hok.nodup) hj hk
      subst this; cases hr.symm.trans hz; exact .inl ⟨rfl, rfl⟩
    · refine .inr ⟨fun q => ?_, fun e1 => ?_⟩
      · rcases List.mem_cons.1 (hp.subset q) with g | g
        · exact e g
        · exact hq g
      · have hnn := List.pairwise_iff_getElem.1 hok.nodup
        obtain ⟨l1, e2⟩ := List.getElem?_eq_some_iff.1 hk
        obtain ⟨l2, e3⟩ := List.getElem?_eq_some_iff.1 hj
        rcases Nat.lt_trichotomy j k with g | g | g
        · exact hnn j k l2 l1 g (by rw [e2, e3]; exact e1)
        · subst g; exact e (Option.some.inj (hj.symm.trans hk))
        · exact hnn k j l1 l2 g (by rw [e2, e3]; exact e1.symm)
  refine ⟨fun p hp' => h.sub p (hp.symm.subset (List.mem_cons_of_mem _ hp')), n2, by rw [List.length_set]; exact h.len, fun i hi => ?_, fun j p z hj hz hq => ?_, ?_⟩
  · rw [List.getElem?_set_ne]
    · exact h.diag i hi
    · intro e; obtain ⟨g1, g2⟩ := idx_inj h2 hi e; omega
  · rcases hcase j p z hj hz hq with ⟨rfl, rfl⟩ | ⟨g1, g2⟩
    · exact ⟨v, List.getElem?_set_self (by rw [h.len]; first | omega | (dsimp only; omega)), hv⟩
    · obtain ⟨u, hu, hu2⟩ := h.done j p z hj hz g1
      refine ⟨u, ?_, hu2⟩
      rw [List.getElem?_set_ne]
      · exact hu
      · intro e
        obtain ⟨l1, l2, l3⟩ := (hok.keys p.1).1 (List.mem_map_of_mem (List.mem_of_getElem? hj))
        obtain ⟨k1, k2⟩ := idx_inj h2 l2 e
        exact g2 (Prod.ext (Fin.ext k1.symm) (Fin.ext k2.symm))
  · rw [hdn, h.cl]
    constructor
    · rintro ⟨⟨q1, q2⟩, q3⟩
      refine ⟨q1, fun j p z hj hz hq => ?_⟩
      rcases hcase j p z hj hz hq with ⟨rfl, rfl⟩ | ⟨g1, _⟩
      · exact q3
      · exact q2 j p z hj hz g1
    · rintro ⟨q1, q2⟩
      exact ⟨⟨q1, fun j p z hj hz hq => q2 j p z hj hz fun g => hq (hp.symm.subset (List.mem_cons_of_mem _ g))⟩, q2 k _ r hk hr n1⟩
/-- a row's notes, read behind the call -/
theorem rowN_sls {W w : World} {rs : List Rm} {k : Nat} {r : Rm} {R : Hp} (hr : rs[k]? = some r) (hl : r.w.nt.length ≤ 10000) (H : Sat W w (Hp.big rowH rs * R)) : SlS FI 1 w r.nv r.w.nt := by
  obtain ⟨R0, h1, _⟩ := Hp.big_focus rowH rs k r hr
  rw [h1] at H
  have H2 : Sat W w (Hp.own FI 1 r.nv r.w.nt * (recW r * Hp.own FI 1 r.qv r.w.q * R0 * R)) := H.cast (by show (recW r * (Hp.own FI 1 r.qv r.w.q * Hp.own FI 1 r.nv r.w.nt)) * R0 * R = _; ac_rfl)
  exact H2.sls (by omega)
theorem nil_sls {W w : World} {R : Hp} (H : Sat W w R) : SlS FI 1 w (.slice none 0 0) [] := (H.nil FI 1).sls (by simp)
theorem play_ok {W : World} {mv sv : Value} {money : List Int} {cs : List Mv} (hm : SlS FI 1 W mv money) (hs : SlS FM 4 W sv cs) (h1 : 1 ≤ money.length) (h6 : money.length ≤ 6) (hcl : cs.length ≤ 120) (hbad : ¬ 0 ≤ firstB money) :
    Calls Try.prog 7 #[mv, sv] W fun e w' => ∃ v, e = .returned v ∧ (∃ (cv wv uv bv : Value) (dm : Bool) (vals : List Sv), v = .tuple #[.agg #[cv, wv, uv, bv, .bool dm], .int .i64 0] ∧ SlS FZ 1 w' cv (codesS (ss0 money) cs) ∧ SlS FI 1 w' wv ((stS (ss0 money) cs).ps.map Pr.mo) ∧ SlS FI 1 w' uv ((stS (ss0 money) cs).ps.map Pr.ow) ∧ SlS FV 1 w' bv vals ∧ vals.length = money.length * money.length ∧ (∀ (k : Nat) (v : Sv), vals[k]? = some v → SlS FI 1 w' (.slice v.a v.n v.c) (nts (stS (ss0 money) cs) money.length k)) ∧ (dm = true ↔ DoneS (stS (ss0 money) cs) money.length)) ∧ Below W.heap.size W w' := by
  have hm0 : ∀ x ∈ money, 0 ≤ x := fun x hx => (firstB_ok hbad x hx).1
  have hms := lsum_le (firstB_ok hbad)
  refine calls_some (S := fun v l => ∃ (cv wv uv bv : Value) (dm : Bool) (ks : Ks) (rs : List Rm) (vals : List Sv) (P : Hp) (dn0 : Bool), v = .tuple #[.agg #[cv, wv, uv, bv, .bool dm], .int .i64 0] ∧ l = [Hp.own FZ 1 cv (codesS (ss0 money) cs), Hp.own FI 1 wv ((stS (ss0 money) cs).ps.map Pr.mo), Hp.own FI 1 uv ((stS (ss0 money) cs).ps.map Pr.ow), Hp.own FV 1 bv vals, Hp.big rowH rs, P] ∧ ROk money.length ks rs (stS (ss0 money) cs).w ∧ Btw money.length ks [] rs vals dn0 dm ∧ (dn0 = true ↔ ∀ p ∈ (stS (ss0 money) cs).ps, p.ow ≠ -1)) (Gx.enter (l := []) Try.func7 rfl Try.ntmps7 rfl (Sat.start W) ?_) ?_
  refine Gx.know (m' := [(0, mv), (1, sv)]) (.cons rfl (.cons rfl .nil)) ?_
  refine Gx.seq ?_
  refine Gx.region ?_
  refine Gx.eff rfl rfl rfl (eff_alloc rfl Try.ty27 (vs := [.slice none 0 0, .slice none 0 0, .slice none 0 0, .slice none 0 0, .bool false]) rfl) ?_
  rintro _ _ ⟨b1, rfl, rfl⟩
  refine Gx.val rfl rfl rfl (val_assign rfl rfl) ?_
  refine Gx.done ?_
  refine Gx.thenN ?_
  refine Gx.seq ?_
  refine Gx.region ?_
  refine Gx.val rfl rfl rfl (val_move rfl rfl) ?_
  refine Gx.val rfl rfl rfl (val_len rfl Try.underlying22 rfl (len_base hm)) ?_
  refine Gx.val rfl rfl rfl (val_assign rfl rfl) ?_
  refine Gx.done ?_
  refine Gx.thenN ?_
  refine Gx.seq ?_
  refine Gx.seq ?_
  refine Gx.region ?_
  refine Gx.val rfl rfl rfl (val_move rfl rfl) ?_
  refine Gx.val rfl rfl rfl (val_eql rfl rfl rfl) ?_
  refine Gx.val rfl rfl rfl (val_move rfl rfl) ?_
  refine Gx.slot (t := 19) (v := .bool false) (look_decF rfl (by omega)) ?_
  refine Gx.valg rfl rfl rfl rfl rfl (val_move rfl rfl) ?_
  refine Gx.valg rfl rfl rfl rfl rfl (val_gtr rfl rfl rfl) ?_
  refine Gx.val rfl rfl rfl (val_pickF rfl rfl rfl) ?_
  refine Gx.val rfl rfl rfl (val_move rfl rfl) ?_
  refine Gx.slot (t := 23) (v := .bool false) (look_decF rfl (by omega)) ?_
  refine Gx.valg rfl rfl rfl rfl rfl (val_move rfl rfl) ?_
  refine Gx.valg rfl rfl rfl rfl rfl (val_len rfl Try.underlying23 rfl (len_base hs)) ?_
  refine Gx.valg rfl rfl rfl rfl rfl (val_gtr rfl rfl rfl) ?_
  refine Gx.val rfl rfl rfl (val_pickF rfl rfl rfl) ?_
  refine Gx.done ?_
  refine Gx.thenN ?_
  refine Gx.decF rfl (by omega) ?_
  refine Gx.skip ?_
  refine Gx.thenN ?_
  refine Gx.seq ?_
  refine Gx.seq ?_
  refine Gx.region ?_
  refine Gx.val rfl rfl rfl (val_move rfl rfl) ?_
  refine Gx.val rfl rfl rfl (val_call (vs := [mv, .func (.func 10) #[] #[]]) rfl Try.fn9 rfl (fun w H => contains_any (hm.below H.below))) ?_
  refine Gx.done ?_
  refine Gx.thenN ?_
  refine Gx.decF rfl (hbad) ?_
  refine Gx.skip ?_
  refine Gx.thenN ?_
  refine Gx.seq ?_
  refine Gx.region ?_
  refine Gx.val rfl rfl rfl (val_move rfl rfl) ?_
  refine Gx.eff rfl rfl rfl (eff_call (vs := [mv]) rfl Try.fn11 rfl (fun w H => open_any h6 hm H)) ?_
  rintro _ l2 ⟨S, rfl, hl2⟩
  refine Gx.sepEq (l' := [worldH S money.length (ss0 money), Hp.rec_ b1 [.slice none 0 0, .slice none 0 0, .slice none 0 0, .slice none 0 0, .bool false]]) hl2 ?_
  refine Gx.val rfl rfl rfl (val_assign rfl rfl) ?_
  refine Gx.done ?_
  refine Gx.thenN ?_
  refine Gx.seq ?_
  refine Gx.region ?_
  refine Gx.eff rfl rfl rfl (eff_alloc rfl Try.ty27 (vs := [.slice none 0 0, .slice none 0 0, .slice none 0 0, .slice none 0 0, .bool false]) rfl) ?_
  rintro _ _ ⟨b3, rfl, rfl⟩
  refine Gx.done ?_
  refine Gx.thenN ?_
  refine Gx.seq ?_
  refine Gx.seq ?_
  refine Gx.ownNil FZ 1 ?_
  refine Gx.region ?_
  refine Gx.val rfl rfl rfl (val_move rfl rfl) ?_
  refine Gx.val rfl rfl rfl (val_len rfl Try.underlying23 rfl (len_base hs)) ?_
  refine Gx.val rfl rfl rfl (val_move rfl rfl) ?_
  refine Gx.done ?_
  refine Gx.thenN ?_
  refine Gx.block ?_
  refine Gx.front 2 rfl ?_
  refine Gx.front 3 rfl ?_
  refine Gx.front 3 rfl ?_
  refine Gx.front 3 rfl ?_
  refine Gx.loop (ι := Nat × Value) (fun ξ => (ξ.1 ≤ cs.length) ∧ (IsS ξ.2)) (fun ξ => [(4, ptr b1 0), (6, .int .i64 ((money.length : Nat) : Int)), (7, ptr S 0), (8, ptr b3 0), (34, sv), (35, .int .i64 ((cs.length : Nat) : Int)), (36, .int .i64 ((ξ.1 : Nat) : Int))]) (fun ξ => [Hp.own FZ 1 ξ.2 (codesS (ss0 money) (cs.take ξ.1)), Hp.rec_ b3 [ξ.2, .slice none 0 0, .slice none 0 0, .slice none 0 0, .bool false], Hp.rec_ b1 [.slice none 0 0, .slice none 0 0, .slice none 0 0, .slice none 0 0, .bool false], worldH S money.length (stS (ss0 money) (cs.take ξ.1))]) (fun ξ => cs.length - ξ.1) (0, (.slice none 0 0)) ⟨by first | omega | (dsimp only; omega), ⟨none, 0, 0, rfl⟩⟩ ((.cons rfl (.cons rfl (.cons rfl (.cons rfl (.cons rfl (.cons rfl (.cons rfl .nil)))))))) rfl ?_
  rintro ⟨i, cv⟩ ⟨hi, hicv⟩
  dsimp only at hi hicv
  refine Gx.know (m' := [(4, ptr b1 0), (6, .int .i64 ((money.length : Nat) : Int)), (7, ptr S 0), (8, ptr b3 0), (34, sv), (35, .int .i64 ((cs.length : Nat) : Int)), (36, .int .i64 ((i : Nat) : Int))]) (.cons rfl (.cons rfl (.cons rfl (.cons rfl (.cons rfl (.cons rfl (.cons rfl .nil))))))) (Gx.norm (l' := [Hp.own FZ 1 cv (codesS (ss0 money) (cs.take i)), Hp.rec_ b3 [cv, .slice none 0 0, .slice none 0 0, .slice none 0 0, .bool false], Hp.rec_ b1 [.slice none 0 0, .slice none 0 0, .slice none 0 0, .slice none 0 0, .bool false], worldH S money.length (stS (ss0 money) (cs.take i))]) rfl ?_)
  have bd : BdS 240 (lsum money) money.length (stS (ss0 money) (cs.take i)) := ((BdS.zero hm0).run h6 (cs.take i)).mono (by rw [List.length_take]; omega)
  have hci : (codesS (ss0 money) (cs.take i)).length = i := by rw [codesS_len, List.length_take]; omega
  refine Gx.seq ?_
  refine Gx.region ?_
  refine Gx.val rfl rfl rfl (val_lss rfl rfl rfl) ?_
  refine Gx.done ?_
  refine Gx.thenN ?_
  refine Gx.seq ?_
  refine Gx.dec rfl (fun h4 => ?_) (fun h4 => ?_)
  · refine Gx.skip ?_
    refine Gx.thenN ?_
    refine Gx.seq ?_
    refine Gx.block ?_
    refine Gx.seq ?_
    refine Gx.region ?_
    obtain ⟨x5, hx5⟩ := get_of_lt (xs := cs) (k := i) (by first | omega | (simp; omega))
    refine Gx.val rfl rfl rfl (val_ixa rfl Try.underlying23 Try.ty33 rfl rfl (j := i) (rfl) (reach_base hs hx5)) ?_
    refine Gx.val rfl rfl rfl (Val.cast (val_loadA rfl Try.ty33 rfl rfl rfl (cells_base hs hx5)) (v' := .agg #[.int .i64 x5.kind, .int .i64 x5.who, .int .i64 x5.oth, .int .i64 x5.n]) rfl) ?_
    refine Gx.eff rfl rfl rfl (eff_alloc rfl Try.ty33 (vs := [.int .i64 0, .int .i64 0, .int .i64 0, .int .i64 0]) rfl) ?_
    rintro _ _ ⟨b6, rfl, rfl⟩
    refine Gx.eff0 rfl rfl (eff_store rfl Try.ty33 rfl rfl (us := [.int .i64 x5.kind, .int .i64 x5.who, .int .i64 x5.oth, .int .i64 x5.n]) rfl rfl rfl (k := 0) rfl (rfl) (vs' := [.int .i64 x5.kind, .int .i64 x5.who, .int .i64 x5.oth, .int .i64 x5.n]) (rfl) (l' := [Hp.rec_ b6 [.int .i64 x5.kind, .int .i64 x5.who, .int .i64 x5.oth, .int .i64 x5.n], Hp.own FZ 1 cv (codesS (ss0 money) (cs.take i)), Hp.rec_ b3 [cv, .slice none 0 0, .slice none 0 0, .slice none 0 0, .bool false], Hp.rec_ b1 [.slice none 0 0, .slice none 0 0, .slice none 0 0, .slice none 0 0, .bool false], worldH S money.length (stS (ss0 money) (cs.take i))]) rfl) ?_
    rintro _ _ rfl
    refine Gx.done ?_
    refine Gx.thenN ?_
    refine Gx.regionO (fun j => j == 4 || j == 5 || j == 6) 8 [0, 1, 2, 3, 4, 5, 6, 7] (fun us => match us with | [] => [Hp.rec_ b6 [.int .i64 x5.kind, .int .i64 x5.who, .int .i64 x5.oth, .int .i64 x5.n], Hp.own FZ 1 cv (codesS (ss0 money) (cs.take i)), Hp.rec_ b3 [cv, .slice none 0 0, .slice none 0 0, .slice none 0 0, .bool false], Hp.rec_ b1 [.slice none 0 0, .slice none 0 0, .slice none 0 0, .slice none 0 0, .bool false], worldH S money.length (stS (ss0 money) (cs.take i))] | [u1] => [worldH S money.length ((stepS (stS (ss0 money) (cs.take i)) x5).2), Hp.rec_ b6 [.int .i64 x5.kind, .int .i64 x5.who, .int .i64 x5.oth, .int .i64 x5.n], Hp.own FZ 1 cv (codesS (ss0 money) (cs.take i)), Hp.rec_ b3 [cv, .slice none 0 0, .slice none 0 0, .slice none 0 0, .bool false], Hp.rec_ b1 [.slice none 0 0, .slice none 0 0, .slice none 0 0, .slice none 0 0, .bool false]] | [u1, u2] => [Hp.rec_ (sB u2) [.int .i64 ((stepS (stS (ss0 money) (cs.take i)) x5).1)], worldH S money.length ((stepS (stS (ss0 money) (cs.take i)) x5).2), Hp.rec_ b6 [.int .i64 x5.kind, .int .i64 x5.who, .int .i64 x5.oth, .int .i64 x5.n], Hp.own FZ 1 cv (codesS (ss0 money) (cs.take i)), Hp.rec_ b3 [cv, .slice none 0 0, .slice none 0 0, .slice none 0 0, .bool false], Hp.rec_ b1 [.slice none 0 0, .slice none 0 0, .slice none 0 0, .slice none 0 0, .bool false]] | u1 :: u2 :: u3 :: _ => [worldH S money.length ((stepS (stS (ss0 money) (cs.take i)) x5).2), Hp.rec_ b6 [.int .i64 x5.kind, .int .i64 x5.who, .int .i64 x5.oth, .int .i64 x5.n], Hp.own FZ 1 u3 ((codesS (ss0 money) (cs.take i)) ++ [(stepS (stS (ss0 money) (cs.take i)) x5).1]), Hp.rec_ b3 [cv, .slice none 0 0, .slice none 0 0, .slice none 0 0, .bool false], Hp.rec_ b1 [.slice none 0 0, .slice none 0 0, .slice none 0 0, .slice none 0 0, .bool false]]) Try.mixed (by kernel_rfl) rfl ?_
    refine Gw.val rfl rfl rfl rfl rfl (fun us => Val.cast (val_fieldAddr rfl Try.underlying27 rfl Try.ty24 rfl rfl) (v' := ptr b3 0) rfl) ?_
    refine Gw.val rfl rfl rfl rfl rfl (fun us => match us with | [] => val_load rfl Try.ty24 rfl rfl (cell_rec (k := 2) rfl rfl) | [u1] => val_load rfl Try.ty24 rfl rfl (cell_rec (k := 3) rfl rfl) | [u1, u2] => val_load rfl Try.ty24 rfl rfl (cell_rec (k := 4) rfl rfl) | u1 :: u2 :: u3 :: _ => val_load rfl Try.ty24 rfl rfl (cell_rec (k := 3) rfl rfl)) ?_
    refine Gw.val rfl rfl rfl rfl rfl (fun us => val_move rfl rfl) ?_
    refine Gw.val rfl rfl rfl rfl rfl (fun us => match us with | [] => Val.cast (val_loadA rfl Try.ty33 rfl rfl rfl (cells_rec (k := 0) rfl)) (v' := .agg #[.int .i64 x5.kind, .int .i64 x5.who, .int .i64 x5.oth, .int .i64 x5.n]) rfl | [u1] => Val.cast (val_loadA rfl Try.ty33 rfl rfl rfl (cells_rec (k := 1) rfl)) (v' := .agg #[.int .i64 x5.kind, .int .i64 x5.who, .int .i64 x5.oth, .int .i64 x5.n]) rfl | [u1, u2] => Val.cast (val_loadA rfl Try.ty33 rfl rfl rfl (cells_rec (k := 2) rfl)) (v' := .agg #[.int .i64 x5.kind, .int .i64 x5.who, .int .i64 x5.oth, .int .i64 x5.n]) rfl | u1 :: u2 :: u3 :: _ => Val.cast (val_loadA rfl Try.ty33 rfl rfl rfl (cells_rec (k := 1) rfl)) (v' := .agg #[.int .i64 x5.kind, .int .i64 x5.who, .int .i64 x5.oth, .int .i64 x5.n]) rfl) ?_
    refine Gw.chg rfl rfl rfl rfl rfl (fun v => v = .int .i64 ((stepS (stS (ss0 money) (cs.take i)) x5).1)) (eff_call (vs := [ptr S 0, .agg #[.int .i64 x5.kind, .int .i64 x5.who, .int .i64 x5.oth, .int .i64 x5.n]]) rfl Try.fn12 rfl (fun w H => step_any x5 bd h6 (by omega) (by omega) (H.at_ (k := 4) rfl))) ?_
    rintro _ rfl
    refine Gw.chg rfl rfl rfl rfl rfl (fun v => ∃ b8, v = .slice (some ⟨b8, 0, none⟩) 1 1) (Eff.mono (eff_buildSlice rfl (qs := [(0, .int .i64 ((stepS (stS (ss0 money) (cs.take i)) x5).1))]) rfl rfl (cs := #[.int .i64 ((stepS (stS (ss0 money) (cs.take i)) x5).1)]) (vs := [.int .i64 ((stepS (stS (ss0 money) (cs.take i)) x5).1)]) (E := 28) rfl (fun w => by first | (go_simp; done) | (go_simp; rfl))) (by rintro _ _ ⟨b8, rfl, rfl⟩; exact ⟨⟨b8, rfl⟩, rfl⟩)) ?_
    rintro _ ⟨b8, rfl⟩
    refine Gw.chg rfl rfl rfl rfl rfl IsS (Eff.mono (eff_push (r := (stepS (stS (ss0 money) (cs.take i)) x5).1) rfl Try.eZ FZ_len FZ_one rfl rfl (k := 0) rfl rfl (k' := 2) rfl (by rw [hci]; omega) (by rw [hci]; omega)) (fun _ _ h => ⟨h.1, congrArg sep h.2⟩)) ?_
    intro v9 hiv9
    refine Gw.val rfl rfl rfl rfl rfl (fun us => Val.cast (val_fieldAddr rfl Try.underlying27 rfl Try.ty24 rfl rfl) (v' := ptr b3 0) rfl) ?_
    refine Gw.done ?_
    refine Gx.norm (l' := [worldH S money.length ((stepS (stS (ss0 money) (cs.take i)) x5).2), Hp.rec_ b6 [.int .i64 x5.kind, .int .i64 x5.who, .int .i64 x5.oth, .int .i64 x5.n], Hp.own FZ 1 v9 ((codesS (ss0 money) (cs.take i)) ++ [(stepS (stS (ss0 money) (cs.take i)) x5).1]), Hp.rec_ b3 [cv, .slice none 0 0, .slice none 0 0, .slice none 0 0, .bool false], Hp.rec_ b1 [.slice none 0 0, .slice none 0 0, .slice none 0 0, .slice none 0 0, .bool false]]) rfl ?_
    refine Gx.eff0 rfl rfl (eff_store rfl Try.ty24 rfl rfl (us := [v9]) hiv9.cellsL rfl hiv9.all (k := 3) rfl (rfl) (vs' := [v9, .slice none 0 0, .slice none 0 0, .slice none 0 0, .bool false]) (rfl) (l' := [worldH S money.length ((stepS (stS (ss0 money) (cs.take i)) x5).2), Hp.rec_ b6 [.int .i64 x5.kind, .int .i64 x5.who, .int .i64 x5.oth, .int .i64 x5.n], Hp.own FZ 1 v9 ((codesS (ss0 money) (cs.take i)) ++ [(stepS (stS (ss0 money) (cs.take i)) x5).1]), Hp.rec_ b3 [v9, .slice none 0 0, .slice none 0 0, .slice none 0 0, .bool false], Hp.rec_ b1 [.slice none 0 0, .slice none 0 0, .slice none 0 0, .slice none 0 0, .bool false]]) rfl) ?_
    rintro _ _ rfl
    refine Gx.done ?_
    refine Gx.blkN ?_
    refine Gx.thenN ?_
    refine Gx.region ?_
    refine Gx.val rfl rfl rfl (val_add rfl rfl rfl (r := ((i + 1 : Nat) : Int)) (w64 (by omega) (by omega))) ?_
    refine Gx.val rfl rfl rfl (val_move rfl rfl) ?_
    refine Gx.done ?_
    refine Gx.thenN ?_
    refine Gx.drop 1 rfl ?_
    refine Gx.front 0 rfl ?_
    refine Gx.front 3 rfl ?_
    refine Gx.front 3 rfl ?_
    refine Gx.front 3 rfl ?_
    refine Gx.norm (l' := [Hp.own FZ 1 v9 (codesS (ss0 money) (cs.take (i + 1))), Hp.rec_ b3 [v9, .slice none 0 0, .slice none 0 0, .slice none 0 0, .bool false], Hp.rec_ b1 [.slice none 0 0, .slice none 0 0, .slice none 0 0, .slice none 0 0, .bool false], worldH S money.length (stS (ss0 money) (cs.take (i + 1)))]) (by rw [stS_snoc hx5, codesS_snoc hx5] <;> rfl) ?_
    exact Gx.round (i + 1, v9) ⟨by first | omega | (dsimp only; omega), hiv9⟩ (by first | omega | (dsimp only; omega)) ((.cons rfl (.cons rfl (.cons rfl (.cons rfl (.cons rfl (.cons rfl (.cons rfl .nil)))))))) rfl
  · refine Gx.exit ?_
    refine Gx.thenE ?_
    refine Gx.thenE ?_
    refine Gx.blkE ?_
    refine Gx.thenN ?_
    refine Gx.seq ?_
    have ei : i = cs.length := by omega
    subst ei
    rw [List.take_length] at bd hci
    refine Gx.norm (l' := [Hp.own FZ 1 cv (codesS (ss0 money) cs), Hp.rec_ b3 [cv, .slice none 0 0, .slice none 0 0, .slice none 0 0, .bool false], Hp.rec_ b1 [.slice none 0 0, .slice none 0 0, .slice none 0 0, .slice none 0 0, .bool false], worldH S money.length (stS (ss0 money) cs)]) (by rw [List.take_length] <;> rfl) ?_
    obtain ⟨s, hsd⟩ : ∃ s, s = stS (ss0 money) cs := ⟨_, rfl⟩
    rw [← hsd] at bd
    refine Gx.norm (l' := [Hp.own FZ 1 cv (codesS (ss0 money) cs), Hp.rec_ b3 [cv, .slice none 0 0, .slice none 0 0, .slice none 0 0, .bool false], Hp.rec_ b1 [.slice none 0 0, .slice none 0 0, .slice none 0 0, .slice none 0 0, .bool false], worldH S money.length s]) (by rw [hsd] <;> rfl) ?_
    refine Gx.front 3 rfl ?_
    refine Gx.exists_ (α := {q : Value × Nat × Ks × List Rm // ROk money.length q.2.2.1 q.2.2.2 s.w}) (l' := fun q => [Hp.rec_ S [q.1.1, .map (some q.1.2.1)], Hp.own FP 2 q.1.1 s.ps, mapB q.1.2.1 q.1.2.2.1, Hp.big rowH q.1.2.2.2, Hp.own FZ 1 cv (codesS (ss0 money) cs), Hp.rec_ b3 [cv, .slice none 0 0, .slice none 0 0, .slice none 0 0, .bool false], Hp.rec_ b1 [.slice none 0 0, .slice none 0 0, .slice none 0 0, .slice none 0 0, .bool false]]) (fun w H => ?_) ?_
    · obtain ⟨pv, mb, ks, rs, h1, H⟩ := worldH.open_ (R := sep [Hp.own FZ 1 cv (codesS (ss0 money) cs), Hp.rec_ b3 [cv, .slice none 0 0, .slice none 0 0, .slice none 0 0, .bool false], Hp.rec_ b1 [.slice none 0 0, .slice none 0 0, .slice none 0 0, .slice none 0 0, .bool false]]) H
      exact ⟨⟨(pv, mb, ks, rs), h1⟩, H.cast (by rw [sep4R]; rfl)⟩
    rintro ⟨⟨pv, mb, ks, rs⟩, hok⟩
    dsimp only at hok
    refine Gx.norm (l' := [Hp.rec_ S [pv, .map (some mb)], Hp.own FP 2 pv s.ps, Hp.map Try.prog 47 pairL vB mb ks, Hp.big rowH rs, Hp.own FZ 1 cv (codesS (ss0 money) cs), Hp.rec_ b3 [cv, .slice none 0 0, .slice none 0 0, .slice none 0 0, .bool false], Hp.rec_ b1 [.slice none 0 0, .slice none 0 0, .slice none 0 0, .slice none 0 0, .bool false]]) rfl ?_
    have hsl := bd.len
    have hnn : money.length * money.length ≤ 36 := Nat.mul_le_mul h6 h6
    obtain ⟨sa10, sn11, sc12, rfl⟩ := hicv
    refine Gx.region ?_
    refine Gx.val rfl rfl rfl (Val.cast (val_fieldAddr rfl Try.underlying27 rfl Try.ty4 rfl rfl) (v' := ptr b3 4) rfl) ?_
    refine Gx.eff0 rfl rfl (eff_store rfl Try.ty4 rfl rfl (us := [.bool true]) rfl rfl rfl (k := 5) rfl (rfl) (vs' := [.slice sa10 sn11 sc12, .slice none 0 0, .slice none 0 0, .slice none 0 0, .bool true]) (rfl) (l' := [Hp.rec_ S [pv, .map (some mb)], Hp.own FP 2 pv s.ps, Hp.map Try.prog 47 pairL vB mb ks, Hp.big rowH rs, Hp.own FZ 1 (.slice sa10 sn11 sc12) (codesS (ss0 money) cs), Hp.rec_ b3 [.slice sa10 sn11 sc12, .slice none 0 0, .slice none 0 0, .slice none 0 0, .bool true], Hp.rec_ b1 [.slice none 0 0, .slice none 0 0, .slice none 0 0, .slice none 0 0, .bool false]]) rfl) ?_
    rintro _ _ rfl
    refine Gx.done ?_
    refine Gx.thenN ?_
    refine Gx.seq ?_
    refine Gx.region ?_
    refine Gx.val rfl rfl rfl (val_move rfl rfl) ?_
    refine Gx.val rfl rfl rfl (val_move rfl rfl) ?_
    refine Gx.val rfl rfl rfl (val_mul rfl rfl rfl (r := ((money.length * money.length : Nat) : Int)) (w64 (by omega) (by omega))) ?_
    refine Gx.eff rfl rfl rfl (eff_makeSlice (n := money.length * money.length) (f := FV) rfl Try.underlying25 Try.ty22 rfl rfl (rfl) (rfl) FV_len (⟨none, 0, 0⟩ : Sv) rfl (by omega) (by omega)) ?_
    rintro v13 _ ⟨hiv13, rfl⟩
    refine Gx.val rfl rfl rfl (Val.cast (val_fieldAddr rfl Try.underlying27 rfl Try.ty25 rfl rfl) (v' := ptr b3 3) rfl) ?_
    refine Gx.eff0 rfl rfl (eff_store rfl Try.ty25 rfl rfl (us := [v13]) hiv13.cellsL rfl hiv13.all (k := 6) rfl (rfl) (vs' := [.slice sa10 sn11 sc12, .slice none 0 0, .slice none 0 0, v13, .bool true]) (rfl) (l' := [Hp.own FV 1 v13 (List.replicate (money.length * money.length) (⟨none, 0, 0⟩ : Sv)), Hp.rec_ S [pv, .map (some mb)], Hp.own FP 2 pv s.ps, Hp.map Try.prog 47 pairL vB mb ks, Hp.big rowH rs, Hp.own FZ 1 (.slice sa10 sn11 sc12) (codesS (ss0 money) cs), Hp.rec_ b3 [.slice sa10 sn11 sc12, .slice none 0 0, .slice none 0 0, v13, .bool true], Hp.rec_ b1 [.slice none 0 0, .slice none 0 0, .slice none 0 0, .slice none 0 0, .bool false]]) rfl) ?_
    rintro _ _ rfl
    refine Gx.done ?_
    refine Gx.thenN ?_
    refine Gx.seq ?_
    refine Gx.seq ?_
    obtain ⟨sa14, sn15, sc16, rfl⟩ := hiv13
    refine Gx.ownNil FI 1 ?_
    refine Gx.ownNil FI 1 ?_
    refine Gx.region ?_
    refine Gx.val rfl rfl rfl (val_move rfl rfl) ?_
    refine Gx.val rfl rfl rfl (val_nilCheck rfl rfl) ?_
    refine Gx.val rfl rfl rfl (Val.cast (val_fieldAddr rfl Try.underlying44 rfl Try.ty41 rfl rfl) (v' := ptr S 0) rfl) ?_
    refine Gx.val rfl rfl rfl (val_load rfl Try.ty41 rfl rfl (cell_rec (k := 3) rfl rfl)) ?_
    refine Gx.val rfl rfl rfl (val_len rfl Try.underlying41 rfl (len_own (k := 4) rfl)) ?_
    refine Gx.val rfl rfl rfl (val_move rfl rfl) ?_
    refine Gx.done ?_
    refine Gx.thenN ?_
    refine Gx.block ?_
    refine Gx.front 9 rfl ?_
    refine Gx.front 8 rfl ?_
    refine Gx.front 8 rfl ?_
    refine Gx.front 8 rfl ?_
    refine Gx.front 8 rfl ?_
    refine Gx.front 8 rfl ?_
    refine Gx.front 8 rfl ?_
    refine Gx.front 9 rfl ?_
    refine Gx.front 9 rfl ?_
    refine Gx.front 9 rfl ?_
    refine Gx.loop (ι := Nat × Value × Value × Bool) (fun ξ => (ξ.1 ≤ s.ps.length) ∧ (IsS ξ.2.1) ∧ (IsS ξ.2.2.1) ∧ (ξ.2.2.2 = true ↔ ∀ p ∈ s.ps.take ξ.1, p.ow ≠ -1)) (fun ξ => [(4, ptr b1 0), (6, .int .i64 ((money.length : Nat) : Int)), (7, ptr S 0), (8, ptr b3 0), (58, pv), (59, .int .i64 ((s.ps.length : Nat) : Int)), (60, .int .i64 ((ξ.1 : Nat) : Int))]) (fun ξ => [Hp.own FI 1 ξ.2.1 ((s.ps.take ξ.1).map Pr.mo), Hp.own FI 1 ξ.2.2.1 ((s.ps.take ξ.1).map Pr.ow), Hp.rec_ b3 [.slice sa10 sn11 sc12, ξ.2.1, ξ.2.2.1, .slice sa14 sn15 sc16, .bool ξ.2.2.2], Hp.own FV 1 (.slice sa14 sn15 sc16) (List.replicate (money.length * money.length) (⟨none, 0, 0⟩ : Sv)), Hp.rec_ S [pv, .map (some mb)], Hp.own FP 2 pv s.ps, Hp.map Try.prog 47 pairL vB mb ks, Hp.big rowH rs, Hp.own FZ 1 (.slice sa10 sn11 sc12) (codesS (ss0 money) cs), Hp.rec_ b1 [.slice none 0 0, .slice none 0 0, .slice none 0 0, .slice none 0 0, .bool false]]) (fun ξ => s.ps.length - ξ.1) (0, (.slice none 0 0), (.slice none 0 0), true) ⟨by first | omega | (dsimp only; omega), ⟨none, 0, 0, rfl⟩, ⟨none, 0, 0, rfl⟩, by simp⟩ ((.cons rfl (.cons rfl (.cons rfl (.cons rfl (.cons rfl (.cons rfl (.cons rfl .nil)))))))) rfl ?_
    rintro ⟨k, wv, uv, dz⟩ ⟨hk, hiw, hiu, hdn⟩
    dsimp only at hk hiw hiu hdn
    refine Gx.know (m' := [(4, ptr b1 0), (6, .int .i64 ((money.length : Nat) : Int)), (7, ptr S 0), (8, ptr b3 0), (58, pv), (59, .int .i64 ((s.ps.length : Nat) : Int)), (60, .int .i64 ((k : Nat) : Int))]) (.cons rfl (.cons rfl (.cons rfl (.cons rfl (.cons rfl (.cons rfl (.cons rfl .nil))))))) (Gx.norm (l' := [Hp.own FI 1 wv ((s.ps.take k).map Pr.mo), Hp.own FI 1 uv ((s.ps.take k).map Pr.ow), Hp.rec_ b3 [.slice sa10 sn11 sc12, wv, uv, .slice sa14 sn15 sc16, .bool dz], Hp.own FV 1 (.slice sa14 sn15 sc16) (List.replicate (money.length * money.length) (⟨none, 0, 0⟩ : Sv)), Hp.rec_ S [pv, .map (some mb)], Hp.own FP 2 pv s.ps, Hp.map Try.prog 47 pairL vB mb ks, Hp.big rowH rs, Hp.own FZ 1 (.slice sa10 sn11 sc12) (codesS (ss0 money) cs), Hp.rec_ b1 [.slice none 0 0, .slice none 0 0, .slice none 0 0, .slice none 0 0, .bool false]]) rfl ?_)
    have hml : ((s.ps.take k).map Pr.mo).length = k := by rw [List.length_map, List.length_take]; omega
    have hol : ((s.ps.take k).map Pr.ow).length = k := by rw [List.length_map, List.length_take]; omega
    refine Gx.seq ?_
    refine Gx.region ?_
    refine Gx.val rfl rfl rfl (val_lss rfl rfl rfl) ?_
    refine Gx.done ?_
    refine Gx.thenN ?_
    refine Gx.seq ?_
    refine Gx.dec rfl (fun h17 => ?_) (fun h17 => ?_)
    · refine Gx.skip ?_
      refine Gx.thenN ?_
      refine Gx.seq ?_
      refine Gx.block ?_
      refine Gx.seq ?_
      refine Gx.region ?_
      obtain ⟨x18, hx18⟩ := get_of_lt (xs := s.ps) (k := k) (by first | omega | (simp; omega))
      refine Gx.val rfl rfl rfl (val_ixa rfl Try.underlying41 Try.ty46 rfl rfl (j := k) (rfl) (reach_own (k := 5) rfl hx18)) ?_
      refine Gx.val rfl rfl rfl (Val.cast (val_loadA rfl Try.ty46 rfl rfl rfl (cells_own (k := 5) rfl hx18)) (v' := .agg #[.int .i64 x18.mo, .int .i64 x18.ow]) rfl) ?_
      refine Gx.eff rfl rfl rfl (eff_alloc rfl Try.ty46 (vs := [.int .i64 0, .int .i64 0]) rfl) ?_
      rintro _ _ ⟨b19, rfl, rfl⟩
      refine Gx.eff0 rfl rfl (eff_store rfl Try.ty46 rfl rfl (us := [.int .i64 x18.mo, .int .i64 x18.ow]) rfl rfl rfl (k := 0) rfl (rfl) (vs' := [.int .i64 x18.mo, .int .i64 x18.ow]) (rfl) (l' := [Hp.rec_ b19 [.int .i64 x18.mo, .int .i64 x18.ow], Hp.own FI 1 wv ((s.ps.take k).map Pr.mo), Hp.own FI 1 uv ((s.ps.take k).map Pr.ow), Hp.rec_ b3 [.slice sa10 sn11 sc12, wv, uv, .slice sa14 sn15 sc16, .bool dz], Hp.own FV 1 (.slice sa14 sn15 sc16) (List.replicate (money.length * money.length) (⟨none, 0, 0⟩ : Sv)), Hp.rec_ S [pv, .map (some mb)], Hp.own FP 2 pv s.ps, Hp.map Try.prog 47 pairL vB mb ks, Hp.big rowH rs, Hp.own FZ 1 (.slice sa10 sn11 sc12) (codesS (ss0 money) cs), Hp.rec_ b1 [.slice none 0 0, .slice none 0 0, .slice none 0 0, .slice none 0 0, .bool false]]) rfl) ?_
      rintro _ _ rfl
      refine Gx.done ?_
      refine Gx.thenN ?_
      refine Gx.seq ?_
      -- region 18, in whatever order
      refine Gx.ones 6 (Gx.norm (l' := [Hp.rec_ b19 [.int .i64 x18.mo, .int .i64 x18.ow], Hp.own FI 1 wv ((s.ps.take k).map Pr.mo), Hp.own FI 1 uv ((s.ps.take k).map Pr.ow), Hp.rec_ b3 [.slice sa10 sn11 sc12, wv, uv, .slice sa14 sn15 sc16, .bool dz], Hp.own FV 1 (.slice sa14 sn15 sc16) (List.replicate (money.length * money.length) (⟨none, 0, 0⟩ : Sv)), Hp.rec_ S [pv, .map (some mb)], Hp.own FP 2 pv s.ps, Hp.map Try.prog 47 pairL vB mb ks, Hp.big rowH rs, Hp.own FZ 1 (.slice sa10 sn11 sc12) (codesS (ss0 money) cs), Hp.rec_ b1 [.slice none 0 0, .slice none 0 0, .slice none 0 0, .slice none 0 0, .bool false], 1, 1, 1, 1, 1, 1]) rfl ?_)
      obtain ⟨pp20x1, pp20x1e⟩ : ∃ p : Done → Hp, p = fun d => cond (dn d 5) (Hp.own FI 1 (dv d 5) (((s.ps.take k).map Pr.mo) ++ [x18.mo])) (Hp.own FI 1 wv ((s.ps.take k).map Pr.mo)) := ⟨_, rfl⟩
      obtain ⟨pp20x2, pp20x2e⟩ : ∃ p : Done → Hp, p = fun d => cond (dn d 11) (Hp.own FI 1 (dv d 11) (((s.ps.take k).map Pr.ow) ++ [x18.ow])) (Hp.own FI 1 uv ((s.ps.take k).map Pr.ow)) := ⟨_, rfl⟩
      obtain ⟨pp20x3, pp20x3e⟩ : ∃ p : Done → Hp, p = fun d => cond (dn d 15) (Hp.rec_ b3 [.slice sa10 sn11 sc12, (dv d 5), (dv d 11), .slice sa14 sn15 sc16, .bool dz]) (cond (dn d 13) (Hp.rec_ b3 [.slice sa10 sn11 sc12, (dv d 5), uv, .slice sa14 sn15 sc16, .bool dz]) (Hp.rec_ b3 [.slice sa10 sn11 sc12, wv, uv, .slice sa14 sn15 sc16, .bool dz])) := ⟨_, rfl⟩
      obtain ⟨pp20x11, pp20x11e⟩ : ∃ p : Done → Hp, p = fun d => cond (dn d 5) (1) (cond (dn d 4) (Hp.rec_ (sB (dv d 4)) [.int .i64 x18.mo]) (1)) := ⟨_, rfl⟩
      obtain ⟨pp20x12, pp20x12e⟩ : ∃ p : Done → Hp, p = fun d => cond (dn d 11) (1) (cond (dn d 10) (Hp.rec_ (sB (dv d 10)) [.int .i64 x18.ow]) (1)) := ⟨_, rfl⟩
      obtain ⟨pp20x13, pp20x13e⟩ : ∃ p : Done → Hp, p = fun d => cond (dn d 4) (Hp.pure (dv d 4 = .slice (some ⟨sB (dv d 4), 0, none⟩) 1 1)) 1 := ⟨_, rfl⟩
      obtain ⟨pp20x14, pp20x14e⟩ : ∃ p : Done → Hp, p = fun d => cond (dn d 5) (Hp.pure (IsS (dv d 5))) 1 := ⟨_, rfl⟩
      obtain ⟨pp20x15, pp20x15e⟩ : ∃ p : Done → Hp, p = fun d => cond (dn d 10) (Hp.pure (dv d 10 = .slice (some ⟨sB (dv d 10), 0, none⟩) 1 1)) 1 := ⟨_, rfl⟩
      obtain ⟨pp20x16, pp20x16e⟩ : ∃ p : Done → Hp, p = fun d => cond (dn d 11) (Hp.pure (IsS (dv d 11))) 1 := ⟨_, rfl⟩
      refine Gx.regionF [4, 5, 10, 11, 13, 15] [0, 1, 2, 3, 6, 7, 8, 9, 12, 14] (fun ιi => cond (Nat.beq ιi 9) [Hp.rec_ b19 [.int .i64 x18.mo, .int .i64 x18.ow]] (cond (Nat.beq ιi 7) [Hp.rec_ b3 [.slice sa10 sn11 sc12, wv, uv, .slice sa14 sn15 sc16, .bool dz]] (cond (Nat.beq ιi 3) [Hp.rec_ b19 [.int .i64 x18.mo, .int .i64 x18.ow]] (cond (Nat.beq ιi 1) [Hp.rec_ b3 [.slice sa10 sn11 sc12, wv, uv, .slice sa14 sn15 sc16, .bool dz]] ([]))))) (fun d => [Hp.rec_ b19 [.int .i64 x18.mo, .int .i64 x18.ow], pp20x1 d, pp20x2 d, pp20x3 d, Hp.own FV 1 (.slice sa14 sn15 sc16) (List.replicate (money.length * money.length) (⟨none, 0, 0⟩ : Sv)), Hp.rec_ S [pv, .map (some mb)], Hp.own FP 2 pv s.ps, Hp.map Try.prog 47 pairL vB mb ks, Hp.big rowH rs, Hp.own FZ 1 (.slice sa10 sn11 sc12) (codesS (ss0 money) cs), Hp.rec_ b1 [.slice none 0 0, .slice none 0 0, .slice none 0 0, .slice none 0 0, .bool false], pp20x11 d, pp20x12 d, pp20x13 d, pp20x14 d, pp20x15 d, pp20x16 d]) Try.mixed (by kernel_rfl) (by kernel_rfl) (by rw [pp20x1e]; rw [pp20x2e]; rw [pp20x3e]; rw [pp20x11e]; rw [pp20x12e]; rw [pp20x13e]; rw [pp20x14e]; rw [pp20x15e]; rw [pp20x16e]; rfl) ?_ ?_
      · intro ιi d w hc hs H
        by_cases hn1 : ιi = 1
        · subst hn1
          have q5 : dn d 5 = false := hs 5 rfl (by kernel_rfl)
          have q13 : dn d 13 = false := hs 13 rfl (by kernel_rfl)
          have q15 : dn d 15 = false := hs 15 rfl (by kernel_rfl)
          have q11 : dn d 11 = false := hc.not 11 5 rfl (by kernel_rfl) q5
          exact H.only (k := 3) rfl (by rw [pp20x3e]; simp only [q13, q15, cond_false])
        · by_cases hn3 : ιi = 3
          · subst hn3
            exact H.only (k := 0) rfl rfl
          · by_cases hn7 : ιi = 7
            · subst hn7
              have q11 : dn d 11 = false := hs 11 rfl (by kernel_rfl)
              have q13 : dn d 13 = false := hs 13 rfl (by kernel_rfl)
              have q15 : dn d 15 = false := hs 15 rfl (by kernel_rfl)
              exact H.only (k := 3) rfl (by rw [pp20x3e]; simp only [q13, q15, cond_false])
            · by_cases hn9 : ιi = 9
              · subst hn9
                exact H.only (k := 0) rfl rfl
              · refine Sat.listed (l := []) H.noneL ?_
                simp only [beq_no hn1, beq_no hn3, beq_no hn7, beq_no hn9, cond_false]
      refine Gp.val rfl rfl rfl rfl (Val.cast (val_fieldAddr rfl Try.underlying27 rfl Try.ty22 rfl rfl) (v' := ptr b3 1) rfl) ?_
      refine Gp.val rfl rfl rfl rfl (val_load rfl Try.ty22 rfl rfl (cell_rec (k := 0) rfl rfl)) ?_
      refine Gp.val rfl rfl rfl rfl (Val.cast (val_fieldAddr rfl Try.underlying46 rfl Try.ty3 rfl rfl) (v' := ptr b19 0) rfl) ?_
      refine Gp.val rfl rfl rfl rfl (val_load rfl Try.ty3 rfl rfl (cell_rec (k := 0) rfl rfl)) ?_
      refine Gp.val rfl rfl rfl rfl (Val.cast (val_fieldAddr rfl Try.underlying27 rfl Try.ty22 rfl rfl) (v' := ptr b3 2) rfl) ?_
      refine Gp.val rfl rfl rfl rfl (val_load rfl Try.ty22 rfl rfl (cell_rec (k := 0) rfl rfl)) ?_
      refine Gp.val rfl rfl rfl rfl (Val.cast (val_fieldAddr rfl Try.underlying46 rfl Try.ty3 rfl rfl) (v' := ptr b19 1) rfl) ?_
      refine Gp.val rfl rfl rfl rfl (val_load rfl Try.ty3 rfl rfl (cell_rec (k := 0) rfl rfl)) ?_
      refine Gp.val rfl rfl rfl rfl (Val.cast (val_fieldAddr rfl Try.underlying27 rfl Try.ty22 rfl rfl) (v' := ptr b3 1) rfl) ?_
      refine Gp.val rfl rfl rfl rfl (Val.cast (val_fieldAddr rfl Try.underlying27 rfl Try.ty22 rfl rfl) (v' := ptr b3 2) rfl) ?_
      refine Gp.done (uniq_of (by kernel_rfl)) (by rfl) (by kernel_rfl) ⟨⟨_, rfl, ?_⟩, ⟨_, rfl, ?_⟩, ⟨_, rfl, ?_⟩, ⟨_, rfl, ?_⟩, ⟨_, rfl, ?_⟩, ⟨_, rfl, ?_⟩, trivial⟩ ?_
      · intro d hc hdi hpre a w hf H
        change Sat _ _ (sep [Hp.rec_ b19 [.int .i64 x18.mo, .int .i64 x18.ow], pp20x1 d, pp20x2 d, pp20x3 d, Hp.own FV 1 (.slice sa14 sn15 sc16) (List.replicate (money.length * money.length) (⟨none, 0, 0⟩ : Sv)), Hp.rec_ S [pv, .map (some mb)], Hp.own FP 2 pv s.ps, Hp.map Try.prog 47 pairL vB mb ks, Hp.big rowH rs, Hp.own FZ 1 (.slice sa10 sn11 sc12) (codesS (ss0 money) cs), Hp.rec_ b1 [.slice none 0 0, .slice none 0 0, .slice none 0 0, .slice none 0 0, .bool false], pp20x11 d, pp20x12 d, pp20x13 d, pp20x14 d, pp20x15 d, pp20x16 d]) at H
        have q4 := hdi
        have q5 : dn d 5 = false := hc.not 5 4 rfl (by kernel_rfl) q4
        have q13 : dn d 13 = false := hc.not 13 4 rfl (by kernel_rfl) q4
        have q15 : dn d 15 = false := hc.not 15 4 rfl (by kernel_rfl) q4
        have q11 : dn d 11 = false := hc.not 11 5 rfl (by kernel_rfl) q5
        have n1 : pp20x1 d = Hp.own FI 1 wv ((s.ps.take k).map Pr.mo) := by rw [pp20x1e]; simp only [q5, cond_true, cond_false]
        have n2 : pp20x2 d = Hp.own FI 1 uv ((s.ps.take k).map Pr.ow) := by rw [pp20x2e]; simp only [q11, cond_true, cond_false]
        have n3 : pp20x3 d = Hp.rec_ b3 [.slice sa10 sn11 sc12, wv, uv, .slice sa14 sn15 sc16, .bool dz] := by rw [pp20x3e]; simp only [q13, q15, cond_true, cond_false]
        have n11 : pp20x11 d = 1 := by rw [pp20x11e]; simp only [q4, q5, cond_true, cond_false]
        have n13 : pp20x13 d = 1 := by rw [pp20x13e]; simp only [q4, cond_true, cond_false]
        rw [n1, n2, n3, n11, n13] at H
        refine EffAt.mono (Eff.at_ hf.slots H (eff_buildSlice rfl (qs := [(0, .int .i64 x18.mo)]) rfl rfl (cs := #[.int .i64 x18.mo]) (vs := [.int .i64 x18.mo]) (E := 3) rfl (fun w => by first | (go_simp; done) | (go_simp; rfl)))) ?_
        rintro _ w2 ⟨_, ⟨b21, rfl, rfl⟩, H2⟩
        have H2 := Sat.fillAt H2 (k := 11) rfl
        have H2 := (Sat.pureI (p := (.slice (some ⟨b21, 0, none⟩) 1 1 : Value) = .slice (some ⟨b21, 0, none⟩) 1 1) rfl H2).fillAt (k := 13) rfl
        obtain ⟨d2, hd2⟩ : ∃ d2, d2 = upd d 4 (.slice (some ⟨b21, 0, none⟩) 1 1) := ⟨_, rfl⟩
        have m4 : dn d2 4 = true := by rw [hd2]; rfl
        have m5 : dn d2 5 = false := by rw [hd2]; exact q5
        have m13 : dn d2 13 = false := by rw [hd2]; exact q13
        have m15 : dn d2 15 = false := by rw [hd2]; exact q15
        have m11 : dn d2 11 = false := by rw [hd2]; exact q11
        rw [← hd2]
        change Sat _ _ (sep [Hp.rec_ b19 [.int .i64 x18.mo, .int .i64 x18.ow], pp20x1 d2, pp20x2 d2, pp20x3 d2, Hp.own FV 1 (.slice sa14 sn15 sc16) (List.replicate (money.length * money.length) (⟨none, 0, 0⟩ : Sv)), Hp.rec_ S [pv, .map (some mb)], Hp.own FP 2 pv s.ps, Hp.map Try.prog 47 pairL vB mb ks, Hp.big rowH rs, Hp.own FZ 1 (.slice sa10 sn11 sc12) (codesS (ss0 money) cs), Hp.rec_ b1 [.slice none 0 0, .slice none 0 0, .slice none 0 0, .slice none 0 0, .bool false], pp20x11 d2, pp20x12 d2, pp20x13 d2, pp20x14 d2, pp20x15 d2, pp20x16 d2])
        have u1 := congrFun pp20x1e d2
        simp only [m5, cond_true, cond_false] at u1
        have u2 := congrFun pp20x2e d2
        simp only [m11, cond_true, cond_false] at u2
        have u3 := congrFun pp20x3e d2
        simp only [m13, m15, cond_true, cond_false] at u3
        have u11 := congrFun pp20x11e d2
        simp only [m4, m5, cond_true, cond_false] at u11
        have u12 : pp20x12 d2 = pp20x12 d := by rw [hd2, pp20x12e]; rfl
        have u13 := congrFun pp20x13e d2
        simp only [m4, cond_true, cond_false] at u13
        have u14 : pp20x14 d2 = pp20x14 d := by rw [hd2, pp20x14e]; rfl
        have u15 : pp20x15 d2 = pp20x15 d := by rw [hd2, pp20x15e]; rfl
        have u16 : pp20x16 d2 = pp20x16 d := by rw [hd2, pp20x16e]; rfl
        rw [u1, u2, u3, u11, u12, u13, u14, u15, u16]
        subst hd2
        exact H2
      · intro d hc hdi hpre a w hf H
        change Sat _ _ (sep [Hp.rec_ b19 [.int .i64 x18.mo, .int .i64 x18.ow], pp20x1 d, pp20x2 d, pp20x3 d, Hp.own FV 1 (.slice sa14 sn15 sc16) (List.replicate (money.length * money.length) (⟨none, 0, 0⟩ : Sv)), Hp.rec_ S [pv, .map (some mb)], Hp.own FP 2 pv s.ps, Hp.map Try.prog 47 pairL vB mb ks, Hp.big rowH rs, Hp.own FZ 1 (.slice sa10 sn11 sc12) (codesS (ss0 money) cs), Hp.rec_ b1 [.slice none 0 0, .slice none 0 0, .slice none 0 0, .slice none 0 0, .bool false], pp20x11 d, pp20x12 d, pp20x13 d, pp20x14 d, pp20x15 d, pp20x16 d]) at H
        have q4 : dn d 4 = true := hpre 4 (by kernel_rfl)
        have q5 := hdi
        have q11 : dn d 11 = false := hc.not 11 5 rfl (by kernel_rfl) q5
        have q13 : dn d 13 = false := hc.not 13 5 rfl (by kernel_rfl) q5
        have q15 : dn d 15 = false := hc.not 15 5 rfl (by kernel_rfl) q5
        have e4 : dv d 4 = .slice (some ⟨sB (dv d 4), 0, none⟩) 1 1 := H.factAt (k := 13) rfl (by rw [pp20x13e]; simp only [q4, cond_true])
        have n1 : pp20x1 d = Hp.own FI 1 wv ((s.ps.take k).map Pr.mo) := by rw [pp20x1e]; simp only [q5, cond_true, cond_false]
        have n2 : pp20x2 d = Hp.own FI 1 uv ((s.ps.take k).map Pr.ow) := by rw [pp20x2e]; simp only [q11, cond_true, cond_false]
        have n3 : pp20x3 d = Hp.rec_ b3 [.slice sa10 sn11 sc12, wv, uv, .slice sa14 sn15 sc16, .bool dz] := by rw [pp20x3e]; simp only [q13, q15, cond_true, cond_false]
        have n11 : pp20x11 d = Hp.rec_ (sB (dv d 4)) [.int .i64 x18.mo] := by rw [pp20x11e]; simp only [q4, q5, cond_true, cond_false]
        have n14 : pp20x14 d = 1 := by rw [pp20x14e]; simp only [q5, cond_true, cond_false]
        rw [n1, n2, n3, n11, n14] at H
        have s4 := hf.add hf.slots 4 rfl (by kernel_rfl) rfl q4 (v := .slice (some ⟨sB (dv d 4), 0, none⟩) 1 1) e4
        refine EffAt.mono (Eff.at_ s4 H (eff_pushP (r := x18.mo) rfl Try.eI FI_len FI_one rfl rfl (k := 11) rfl rfl (k' := 1) rfl (by rw [hml]; omega) (by rw [hml]; omega))) ?_
        rintro v22 w2 ⟨_, ⟨hiv22, rfl⟩, H2⟩
        have H2 := (Sat.pureI hiv22 H2).fillAt (k := 14) rfl
        obtain ⟨d2, hd2⟩ : ∃ d2, d2 = upd d 5 (v22) := ⟨_, rfl⟩
        have m5 : dn d2 5 = true := by rw [hd2]; rfl
        have m4 : dn d2 4 = true := by rw [hd2]; exact q4
        have m11 : dn d2 11 = false := by rw [hd2]; exact q11
        have m13 : dn d2 13 = false := by rw [hd2]; exact q13
        have m15 : dn d2 15 = false := by rw [hd2]; exact q15
        rw [← hd2]
        change Sat _ _ (sep [Hp.rec_ b19 [.int .i64 x18.mo, .int .i64 x18.ow], pp20x1 d2, pp20x2 d2, pp20x3 d2, Hp.own FV 1 (.slice sa14 sn15 sc16) (List.replicate (money.length * money.length) (⟨none, 0, 0⟩ : Sv)), Hp.rec_ S [pv, .map (some mb)], Hp.own FP 2 pv s.ps, Hp.map Try.prog 47 pairL vB mb ks, Hp.big rowH rs, Hp.own FZ 1 (.slice sa10 sn11 sc12) (codesS (ss0 money) cs), Hp.rec_ b1 [.slice none 0 0, .slice none 0 0, .slice none 0 0, .slice none 0 0, .bool false], pp20x11 d2, pp20x12 d2, pp20x13 d2, pp20x14 d2, pp20x15 d2, pp20x16 d2])
        have u1 := congrFun pp20x1e d2
        simp only [m5, cond_true, cond_false] at u1
        have u2 := congrFun pp20x2e d2
        simp only [m11, cond_true, cond_false] at u2
        have u3 := congrFun pp20x3e d2
        simp only [m13, m15, cond_true, cond_false] at u3
        have u11 := congrFun pp20x11e d2
        simp only [m4, m5, cond_true, cond_false] at u11
        have u12 : pp20x12 d2 = pp20x12 d := by rw [hd2, pp20x12e]; rfl
        have u13 : pp20x13 d2 = pp20x13 d := by rw [hd2, pp20x13e]; rfl
        have u14 := congrFun pp20x14e d2
        simp only [m5, cond_true, cond_false] at u14
        have u15 : pp20x15 d2 = pp20x15 d := by rw [hd2, pp20x15e]; rfl
        have u16 : pp20x16 d2 = pp20x16 d := by rw [hd2, pp20x16e]; rfl
        rw [u1, u2, u3, u11, u12, u13, u14, u15, u16]
        subst hd2
        exact H2
      · intro d hc hdi hpre a w hf H
        change Sat _ _ (sep [Hp.rec_ b19 [.int .i64 x18.mo, .int .i64 x18.ow], pp20x1 d, pp20x2 d, pp20x3 d, Hp.own FV 1 (.slice sa14 sn15 sc16) (List.replicate (money.length * money.length) (⟨none, 0, 0⟩ : Sv)), Hp.rec_ S [pv, .map (some mb)], Hp.own FP 2 pv s.ps, Hp.map Try.prog 47 pairL vB mb ks, Hp.big rowH rs, Hp.own FZ 1 (.slice sa10 sn11 sc12) (codesS (ss0 money) cs), Hp.rec_ b1 [.slice none 0 0, .slice none 0 0, .slice none 0 0, .slice none 0 0, .bool false], pp20x11 d, pp20x12 d, pp20x13 d, pp20x14 d, pp20x15 d, pp20x16 d]) at H
        have q10 := hdi
        have q11 : dn d 11 = false := hc.not 11 10 rfl (by kernel_rfl) q10
        have q15 : dn d 15 = false := hc.not 15 10 rfl (by kernel_rfl) q10
        have q13 : dn d 13 = false := hc.not 13 11 rfl (by kernel_rfl) q11
        have n2 : pp20x2 d = Hp.own FI 1 uv ((s.ps.take k).map Pr.ow) := by rw [pp20x2e]; simp only [q11, cond_true, cond_false]
        have n3 : pp20x3 d = Hp.rec_ b3 [.slice sa10 sn11 sc12, wv, uv, .slice sa14 sn15 sc16, .bool dz] := by rw [pp20x3e]; simp only [q13, q15, cond_true, cond_false]
        have n12 : pp20x12 d = 1 := by rw [pp20x12e]; simp only [q10, q11, cond_true, cond_false]
        have n15 : pp20x15 d = 1 := by rw [pp20x15e]; simp only [q10, cond_true, cond_false]
        rw [n2, n3, n12, n15] at H
        refine EffAt.mono (Eff.at_ hf.slots H (eff_buildSlice rfl (qs := [(0, .int .i64 x18.ow)]) rfl rfl (cs := #[.int .i64 x18.ow]) (vs := [.int .i64 x18.ow]) (E := 3) rfl (fun w => by first | (go_simp; done) | (go_simp; rfl)))) ?_
        rintro _ w2 ⟨_, ⟨b23, rfl, rfl⟩, H2⟩
        have H2 := Sat.fillAt H2 (k := 12) rfl
        have H2 := (Sat.pureI (p := (.slice (some ⟨b23, 0, none⟩) 1 1 : Value) = .slice (some ⟨b23, 0, none⟩) 1 1) rfl H2).fillAt (k := 15) rfl
        obtain ⟨d2, hd2⟩ : ∃ d2, d2 = upd d 10 (.slice (some ⟨b23, 0, none⟩) 1 1) := ⟨_, rfl⟩
        have m10 : dn d2 10 = true := by rw [hd2]; rfl
        have m11 : dn d2 11 = false := by rw [hd2]; exact q11
        have m15 : dn d2 15 = false := by rw [hd2]; exact q15
        have m13 : dn d2 13 = false := by rw [hd2]; exact q13
        rw [← hd2]
        change Sat _ _ (sep [Hp.rec_ b19 [.int .i64 x18.mo, .int .i64 x18.ow], pp20x1 d2, pp20x2 d2, pp20x3 d2, Hp.own FV 1 (.slice sa14 sn15 sc16) (List.replicate (money.length * money.length) (⟨none, 0, 0⟩ : Sv)), Hp.rec_ S [pv, .map (some mb)], Hp.own FP 2 pv s.ps, Hp.map Try.prog 47 pairL vB mb ks, Hp.big rowH rs, Hp.own FZ 1 (.slice sa10 sn11 sc12) (codesS (ss0 money) cs), Hp.rec_ b1 [.slice none 0 0, .slice none 0 0, .slice none 0 0, .slice none 0 0, .bool false], pp20x11 d2, pp20x12 d2, pp20x13 d2, pp20x14 d2, pp20x15 d2, pp20x16 d2])
        have u1 : pp20x1 d2 = pp20x1 d := by rw [hd2, pp20x1e]; rfl
        have u2 := congrFun pp20x2e d2
        simp only [m11, cond_true, cond_false] at u2
        have u3 := congrFun pp20x3e d2
        simp only [m13, m15, cond_true, cond_false] at u3
        have u11 : pp20x11 d2 = pp20x11 d := by rw [hd2, pp20x11e]; rfl
        have u12 := congrFun pp20x12e d2
        simp only [m10, m11, cond_true, cond_false] at u12
        have u13 : pp20x13 d2 = pp20x13 d := by rw [hd2, pp20x13e]; rfl
        have u14 : pp20x14 d2 = pp20x14 d := by rw [hd2, pp20x14e]; rfl
        have u15 := congrFun pp20x15e d2
        simp only [m10, cond_true, cond_false] at u15
        have u16 : pp20x16 d2 = pp20x16 d := by rw [hd2, pp20x16e]; rfl
        rw [u1, u2, u3, u11, u12, u13, u14, u15, u16]
        subst hd2
        exact H2
      · intro d hc hdi hpre a w hf H
        change Sat _ _ (sep [Hp.rec_ b19 [.int .i64 x18.mo, .int .i64 x18.ow], pp20x1 d, pp20x2 d, pp20x3 d, Hp.own FV 1 (.slice sa14 sn15 sc16) (List.replicate (money.length * money.length) (⟨none, 0, 0⟩ : Sv)), Hp.rec_ S [pv, .map (some mb)], Hp.own FP 2 pv s.ps, Hp.map Try.prog 47 pairL vB mb ks, Hp.big rowH rs, Hp.own FZ 1 (.slice sa10 sn11 sc12) (codesS (ss0 money) cs), Hp.rec_ b1 [.slice none 0 0, .slice none 0 0, .slice none 0 0, .slice none 0 0, .bool false], pp20x11 d, pp20x12 d, pp20x13 d, pp20x14 d, pp20x15 d, pp20x16 d]) at H
        have q10 : dn d 10 = true := hpre 10 (by kernel_rfl)
        have q5 : dn d 5 = true := hpre 5 (by kernel_rfl)
        have q4 : dn d 4 = true := hc.pre 5 4 rfl (by kernel_rfl) q5
        have q11 := hdi
        have q13 : dn d 13 = false := hc.not 13 11 rfl (by kernel_rfl) q11
        have q15 : dn d 15 = false := hc.not 15 11 rfl (by kernel_rfl) q11
        have e10 : dv d 10 = .slice (some ⟨sB (dv d 10), 0, none⟩) 1 1 := H.factAt (k := 15) rfl (by rw [pp20x15e]; simp only [q10, cond_true])
        have e5 : IsS (dv d 5) := H.factAt (k := 14) rfl (by rw [pp20x14e]; simp only [q5, cond_true])
        have e4 : dv d 4 = .slice (some ⟨sB (dv d 4), 0, none⟩) 1 1 := H.factAt (k := 13) rfl (by rw [pp20x13e]; simp only [q4, cond_true])
        have n1 : pp20x1 d = Hp.own FI 1 (dv d 5) (((s.ps.take k).map Pr.mo) ++ [x18.mo]) := by rw [pp20x1e]; simp only [q5, cond_true, cond_false]
        have n2 : pp20x2 d = Hp.own FI 1 uv ((s.ps.take k).map Pr.ow) := by rw [pp20x2e]; simp only [q11, cond_true, cond_false]
        have n3 : pp20x3 d = Hp.rec_ b3 [.slice sa10 sn11 sc12, wv, uv, .slice sa14 sn15 sc16, .bool dz] := by rw [pp20x3e]; simp only [q13, q15, cond_true, cond_false]
        have n11 : pp20x11 d = 1 := by rw [pp20x11e]; simp only [q4, q5, cond_true, cond_false]
        have n12 : pp20x12 d = Hp.rec_ (sB (dv d 10)) [.int .i64 x18.ow] := by rw [pp20x12e]; simp only [q10, q11, cond_true, cond_false]
        have n16 : pp20x16 d = 1 := by rw [pp20x16e]; simp only [q11, cond_true, cond_false]
        rw [n1, n2, n3, n11, n12, n16] at H
        have s10 := hf.add hf.slots 10 rfl (by kernel_rfl) rfl q10 (v := .slice (some ⟨sB (dv d 10), 0, none⟩) 1 1) e10
        refine EffAt.mono (Eff.at_ s10 H (eff_pushP (r := x18.ow) rfl Try.eI FI_len FI_one rfl rfl (k := 12) rfl rfl (k' := 2) rfl (by rw [hol]; omega) (by rw [hol]; omega))) ?_
        rintro v24 w2 ⟨_, ⟨hiv24, rfl⟩, H2⟩
        have H2 := (Sat.pureI hiv24 H2).fillAt (k := 16) rfl
        obtain ⟨d2, hd2⟩ : ∃ d2, d2 = upd d 11 (v24) := ⟨_, rfl⟩
        have m11 : dn d2 11 = true := by rw [hd2]; rfl
        have m10 : dn d2 10 = true := by rw [hd2]; exact q10
        have m5 : dn d2 5 = true := by rw [hd2]; exact q5
        have m4 : dn d2 4 = true := by rw [hd2]; exact q4
        have m13 : dn d2 13 = false := by rw [hd2]; exact q13
        have m15 : dn d2 15 = false := by rw [hd2]; exact q15
        rw [← hd2]
        change Sat _ _ (sep [Hp.rec_ b19 [.int .i64 x18.mo, .int .i64 x18.ow], pp20x1 d2, pp20x2 d2, pp20x3 d2, Hp.own FV 1 (.slice sa14 sn15 sc16) (List.replicate (money.length * money.length) (⟨none, 0, 0⟩ : Sv)), Hp.rec_ S [pv, .map (some mb)], Hp.own FP 2 pv s.ps, Hp.map Try.prog 47 pairL vB mb ks, Hp.big rowH rs, Hp.own FZ 1 (.slice sa10 sn11 sc12) (codesS (ss0 money) cs), Hp.rec_ b1 [.slice none 0 0, .slice none 0 0, .slice none 0 0, .slice none 0 0, .bool false], pp20x11 d2, pp20x12 d2, pp20x13 d2, pp20x14 d2, pp20x15 d2, pp20x16 d2])
        have u1 := congrFun pp20x1e d2
        simp only [m5, cond_true, cond_false] at u1
        have u2 := congrFun pp20x2e d2
        simp only [m11, cond_true, cond_false] at u2
        have u3 := congrFun pp20x3e d2
        simp only [m13, m15, cond_true, cond_false] at u3
        have u11 := congrFun pp20x11e d2
        simp only [m4, m5, cond_true, cond_false] at u11
        have u12 := congrFun pp20x12e d2
        simp only [m10, m11, cond_true, cond_false] at u12
        have u13 : pp20x13 d2 = pp20x13 d := by rw [hd2, pp20x13e]; rfl
        have u14 : pp20x14 d2 = pp20x14 d := by rw [hd2, pp20x14e]; rfl
        have u15 : pp20x15 d2 = pp20x15 d := by rw [hd2, pp20x15e]; rfl
        have u16 := congrFun pp20x16e d2
        simp only [m11, cond_true, cond_false] at u16
        rw [u1, u2, u3, u11, u12, u13, u14, u15, u16]
        subst hd2
        exact H2
      · intro d hc hdi hpre a w hf H
        change Sat _ _ (sep [Hp.rec_ b19 [.int .i64 x18.mo, .int .i64 x18.ow], pp20x1 d, pp20x2 d, pp20x3 d, Hp.own FV 1 (.slice sa14 sn15 sc16) (List.replicate (money.length * money.length) (⟨none, 0, 0⟩ : Sv)), Hp.rec_ S [pv, .map (some mb)], Hp.own FP 2 pv s.ps, Hp.map Try.prog 47 pairL vB mb ks, Hp.big rowH rs, Hp.own FZ 1 (.slice sa10 sn11 sc12) (codesS (ss0 money) cs), Hp.rec_ b1 [.slice none 0 0, .slice none 0 0, .slice none 0 0, .slice none 0 0, .bool false], pp20x11 d, pp20x12 d, pp20x13 d, pp20x14 d, pp20x15 d, pp20x16 d]) at H
        have q5 : dn d 5 = true := hpre 5 (by kernel_rfl)
        have q11 : dn d 11 = true := hpre 11 (by kernel_rfl)
        have q4 : dn d 4 = true := hpre 4 (by kernel_rfl)
        have q5 : dn d 5 = true := hpre 5 (by kernel_rfl)
        have q10 : dn d 10 = true := hc.pre 11 10 rfl (by kernel_rfl) q11
        have q13 := hdi
        have q15 : dn d 15 = false := hc.not 15 13 rfl (by kernel_rfl) q13
        have e5 : IsS (dv d 5) := H.factAt (k := 14) rfl (by rw [pp20x14e]; simp only [q5, cond_true])
        have e11 : IsS (dv d 11) := H.factAt (k := 16) rfl (by rw [pp20x16e]; simp only [q11, cond_true])
        have e4 : dv d 4 = .slice (some ⟨sB (dv d 4), 0, none⟩) 1 1 := H.factAt (k := 13) rfl (by rw [pp20x13e]; simp only [q4, cond_true])
        have e10 : dv d 10 = .slice (some ⟨sB (dv d 10), 0, none⟩) 1 1 := H.factAt (k := 15) rfl (by rw [pp20x15e]; simp only [q10, cond_true])
        have n1 : pp20x1 d = Hp.own FI 1 (dv d 5) (((s.ps.take k).map Pr.mo) ++ [x18.mo]) := by rw [pp20x1e]; simp only [q5, cond_true, cond_false]
        have n2 : pp20x2 d = Hp.own FI 1 (dv d 11) (((s.ps.take k).map Pr.ow) ++ [x18.ow]) := by rw [pp20x2e]; simp only [q11, cond_true, cond_false]
        have n3 : pp20x3 d = Hp.rec_ b3 [.slice sa10 sn11 sc12, wv, uv, .slice sa14 sn15 sc16, .bool dz] := by rw [pp20x3e]; simp only [q13, q15, cond_true, cond_false]
        have n11 : pp20x11 d = 1 := by rw [pp20x11e]; simp only [q4, q5, cond_true, cond_false]
        have n12 : pp20x12 d = 1 := by rw [pp20x12e]; simp only [q10, q11, cond_true, cond_false]
        rw [n1, n2, n3, n11, n12] at H
        have s5 := hf.add hf.slots 5 rfl (by kernel_rfl) rfl q5 (v := (dv d 5)) rfl
        refine EffAt.mono (Eff.at_ s5 H (eff_store rfl Try.ty22 rfl rfl (us := [(dv d 5)]) e5.cellsL rfl e5.all (k := 3) rfl (rfl) (vs' := [.slice sa10 sn11 sc12, (dv d 5), uv, .slice sa14 sn15 sc16, .bool dz]) (rfl) (l' := [Hp.rec_ b19 [.int .i64 x18.mo, .int .i64 x18.ow], Hp.own FI 1 (dv d 5) (((s.ps.take k).map Pr.mo) ++ [x18.mo]), Hp.own FI 1 (dv d 11) (((s.ps.take k).map Pr.ow) ++ [x18.ow]), Hp.rec_ b3 [.slice sa10 sn11 sc12, (dv d 5), uv, .slice sa14 sn15 sc16, .bool dz], Hp.own FV 1 (.slice sa14 sn15 sc16) (List.replicate (money.length * money.length) (⟨none, 0, 0⟩ : Sv)), Hp.rec_ S [pv, .map (some mb)], Hp.own FP 2 pv s.ps, Hp.map Try.prog 47 pairL vB mb ks, Hp.big rowH rs, Hp.own FZ 1 (.slice sa10 sn11 sc12) (codesS (ss0 money) cs), Hp.rec_ b1 [.slice none 0 0, .slice none 0 0, .slice none 0 0, .slice none 0 0, .bool false], 1, 1, pp20x13 d, pp20x14 d, pp20x15 d, pp20x16 d]) rfl)) ?_
        rintro v w2 ⟨_, rfl, H2⟩
        obtain ⟨d2, hd2⟩ : ∃ d2, d2 = upd d 13 v := ⟨_, rfl⟩
        have m13 : dn d2 13 = true := by rw [hd2]; rfl
        have m5 : dn d2 5 = true := by rw [hd2]; exact q5
        have m11 : dn d2 11 = true := by rw [hd2]; exact q11
        have m4 : dn d2 4 = true := by rw [hd2]; exact q4
        have m10 : dn d2 10 = true := by rw [hd2]; exact q10
        have m15 : dn d2 15 = false := by rw [hd2]; exact q15
        rw [← hd2]
        change Sat _ _ (sep [Hp.rec_ b19 [.int .i64 x18.mo, .int .i64 x18.ow], pp20x1 d2, pp20x2 d2, pp20x3 d2, Hp.own FV 1 (.slice sa14 sn15 sc16) (List.replicate (money.length * money.length) (⟨none, 0, 0⟩ : Sv)), Hp.rec_ S [pv, .map (some mb)], Hp.own FP 2 pv s.ps, Hp.map Try.prog 47 pairL vB mb ks, Hp.big rowH rs, Hp.own FZ 1 (.slice sa10 sn11 sc12) (codesS (ss0 money) cs), Hp.rec_ b1 [.slice none 0 0, .slice none 0 0, .slice none 0 0, .slice none 0 0, .bool false], pp20x11 d2, pp20x12 d2, pp20x13 d2, pp20x14 d2, pp20x15 d2, pp20x16 d2])
        have u1 := congrFun pp20x1e d2
        simp only [m5, cond_true, cond_false] at u1
        have u2 := congrFun pp20x2e d2
        simp only [m11, cond_true, cond_false] at u2
        have u3 := congrFun pp20x3e d2
        simp only [m13, m15, cond_true, cond_false] at u3
        have u11 := congrFun pp20x11e d2
        simp only [m4, m5, cond_true, cond_false] at u11
        have u12 := congrFun pp20x12e d2
        simp only [m10, m11, cond_true, cond_false] at u12
        have u13 : pp20x13 d2 = pp20x13 d := by rw [hd2, pp20x13e]; rfl
        have u14 : pp20x14 d2 = pp20x14 d := by rw [hd2, pp20x14e]; rfl
        have u15 : pp20x15 d2 = pp20x15 d := by rw [hd2, pp20x15e]; rfl
        have u16 : pp20x16 d2 = pp20x16 d := by rw [hd2, pp20x16e]; rfl
        rw [u1, u2, u3, u11, u12, u13, u14, u15, u16]
        subst hd2
        exact H2
      · intro d hc hdi hpre a w hf H
        change Sat _ _ (sep [Hp.rec_ b19 [.int .i64 x18.mo, .int .i64 x18.ow], pp20x1 d, pp20x2 d, pp20x3 d, Hp.own FV 1 (.slice sa14 sn15 sc16) (List.replicate (money.length * money.length) (⟨none, 0, 0⟩ : Sv)), Hp.rec_ S [pv, .map (some mb)], Hp.own FP 2 pv s.ps, Hp.map Try.prog 47 pairL vB mb ks, Hp.big rowH rs, Hp.own FZ 1 (.slice sa10 sn11 sc12) (codesS (ss0 money) cs), Hp.rec_ b1 [.slice none 0 0, .slice none 0 0, .slice none 0 0, .slice none 0 0, .bool false], pp20x11 d, pp20x12 d, pp20x13 d, pp20x14 d, pp20x15 d, pp20x16 d]) at H
        have q11 : dn d 11 = true := hpre 11 (by kernel_rfl)
        have q13 : dn d 13 = true := hpre 13 (by kernel_rfl)
        have q4 : dn d 4 = true := hpre 4 (by kernel_rfl)
        have q5 : dn d 5 = true := hpre 5 (by kernel_rfl)
        have q10 : dn d 10 = true := hpre 10 (by kernel_rfl)
        have q11 : dn d 11 = true := hpre 11 (by kernel_rfl)
        have q13 : dn d 13 = true := hpre 13 (by kernel_rfl)
        have q15 := hdi
        have e11 : IsS (dv d 11) := H.factAt (k := 16) rfl (by rw [pp20x16e]; simp only [q11, cond_true])
        have e4 : dv d 4 = .slice (some ⟨sB (dv d 4), 0, none⟩) 1 1 := H.factAt (k := 13) rfl (by rw [pp20x13e]; simp only [q4, cond_true])
        have e5 : IsS (dv d 5) := H.factAt (k := 14) rfl (by rw [pp20x14e]; simp only [q5, cond_true])
        have e10 : dv d 10 = .slice (some ⟨sB (dv d 10), 0, none⟩) 1 1 := H.factAt (k := 15) rfl (by rw [pp20x15e]; simp only [q10, cond_true])
        have n1 : pp20x1 d = Hp.own FI 1 (dv d 5) (((s.ps.take k).map Pr.mo) ++ [x18.mo]) := by rw [pp20x1e]; simp only [q5, cond_true, cond_false]
        have n2 : pp20x2 d = Hp.own FI 1 (dv d 11) (((s.ps.take k).map Pr.ow) ++ [x18.ow]) := by rw [pp20x2e]; simp only [q11, cond_true, cond_false]
        have n3 : pp20x3 d = Hp.rec_ b3 [.slice sa10 sn11 sc12, (dv d 5), uv, .slice sa14 sn15 sc16, .bool dz] := by rw [pp20x3e]; simp only [q13, q15, cond_true, cond_false]
        have n11 : pp20x11 d = 1 := by rw [pp20x11e]; simp only [q4, q5, cond_true, cond_false]
        have n12 : pp20x12 d = 1 := by rw [pp20x12e]; simp only [q10, q11, cond_true, cond_false]
        rw [n1, n2, n3, n11, n12] at H
        have s11 := hf.add hf.slots 11 rfl (by kernel_rfl) rfl q11 (v := (dv d 11)) rfl
        refine EffAt.mono (Eff.at_ s11 H (eff_store rfl Try.ty22 rfl rfl (us := [(dv d 11)]) e11.cellsL rfl e11.all (k := 3) rfl (rfl) (vs' := [.slice sa10 sn11 sc12, (dv d 5), (dv d 11), .slice sa14 sn15 sc16, .bool dz]) (rfl) (l' := [Hp.rec_ b19 [.int .i64 x18.mo, .int .i64 x18.ow], Hp.own FI 1 (dv d 5) (((s.ps.take k).map Pr.mo) ++ [x18.mo]), Hp.own FI 1 (dv d 11) (((s.ps.take k).map Pr.ow) ++ [x18.ow]), Hp.rec_ b3 [.slice sa10 sn11 sc12, (dv d 5), (dv d 11), .slice sa14 sn15 sc16, .bool dz], Hp.own FV 1 (.slice sa14 sn15 sc16) (List.replicate (money.length * money.length) (⟨none, 0, 0⟩ : Sv)), Hp.rec_ S [pv, .map (some mb)], Hp.own FP 2 pv s.ps, Hp.map Try.prog 47 pairL vB mb ks, Hp.big rowH rs, Hp.own FZ 1 (.slice sa10 sn11 sc12) (codesS (ss0 money) cs), Hp.rec_ b1 [.slice none 0 0, .slice none 0 0, .slice none 0 0, .slice none 0 0, .bool false], 1, 1, pp20x13 d, pp20x14 d, pp20x15 d, pp20x16 d]) rfl)) ?_
        rintro v w2 ⟨_, rfl, H2⟩
        obtain ⟨d2, hd2⟩ : ∃ d2, d2 = upd d 15 v := ⟨_, rfl⟩
        have m15 : dn d2 15 = true := by rw [hd2]; rfl
        have m11 : dn d2 11 = true := by rw [hd2]; exact q11
        have m13 : dn d2 13 = true := by rw [hd2]; exact q13
        have m4 : dn d2 4 = true := by rw [hd2]; exact q4
        have m5 : dn d2 5 = true := by rw [hd2]; exact q5
        have m10 : dn d2 10 = true := by rw [hd2]; exact q10
        rw [← hd2]
        change Sat _ _ (sep [Hp.rec_ b19 [.int .i64 x18.mo, .int .i64 x18.ow], pp20x1 d2, pp20x2 d2, pp20x3 d2, Hp.own FV 1 (.slice sa14 sn15 sc16) (List.replicate (money.length * money.length) (⟨none, 0, 0⟩ : Sv)), Hp.rec_ S [pv, .map (some mb)], Hp.own FP 2 pv s.ps, Hp.map Try.prog 47 pairL vB mb ks, Hp.big rowH rs, Hp.own FZ 1 (.slice sa10 sn11 sc12) (codesS (ss0 money) cs), Hp.rec_ b1 [.slice none 0 0, .slice none 0 0, .slice none 0 0, .slice none 0 0, .bool false], pp20x11 d2, pp20x12 d2, pp20x13 d2, pp20x14 d2, pp20x15 d2, pp20x16 d2])
        have u1 := congrFun pp20x1e d2
        simp only [m5, cond_true, cond_false] at u1
        have u2 := congrFun pp20x2e d2
        simp only [m11, cond_true, cond_false] at u2
        have u3 := congrFun pp20x3e d2
        simp only [m13, m15, cond_true, cond_false] at u3
        have u11 := congrFun pp20x11e d2
        simp only [m4, m5, cond_true, cond_false] at u11
        have u12 := congrFun pp20x12e d2
        simp only [m10, m11, cond_true, cond_false] at u12
        have u13 : pp20x13 d2 = pp20x13 d := by rw [hd2, pp20x13e]; rfl
        have u14 : pp20x14 d2 = pp20x14 d := by rw [hd2, pp20x14e]; rfl
        have u15 : pp20x15 d2 = pp20x15 d := by rw [hd2, pp20x15e]; rfl
        have u16 : pp20x16 d2 = pp20x16 d := by rw [hd2, pp20x16e]; rfl
        rw [u1, u2, u3, u11, u12, u13, u14, u15, u16]
        subst hd2
        exact H2
      · intro d hc hall a hf w H
        change Sat _ _ (sep [Hp.rec_ b19 [.int .i64 x18.mo, .int .i64 x18.ow], pp20x1 d, pp20x2 d, pp20x3 d, Hp.own FV 1 (.slice sa14 sn15 sc16) (List.replicate (money.length * money.length) (⟨none, 0, 0⟩ : Sv)), Hp.rec_ S [pv, .map (some mb)], Hp.own FP 2 pv s.ps, Hp.map Try.prog 47 pairL vB mb ks, Hp.big rowH rs, Hp.own FZ 1 (.slice sa10 sn11 sc12) (codesS (ss0 money) cs), Hp.rec_ b1 [.slice none 0 0, .slice none 0 0, .slice none 0 0, .slice none 0 0, .bool false], pp20x11 d, pp20x12 d, pp20x13 d, pp20x14 d, pp20x15 d, pp20x16 d]) at H
        have q4 : dn d 4 = true := hall 4 rfl
        have q5 : dn d 5 = true := hall 5 rfl
        have q10 : dn d 10 = true := hall 10 rfl
        have q11 : dn d 11 = true := hall 11 rfl
        have q13 : dn d 13 = true := hall 13 rfl
        have q15 : dn d 15 = true := hall 15 rfl
        have e4 : dv d 4 = .slice (some ⟨sB (dv d 4), 0, none⟩) 1 1 := H.factAt (k := 13) rfl (by rw [pp20x13e]; simp only [q4, cond_true])
        have e5 : IsS (dv d 5) := H.factAt (k := 14) rfl (by rw [pp20x14e]; simp only [q5, cond_true])
        have e10 : dv d 10 = .slice (some ⟨sB (dv d 10), 0, none⟩) 1 1 := H.factAt (k := 15) rfl (by rw [pp20x15e]; simp only [q10, cond_true])
        have e11 : IsS (dv d 11) := H.factAt (k := 16) rfl (by rw [pp20x16e]; simp only [q11, cond_true])
        have n1 : pp20x1 d = Hp.own FI 1 (dv d 5) (((s.ps.take k).map Pr.mo) ++ [x18.mo]) := by rw [pp20x1e]; simp only [q5, cond_true, cond_false]
        have n2 : pp20x2 d = Hp.own FI 1 (dv d 11) (((s.ps.take k).map Pr.ow) ++ [x18.ow]) := by rw [pp20x2e]; simp only [q11, cond_true, cond_false]
        have n3 : pp20x3 d = Hp.rec_ b3 [.slice sa10 sn11 sc12, (dv d 5), (dv d 11), .slice sa14 sn15 sc16, .bool dz] := by rw [pp20x3e]; simp only [q13, q15, cond_true, cond_false]
        have n11 : pp20x11 d = 1 := by rw [pp20x11e]; simp only [q4, q5, cond_true, cond_false]
        have n12 : pp20x12 d = 1 := by rw [pp20x12e]; simp only [q10, q11, cond_true, cond_false]
        have n13 : pp20x13 d = Hp.pure (dv d 4 = .slice (some ⟨sB (dv d 4), 0, none⟩) 1 1) := by rw [pp20x13e]; simp only [q4, cond_true]
        have n14 : pp20x14 d = Hp.pure (IsS (dv d 5)) := by rw [pp20x14e]; simp only [q5, cond_true]
        have n15 : pp20x15 d = Hp.pure (dv d 10 = .slice (some ⟨sB (dv d 10), 0, none⟩) 1 1) := by rw [pp20x15e]; simp only [q10, cond_true]
        have n16 : pp20x16 d = Hp.pure (IsS (dv d 11)) := by rw [pp20x16e]; simp only [q11, cond_true]
        rw [n1, n2, n3, n11, n12, n13, n14, n15, n16] at H
        clear n1 n2 n3 n11 n12 n13 n14 n15 n16
        obtain ⟨z25, hz25⟩ : ∃ b, b = sB (dv d 4) := ⟨_, rfl⟩
        rw [← hz25] at e4  H
        have s4 := hf.add hf.slots 4 rfl rfl rfl q4 (v := .slice (some ⟨z25, 0, none⟩) 1 1) e4
        obtain ⟨z26, hz26⟩ : ∃ b, b = dv d 5 := ⟨_, rfl⟩
        rw [← hz26] at e5  H
        have s5 := hf.add s4 5 rfl rfl rfl q5 (v := z26) hz26.symm
        obtain ⟨z27, hz27⟩ : ∃ b, b = sB (dv d 10) := ⟨_, rfl⟩
        rw [← hz27] at e10  H
        have s10 := hf.add s5 10 rfl rfl rfl q10 (v := .slice (some ⟨z27, 0, none⟩) 1 1) e10
        obtain ⟨z28, hz28⟩ : ∃ b, b = dv d 11 := ⟨_, rfl⟩
        rw [← hz28] at e11  H
        have s11 := hf.add s10 11 rfl rfl rfl q11 (v := z28) hz28.symm
        refine Gx.use s11 H ?_
        refine Gx.drop 16 rfl ?_
        refine Gx.drop 15 rfl ?_
        refine Gx.drop 14 rfl ?_
        refine Gx.drop 13 rfl ?_
        refine Gx.drop 12 rfl ?_
        refine Gx.drop 11 rfl ?_
        refine Gx.norm (l' := [Hp.rec_ b19 [.int .i64 x18.mo, .int .i64 x18.ow], Hp.own FI 1 z26 (((s.ps.take k).map Pr.mo) ++ [x18.mo]), Hp.own FI 1 z28 (((s.ps.take k).map Pr.ow) ++ [x18.ow]), Hp.rec_ b3 [.slice sa10 sn11 sc12, z26, z28, .slice sa14 sn15 sc16, .bool dz], Hp.own FV 1 (.slice sa14 sn15 sc16) (List.replicate (money.length * money.length) (⟨none, 0, 0⟩ : Sv)), Hp.rec_ S [pv, .map (some mb)], Hp.own FP 2 pv s.ps, Hp.map Try.prog 47 pairL vB mb ks, Hp.big rowH rs, Hp.own FZ 1 (.slice sa10 sn11 sc12) (codesS (ss0 money) cs), Hp.rec_ b1 [.slice none 0 0, .slice none 0 0, .slice none 0 0, .slice none 0 0, .bool false]]) rfl ?_
        refine Gx.thenN ?_
        refine Gx.region ?_
        refine Gx.val rfl rfl rfl (Val.cast (val_fieldAddr rfl Try.underlying27 rfl Try.ty4 rfl rfl) (v' := ptr b3 4) rfl) ?_
        refine Gx.val rfl rfl rfl (val_load rfl Try.ty4 rfl rfl (cell_rec (k := 3) rfl rfl)) ?_
        refine Gx.val rfl rfl rfl (val_move rfl rfl) ?_
        refine Gx.casesB (t := 80) rfl (fun h29 => ?_) (fun h29 => ?_)
        · refine Gx.valg rfl rfl rfl rfl rfl (Val.cast (val_fieldAddr rfl Try.underlying46 rfl Try.ty3 rfl rfl) (v' := ptr b19 1) rfl) ?_
          refine Gx.valg rfl rfl rfl rfl rfl (val_load rfl Try.ty3 rfl rfl (cell_rec (k := 0) rfl rfl)) ?_
          refine Gx.valg rfl rfl rfl rfl rfl (val_neq rfl rfl rfl) ?_
          refine Gx.val rfl rfl rfl (val_pickT rfl rfl rfl) ?_
          refine Gx.val rfl rfl rfl (Val.cast (val_fieldAddr rfl Try.underlying27 rfl Try.ty4 rfl rfl) (v' := ptr b3 4) rfl) ?_
          refine Gx.eff0 rfl rfl (eff_store rfl Try.ty4 rfl rfl (us := [.bool (decide (x18.ow ≠ (-1)))]) rfl rfl rfl (k := 3) rfl (rfl) (vs' := [.slice sa10 sn11 sc12, z26, z28, .slice sa14 sn15 sc16, .bool (decide (x18.ow ≠ (-1)))]) (rfl) (l' := [Hp.rec_ b19 [.int .i64 x18.mo, .int .i64 x18.ow], Hp.own FI 1 z26 (((s.ps.take k).map Pr.mo) ++ [x18.mo]), Hp.own FI 1 z28 (((s.ps.take k).map Pr.ow) ++ [x18.ow]), Hp.rec_ b3 [.slice sa10 sn11 sc12, z26, z28, .slice sa14 sn15 sc16, .bool (decide (x18.ow ≠ (-1)))], Hp.own FV 1 (.slice sa14 sn15 sc16) (List.replicate (money.length * money.length) (⟨none, 0, 0⟩ : Sv)), Hp.rec_ S [pv, .map (some mb)], Hp.own FP 2 pv s.ps, Hp.map Try.prog 47 pairL vB mb ks, Hp.big rowH rs, Hp.own FZ 1 (.slice sa10 sn11 sc12) (codesS (ss0 money) cs), Hp.rec_ b1 [.slice none 0 0, .slice none 0 0, .slice none 0 0, .slice none 0 0, .bool false]]) rfl) ?_
          rintro _ _ rfl
          refine Gx.done ?_
          refine Gx.blkN ?_
          refine Gx.thenN ?_
          refine Gx.region ?_
          refine Gx.val rfl rfl rfl (val_add rfl rfl rfl (r := ((k + 1 : Nat) : Int)) (w64 (by omega) (by omega))) ?_
          refine Gx.val rfl rfl rfl (val_move rfl rfl) ?_
          refine Gx.done ?_
          refine Gx.thenN ?_
          refine Gx.drop 0 rfl ?_
          refine Gx.norm (l' := [Hp.own FI 1 z26 ((s.ps.take (k + 1)).map Pr.mo), Hp.own FI 1 z28 ((s.ps.take (k + 1)).map Pr.ow), Hp.rec_ b3 [.slice sa10 sn11 sc12, z26, z28, .slice sa14 sn15 sc16, .bool (decide (x18.ow ≠ (-1)))], Hp.own FV 1 (.slice sa14 sn15 sc16) (List.replicate (money.length * money.length) (⟨none, 0, 0⟩ : Sv)), Hp.rec_ S [pv, .map (some mb)], Hp.own FP 2 pv s.ps, Hp.map Try.prog 47 pairL vB mb ks, Hp.big rowH rs, Hp.own FZ 1 (.slice sa10 sn11 sc12) (codesS (ss0 money) cs), Hp.rec_ b1 [.slice none 0 0, .slice none 0 0, .slice none 0 0, .slice none 0 0, .bool false]]) (by rw [take_of hx18, List.map_append, List.map_append] <;> rfl) ?_
          exact Gx.round (k + 1, z26, z28, (decide (x18.ow ≠ (-1)))) ⟨by first | omega | (dsimp only; omega), e5, e11, by rw [take_of hx18]; exact all_snoc hdn _ (by first | exact ⟨fun h => ⟨by assumption, of_decide_eq_true h⟩, fun h => decide_eq_true h.2⟩ | exact ⟨fun h => (by cases h), fun h => absurd h.1 (by rw [show dz = false from by assumption]; decide)⟩)⟩ (by first | omega | (dsimp only; omega)) ((.cons rfl (.cons rfl (.cons rfl (.cons rfl (.cons rfl (.cons rfl (.cons rfl .nil)))))))) rfl
        · refine Gx.skipg rfl rfl rfl rfl rfl rfl ?_
          refine Gx.skipg rfl rfl rfl rfl rfl rfl ?_
          refine Gx.skipg rfl rfl rfl rfl rfl rfl ?_
          refine Gx.val rfl rfl rfl (val_pickF rfl rfl rfl) ?_
          refine Gx.val rfl rfl rfl (Val.cast (val_fieldAddr rfl Try.underlying27 rfl Try.ty4 rfl rfl) (v' := ptr b3 4) rfl) ?_
          refine Gx.eff0 rfl rfl (eff_store rfl Try.ty4 rfl rfl (us := [.bool false]) rfl rfl rfl (k := 3) rfl (rfl) (vs' := [.slice sa10 sn11 sc12, z26, z28, .slice sa14 sn15 sc16, .bool false]) (rfl) (l' := [Hp.rec_ b19 [.int .i64 x18.mo, .int .i64 x18.ow], Hp.own FI 1 z26 (((s.ps.take k).map Pr.mo) ++ [x18.mo]), Hp.own FI 1 z28 (((s.ps.take k).map Pr.ow) ++ [x18.ow]), Hp.rec_ b3 [.slice sa10 sn11 sc12, z26, z28, .slice sa14 sn15 sc16, .bool false], Hp.own FV 1 (.slice sa14 sn15 sc16) (List.replicate (money.length * money.length) (⟨none, 0, 0⟩ : Sv)), Hp.rec_ S [pv, .map (some mb)], Hp.own FP 2 pv s.ps, Hp.map Try.prog 47 pairL vB mb ks, Hp.big rowH rs, Hp.own FZ 1 (.slice sa10 sn11 sc12) (codesS (ss0 money) cs), Hp.rec_ b1 [.slice none 0 0, .slice none 0 0, .slice none 0 0, .slice none 0 0, .bool false]]) rfl) ?_
          rintro _ _ rfl
          refine Gx.done ?_
          refine Gx.blkN ?_
          refine Gx.thenN ?_
          refine Gx.region ?_
          refine Gx.val rfl rfl rfl (val_add rfl rfl rfl (r := ((k + 1 : Nat) : Int)) (w64 (by omega) (by omega))) ?_
          refine Gx.val rfl rfl rfl (val_move rfl rfl) ?_
          refine Gx.done ?_
          refine Gx.thenN ?_
          refine Gx.drop 0 rfl ?_
          refine Gx.norm (l' := [Hp.own FI 1 z26 ((s.ps.take (k + 1)).map Pr.mo), Hp.own FI 1 z28 ((s.ps.take (k + 1)).map Pr.ow), Hp.rec_ b3 [.slice sa10 sn11 sc12, z26, z28, .slice sa14 sn15 sc16, .bool false], Hp.own FV 1 (.slice sa14 sn15 sc16) (List.replicate (money.length * money.length) (⟨none, 0, 0⟩ : Sv)), Hp.rec_ S [pv, .map (some mb)], Hp.own FP 2 pv s.ps, Hp.map Try.prog 47 pairL vB mb ks, Hp.big rowH rs, Hp.own FZ 1 (.slice sa10 sn11 sc12) (codesS (ss0 money) cs), Hp.rec_ b1 [.slice none 0 0, .slice none 0 0, .slice none 0 0, .slice none 0 0, .bool false]]) (by rw [take_of hx18, List.map_append, List.map_append] <;> rfl) ?_
          exact Gx.round (k + 1, z26, z28, false) ⟨by first | omega | (dsimp only; omega), e5, e11, by rw [take_of hx18]; exact all_snoc hdn _ (by first | exact ⟨fun h => ⟨by assumption, of_decide_eq_true h⟩, fun h => decide_eq_true h.2⟩ | exact ⟨fun h => (by cases h), fun h => absurd h.1 (by rw [show dz = false from by assumption]; decide)⟩)⟩ (by first | omega | (dsimp only; omega)) ((.cons rfl (.cons rfl (.cons rfl (.cons rfl (.cons rfl (.cons rfl (.cons rfl .nil)))))))) rfl
    · refine Gx.exit ?_
      refine Gx.thenE ?_
      refine Gx.thenE ?_
      refine Gx.blkE ?_
      refine Gx.thenN ?_
      refine Gx.seq ?_
      refine Gx.seq ?_
      have ek : k = s.ps.length := by omega
      subst ek
      rw [List.take_length] at hdn hml hol
      refine Gx.norm (l' := [Hp.own FI 1 wv (s.ps.map Pr.mo), Hp.own FI 1 uv (s.ps.map Pr.ow), Hp.rec_ b3 [.slice sa10 sn11 sc12, wv, uv, .slice sa14 sn15 sc16, .bool dz], Hp.own FV 1 (.slice sa14 sn15 sc16) (List.replicate (money.length * money.length) (⟨none, 0, 0⟩ : Sv)), Hp.rec_ S [pv, .map (some mb)], Hp.own FP 2 pv s.ps, Hp.map Try.prog 47 pairL vB mb ks, Hp.big rowH rs, Hp.own FZ 1 (.slice sa10 sn11 sc12) (codesS (ss0 money) cs), Hp.rec_ b1 [.slice none 0 0, .slice none 0 0, .slice none 0 0, .slice none 0 0, .bool false]]) (by rw [List.take_length] <;> rfl) ?_
      obtain ⟨sa30, sn31, sc32, rfl⟩ := hiw
      obtain ⟨sa33, sn34, sc35, rfl⟩ := hiu
      have hB := Btw.start (d0 := dz) hok
      obtain ⟨dn0, hdn0⟩ : ∃ b, b = dz := ⟨_, rfl⟩
      rw [← hdn0] at hdn
      have hB : Btw money.length ks ks rs (List.replicate (money.length * money.length) ⟨none, 0, 0⟩) dn0 dz := by rw [hdn0]; exact hB
      refine Gx.region ?_
      refine Gx.val rfl rfl rfl (val_move rfl rfl) ?_
      refine Gx.val rfl rfl rfl (val_nilCheck rfl rfl) ?_
      refine Gx.val rfl rfl rfl (Val.cast (val_fieldAddr rfl Try.underlying44 rfl Try.ty42 rfl rfl) (v' := ptr S 1) rfl) ?_
      refine Gx.val rfl rfl rfl (val_load rfl Try.ty42 rfl rfl (cell_rec (k := 4) rfl rfl)) ?_
      refine Gx.eff rfl rfl rfl (eff_range rfl Try.underlying42 rfl (k := 6) rfl) ?_
      rintro _ _ ⟨r36, rfl, rfl⟩
      refine Gx.norm (l' := [Hp.own FI 1 (.slice sa30 sn31 sc32) (s.ps.map Pr.mo), Hp.own FI 1 (.slice sa33 sn34 sc35) (s.ps.map Pr.ow), Hp.rec_ b3 [.slice sa10 sn11 sc12, .slice sa30 sn31 sc32, .slice sa33 sn34 sc35, .slice sa14 sn15 sc16, .bool dz], Hp.own FV 1 (.slice sa14 sn15 sc16) (List.replicate (money.length * money.length) (⟨none, 0, 0⟩ : Sv)), Hp.rec_ S [pv, .map (some mb)], Hp.own FP 2 pv s.ps, Hp.iter Try.prog 47 pairL vB mb r36 ks ks, Hp.big rowH rs, Hp.own FZ 1 (.slice sa10 sn11 sc12) (codesS (ss0 money) cs), Hp.rec_ b1 [.slice none 0 0, .slice none 0 0, .slice none 0 0, .slice none 0 0, .bool false]]) rfl ?_
      refine Gx.done ?_
      refine Gx.thenN ?_
      refine Gx.block ?_
      refine Gx.loop (ι := Ks × (List Sv) × Bool) (fun ξ => (Btw money.length ks ξ.1 rs ξ.2.1 dn0 ξ.2.2)) (fun ξ => [(4, ptr b1 0), (6, .int .i64 ((money.length : Nat) : Int)), (8, ptr b3 0), (91, ptr r36 0)]) (fun ξ => [Hp.own FI 1 (.slice sa30 sn31 sc32) (s.ps.map Pr.mo), Hp.own FI 1 (.slice sa33 sn34 sc35) (s.ps.map Pr.ow), Hp.rec_ b3 [.slice sa10 sn11 sc12, .slice sa30 sn31 sc32, .slice sa33 sn34 sc35, .slice sa14 sn15 sc16, .bool ξ.2.2], Hp.own FV 1 (.slice sa14 sn15 sc16) ξ.2.1, Hp.rec_ S [pv, .map (some mb)], Hp.own FP 2 pv s.ps, Hp.iter Try.prog 47 pairL vB mb r36 ks ξ.1, Hp.big rowH rs, Hp.own FZ 1 (.slice sa10 sn11 sc12) (codesS (ss0 money) cs), Hp.rec_ b1 [.slice none 0 0, .slice none 0 0, .slice none 0 0, .slice none 0 0, .bool false]]) (fun ξ => ξ.1.length) (ks, List.replicate (money.length * money.length) (⟨none, 0, 0⟩ : Sv), dz) (hB) ((.cons rfl (.cons rfl (.cons rfl (.cons rfl .nil))))) rfl ?_
      rintro ⟨left, vals, dm⟩ hh
      dsimp only at hh
      refine Gx.know (m' := [(4, ptr b1 0), (6, .int .i64 ((money.length : Nat) : Int)), (8, ptr b3 0), (91, ptr r36 0)]) (.cons rfl (.cons rfl (.cons rfl (.cons rfl .nil)))) (Gx.norm (l' := [Hp.own FI 1 (.slice sa30 sn31 sc32) (s.ps.map Pr.mo), Hp.own FI 1 (.slice sa33 sn34 sc35) (s.ps.map Pr.ow), Hp.rec_ b3 [.slice sa10 sn11 sc12, .slice sa30 sn31 sc32, .slice sa33 sn34 sc35, .slice sa14 sn15 sc16, .bool dm], Hp.own FV 1 (.slice sa14 sn15 sc16) vals, Hp.rec_ S [pv, .map (some mb)], Hp.own FP 2 pv s.ps, Hp.iter Try.prog 47 pairL vB mb r36 ks left, Hp.big rowH rs, Hp.own FZ 1 (.slice sa10 sn11 sc12) (codesS (ss0 money) cs), Hp.rec_ b1 [.slice none 0 0, .slice none 0 0, .slice none 0 0, .slice none 0 0, .bool false]]) rfl ?_)
      refine Gx.seq ?_
      refine Gx.region ?_
      refine Gx.eff rfl rfl rfl (eff_next (kf := pairV) rfl Try.kL (fun _ _ => trivial) rfl (k := 6) rfl) ?_
      rintro _ _ (⟨hl37, rfl, rfl⟩ | ⟨ka38, xv39, rs40, hp41, rfl, rfl⟩)
      · refine Gx.norm (l' := [Hp.own FI 1 (.slice sa30 sn31 sc32) (s.ps.map Pr.mo), Hp.own FI 1 (.slice sa33 sn34 sc35) (s.ps.map Pr.ow), Hp.rec_ b3 [.slice sa10 sn11 sc12, .slice sa30 sn31 sc32, .slice sa33 sn34 sc35, .slice sa14 sn15 sc16, .bool dm], Hp.own FV 1 (.slice sa14 sn15 sc16) vals, Hp.rec_ S [pv, .map (some mb)], Hp.own FP 2 pv s.ps, Hp.map Try.prog 47 pairL vB mb ks, Hp.big rowH rs, Hp.own FZ 1 (.slice sa10 sn11 sc12) (codesS (ss0 money) cs), Hp.rec_ b1 [.slice none 0 0, .slice none 0 0, .slice none 0 0, .slice none 0 0, .bool false]]) rfl ?_
        refine Gx.val rfl rfl rfl (val_extract rfl rfl rfl) ?_
        refine Gx.done ?_
        refine Gx.thenN ?_
        refine Gx.seq ?_
        refine Gx.f rfl ?_
        refine Gx.exit ?_
        refine Gx.thenE ?_
        refine Gx.thenE ?_
        refine Gx.blkE ?_
        refine Gx.thenN ?_
        refine Gx.seq ?_
        refine Gx.region ?_
        refine Gx.val rfl rfl rfl (Val.cast (val_loadA rfl Try.ty27 rfl rfl rfl (cells_rec (k := 2) rfl)) (v' := .agg #[.slice sa10 sn11 sc12, .slice sa30 sn31 sc32, .slice sa33 sn34 sc35, .slice sa14 sn15 sc16, .bool dm]) rfl) ?_
        refine Gx.eff0 rfl rfl (eff_store rfl Try.ty27 rfl rfl (us := [.slice sa10 sn11 sc12, .slice sa30 sn31 sc32, .slice sa33 sn34 sc35, .slice sa14 sn15 sc16, .bool dm]) rfl rfl rfl (k := 9) rfl (rfl) (vs' := [.slice sa10 sn11 sc12, .slice sa30 sn31 sc32, .slice sa33 sn34 sc35, .slice sa14 sn15 sc16, .bool dm]) (rfl) (l' := [Hp.own FI 1 (.slice sa30 sn31 sc32) (s.ps.map Pr.mo), Hp.own FI 1 (.slice sa33 sn34 sc35) (s.ps.map Pr.ow), Hp.rec_ b3 [.slice sa10 sn11 sc12, .slice sa30 sn31 sc32, .slice sa33 sn34 sc35, .slice sa14 sn15 sc16, .bool dm], Hp.own FV 1 (.slice sa14 sn15 sc16) vals, Hp.rec_ S [pv, .map (some mb)], Hp.own FP 2 pv s.ps, Hp.map Try.prog 47 pairL vB mb ks, Hp.big rowH rs, Hp.own FZ 1 (.slice sa10 sn11 sc12) (codesS (ss0 money) cs), Hp.rec_ b1 [.slice sa10 sn11 sc12, .slice sa30 sn31 sc32, .slice sa33 sn34 sc35, .slice sa14 sn15 sc16, .bool dm]]) rfl) ?_
        rintro _ _ rfl
        refine Gx.val rfl rfl rfl (val_assign rfl rfl) ?_
        refine Gx.done ?_
        refine Gx.thenN ?_
        refine Gx.ret ?_
        rw [hl37] at hh
        refine Gx.drop 6 rfl ?_
        refine Gx.drop 5 rfl ?_
        refine Gx.drop 4 rfl ?_
        refine Gx.drop 2 rfl ?_
        refine Gx.front 5 rfl ?_
        refine Gx.front 4 rfl ?_
        refine Gx.front 4 rfl ?_
        refine Gx.front 4 rfl ?_
        refine Gx.front 4 rfl ?_
        refine Gx.front 5 rfl ?_
        refine Gx.retC2 Try.results7 Try.ty27 rfl rfl (us := [.slice sa10 sn11 sc12, .slice sa30 sn31 sc32, .slice sa33 sn34 sc35, .slice sa14 sn15 sc16, .bool dm]) rfl (k := 5) rfl rfl ?_
        subst hsd
        exact ⟨(.slice sa10 sn11 sc12), (.slice sa30 sn31 sc32), (.slice sa33 sn34 sc35), (.slice sa14 sn15 sc16), dm, ks, rs, vals, Hp.rec_ b1 [.slice sa10 sn11 sc12, .slice sa30 sn31 sc32, .slice sa33 sn34 sc35, .slice sa14 sn15 sc16, .bool dm], dn0, rfl, rfl, hok, hh, hdn⟩
      · refine Gx.norm (l' := [Hp.own FI 1 (.slice sa30 sn31 sc32) (s.ps.map Pr.mo), Hp.own FI 1 (.slice sa33 sn34 sc35) (s.ps.map Pr.ow), Hp.rec_ b3 [.slice sa10 sn11 sc12, .slice sa30 sn31 sc32, .slice sa33 sn34 sc35, .slice sa14 sn15 sc16, .bool dm], Hp.own FV 1 (.slice sa14 sn15 sc16) vals, Hp.rec_ S [pv, .map (some mb)], Hp.own FP 2 pv s.ps, Hp.iterE Try.prog 47 pairL vB pairV mb r36 ks rs40 ka38 xv39, Hp.big rowH rs, Hp.own FZ 1 (.slice sa10 sn11 sc12) (codesS (ss0 money) cs), Hp.rec_ b1 [.slice none 0 0, .slice none 0 0, .slice none 0 0, .slice none 0 0, .bool false]]) rfl ?_
        refine Gx.val rfl rfl rfl (val_extract rfl rfl rfl) ?_
        refine Gx.done ?_
        refine Gx.thenN ?_
        refine Gx.seq ?_
        refine Gx.t rfl ?_
        refine Gx.skip ?_
        refine Gx.thenN ?_
        refine Gx.block ?_
        refine Gx.seq ?_
        refine Gx.region ?_
        refine Gx.eff rfl rfl rfl (eff_entry rfl rfl (k := 6) rfl) ?_
        rintro _ _ ⟨rfl, rfl⟩
        refine Gx.norm (l' := [Hp.own FI 1 (.slice sa30 sn31 sc32) (s.ps.map Pr.mo), Hp.own FI 1 (.slice sa33 sn34 sc35) (s.ps.map Pr.ow), Hp.rec_ b3 [.slice sa10 sn11 sc12, .slice sa30 sn31 sc32, .slice sa33 sn34 sc35, .slice sa14 sn15 sc16, .bool dm], Hp.own FV 1 (.slice sa14 sn15 sc16) vals, Hp.rec_ S [pv, .map (some mb)], Hp.own FP 2 pv s.ps, Hp.iter Try.prog 47 pairL vB mb r36 ks rs40, Hp.big rowH rs, Hp.own FZ 1 (.slice sa10 sn11 sc12) (codesS (ss0 money) cs), Hp.rec_ b1 [.slice none 0 0, .slice none 0 0, .slice none 0 0, .slice none 0 0, .bool false]]) rfl ?_
        refine Gx.val rfl rfl rfl (val_extract rfl rfl rfl) ?_
        refine Gx.val rfl rfl rfl (val_extract rfl rfl rfl) ?_
        refine Gx.eff rfl rfl rfl (eff_alloc rfl Try.ty47 (vs := [.int .i64 0, .int .i64 0]) rfl) ?_
        rintro _ _ ⟨b42, rfl, rfl⟩
        refine Gx.eff0 rfl rfl (eff_store rfl Try.ty47 rfl rfl (us := [.int .i64 ((ka38.1.val : Nat) : Int), .int .i64 ((ka38.2.val : Nat) : Int)]) rfl rfl rfl (k := 0) rfl (rfl) (vs' := [.int .i64 ((ka38.1.val : Nat) : Int), .int .i64 ((ka38.2.val : Nat) : Int)]) (rfl) (l' := [Hp.rec_ b42 [.int .i64 ((ka38.1.val : Nat) : Int), .int .i64 ((ka38.2.val : Nat) : Int)], Hp.own FI 1 (.slice sa30 sn31 sc32) (s.ps.map Pr.mo), Hp.own FI 1 (.slice sa33 sn34 sc35) (s.ps.map Pr.ow), Hp.rec_ b3 [.slice sa10 sn11 sc12, .slice sa30 sn31 sc32, .slice sa33 sn34 sc35, .slice sa14 sn15 sc16, .bool dm], Hp.own FV 1 (.slice sa14 sn15 sc16) vals, Hp.rec_ S [pv, .map (some mb)], Hp.own FP 2 pv s.ps, Hp.iter Try.prog 47 pairL vB mb r36 ks rs40, Hp.big rowH rs, Hp.own FZ 1 (.slice sa10 sn11 sc12) (codesS (ss0 money) cs), Hp.rec_ b1 [.slice none 0 0, .slice none 0 0, .slice none 0 0, .slice none 0 0, .bool false]]) rfl) ?_
        rintro _ _ rfl
        refine Gx.val rfl rfl rfl (val_assign rfl rfl) ?_
        refine Gx.done ?_
        refine Gx.thenN ?_
        refine Gx.seq ?_
        obtain ⟨kk, r, hkk, hrr, rfl, hka1, hka2, hka3⟩ := hh.at_ hok hp41
        refine Gx.know (m' := [(4, ptr b1 0), (6, .int .i64 ((money.length : Nat) : Int)), (8, ptr b3 0), (91, ptr r36 0), (92, .tuple #[.bool true, .agg #[.int .i64 ((ka38.1.val : Nat) : Int), .int .i64 ((ka38.2.val : Nat) : Int)], ptr r.b 0]), (93, .bool true), (94, .tuple #[.agg #[.int .i64 ((ka38.1.val : Nat) : Int), .int .i64 ((ka38.2.val : Nat) : Int)], ptr r.b 0]), (95, .agg #[.int .i64 ((ka38.1.val : Nat) : Int), .int .i64 ((ka38.2.val : Nat) : Int)]), (96, ptr r.b 0), (13, ptr b42 0), (14, ptr r.b 0)]) (.cons rfl (.cons rfl (.cons rfl (.cons rfl (.cons rfl (.cons rfl (.cons rfl (.cons rfl (.cons rfl (.cons rfl (.cons rfl .nil))))))))))) (Gx.norm (l' := [Hp.rec_ b42 [.int .i64 ((ka38.1.val : Nat) : Int), .int .i64 ((ka38.2.val : Nat) : Int)], Hp.own FI 1 (.slice sa30 sn31 sc32) (s.ps.map Pr.mo), Hp.own FI 1 (.slice sa33 sn34 sc35) (s.ps.map Pr.ow), Hp.rec_ b3 [.slice sa10 sn11 sc12, .slice sa30 sn31 sc32, .slice sa33 sn34 sc35, .slice sa14 sn15 sc16, .bool dm], Hp.own FV 1 (.slice sa14 sn15 sc16) vals, Hp.rec_ S [pv, .map (some mb)], Hp.own FP 2 pv s.ps, Hp.iter Try.prog 47 pairL vB mb r36 ks rs40, Hp.big rowH rs, Hp.own FZ 1 (.slice sa10 sn11 sc12) (codesS (ss0 money) cs), Hp.rec_ b1 [.slice none 0 0, .slice none 0 0, .slice none 0 0, .slice none 0 0, .bool false]]) rfl ?_)
        refine Gx.focus (n := 8) (k := kk) rfl hrr (fun R43 hf44 hg45 => ?_)
        refine Gx.norm (l' := [Hp.rec_ b42 [.int .i64 ((ka38.1.val : Nat) : Int), .int .i64 ((ka38.2.val : Nat) : Int)], Hp.own FI 1 (.slice sa30 sn31 sc32) (s.ps.map Pr.mo), Hp.own FI 1 (.slice sa33 sn34 sc35) (s.ps.map Pr.ow), Hp.rec_ b3 [.slice sa10 sn11 sc12, .slice sa30 sn31 sc32, .slice sa33 sn34 sc35, .slice sa14 sn15 sc16, .bool dm], Hp.own FV 1 (.slice sa14 sn15 sc16) vals, Hp.rec_ S [pv, .map (some mb)], Hp.own FP 2 pv s.ps, Hp.iter Try.prog 47 pairL vB mb r36 ks rs40, rowH r, Hp.own FZ 1 (.slice sa10 sn11 sc12) (codesS (ss0 money) cs), Hp.rec_ b1 [.slice none 0 0, .slice none 0 0, .slice none 0 0, .slice none 0 0, .bool false], R43]) rfl ?_
        refine Gx.cleave 8 (p := Hp.rec_ r.b [r.qv, r.nv, .bool r.w.cl]) (q := Hp.own FI 1 r.qv r.w.q * Hp.own FI 1 r.nv r.w.nt) rfl rfl rfl ?_
        refine Gx.cleave 1 (p := Hp.own FI 1 r.qv r.w.q) (q := Hp.own FI 1 r.nv r.w.nt) rfl rfl rfl ?_
        refine Gx.norm (l' := [Hp.own FI 1 r.qv r.w.q, Hp.own FI 1 r.nv r.w.nt, Hp.rec_ r.b [r.qv, r.nv, .bool r.w.cl], Hp.rec_ b42 [.int .i64 ((ka38.1.val : Nat) : Int), .int .i64 ((ka38.2.val : Nat) : Int)], Hp.own FI 1 (.slice sa30 sn31 sc32) (s.ps.map Pr.mo), Hp.own FI 1 (.slice sa33 sn34 sc35) (s.ps.map Pr.ow), Hp.rec_ b3 [.slice sa10 sn11 sc12, .slice sa30 sn31 sc32, .slice sa33 sn34 sc35, .slice sa14 sn15 sc16, .bool dm], Hp.own FV 1 (.slice sa14 sn15 sc16) vals, Hp.rec_ S [pv, .map (some mb)], Hp.own FP 2 pv s.ps, Hp.iter Try.prog 47 pairL vB mb r36 ks rs40, Hp.own FZ 1 (.slice sa10 sn11 sc12) (codesS (ss0 money) cs), Hp.rec_ b1 [.slice none 0 0, .slice none 0 0, .slice none 0 0, .slice none 0 0, .bool false], R43]) rfl ?_
        refine Gx.fact (p := IsS r.nv) (fun w H => by obtain ⟨a, c, e⟩ := own_formM (H.at_ (k := 1) rfl); exact ⟨a, _, c, e⟩) (fun hnvS => ?_)
        obtain ⟨va, vm, vc, hnv⟩ := hnvS
        refine Gx.norm (l' := [Hp.own FI 1 r.qv r.w.q, Hp.own FI 1 (.slice va vm vc) r.w.nt, Hp.rec_ r.b [r.qv, .slice va vm vc, .bool r.w.cl], Hp.rec_ b42 [.int .i64 ((ka38.1.val : Nat) : Int), .int .i64 ((ka38.2.val : Nat) : Int)], Hp.own FI 1 (.slice sa30 sn31 sc32) (s.ps.map Pr.mo), Hp.own FI 1 (.slice sa33 sn34 sc35) (s.ps.map Pr.ow), Hp.rec_ b3 [.slice sa10 sn11 sc12, .slice sa30 sn31 sc32, .slice sa33 sn34 sc35, .slice sa14 sn15 sc16, .bool dm], Hp.own FV 1 (.slice sa14 sn15 sc16) vals, Hp.rec_ S [pv, .map (some mb)], Hp.own FP 2 pv s.ps, Hp.iter Try.prog 47 pairL vB mb r36 ks rs40, Hp.own FZ 1 (.slice sa10 sn11 sc12) (codesS (ss0 money) cs), Hp.rec_ b1 [.slice none 0 0, .slice none 0 0, .slice none 0 0, .slice none 0 0, .bool false], R43]) (by rw [hnv] <;> rfl) ?_
        have hvl := hh.len
        have hb1 : ka38.1.val * money.length + money.length ≤ money.length * money.length := by
          have := Nat.mul_le_mul_right money.length (show ka38.1.val + 1 ≤ money.length by omega)
          rwa [Nat.add_mul, Nat.one_mul] at this
        refine Gx.regionO (fun j => false) 14 [0, 1, 2, 3, 4, 5, 6, 7, 8, 9, 10, 11, 12, 13] (fun _ => [Hp.own FI 1 r.qv r.w.q, Hp.own FI 1 (.slice va vm vc) r.w.nt, Hp.rec_ r.b [r.qv, .slice va vm vc, .bool r.w.cl], Hp.rec_ b42 [.int .i64 ((ka38.1.val : Nat) : Int), .int .i64 ((ka38.2.val : Nat) : Int)], Hp.own FI 1 (.slice sa30 sn31 sc32) (s.ps.map Pr.mo), Hp.own FI 1 (.slice sa33 sn34 sc35) (s.ps.map Pr.ow), Hp.rec_ b3 [.slice sa10 sn11 sc12, .slice sa30 sn31 sc32, .slice sa33 sn34 sc35, .slice sa14 sn15 sc16, .bool dm], Hp.own FV 1 (.slice sa14 sn15 sc16) vals, Hp.rec_ S [pv, .map (some mb)], Hp.own FP 2 pv s.ps, Hp.iter Try.prog 47 pairL vB mb r36 ks rs40, Hp.own FZ 1 (.slice sa10 sn11 sc12) (codesS (ss0 money) cs), Hp.rec_ b1 [.slice none 0 0, .slice none 0 0, .slice none 0 0, .slice none 0 0, .bool false], R43]) Try.mixed (by kernel_rfl) rfl ?_
        refine Gw.val rfl rfl rfl rfl rfl (fun us => Val.cast (val_fieldAddr rfl Try.underlying27 rfl Try.ty25 rfl rfl) (v' := ptr b3 3) rfl) ?_
        refine Gw.val0 rfl rfl rfl (by kernel_rfl) rfl rfl (val_load rfl Try.ty25 rfl rfl (cell_rec (k := 6) rfl rfl)) ?_
        refine Gw.val rfl rfl rfl rfl rfl (fun us => Val.cast (val_ixaA rfl Try.underlying47 Try.ty3 rfl rfl (j := 0) (rfl) (by omega)) (v' := ptr b42 0) rfl) ?_
        refine Gw.val0 rfl rfl rfl (by kernel_rfl) rfl rfl (val_load rfl Try.ty3 rfl rfl (cell_rec (k := 3) rfl rfl)) ?_
        refine Gw.val rfl rfl rfl rfl rfl (fun us => val_move rfl rfl) ?_
        refine Gw.val rfl rfl rfl rfl rfl (fun us => val_mul rfl rfl rfl (r := ((ka38.1.val * money.length : Nat) : Int)) (w64 (by omega) (by omega))) ?_
        refine Gw.val rfl rfl rfl rfl rfl (fun us => Val.cast (val_ixaA rfl Try.underlying47 Try.ty3 rfl rfl (j := 1) (rfl) (by omega)) (v' := ptr b42 1) rfl) ?_
        refine Gw.val0 rfl rfl rfl (by kernel_rfl) rfl rfl (val_load rfl Try.ty3 rfl rfl (cell_rec (k := 3) rfl rfl)) ?_
        refine Gw.val rfl rfl rfl rfl rfl (fun us => val_add rfl rfl rfl (r := ((ka38.1.val * money.length + ka38.2.val : Nat) : Int)) (w64 (by omega) (by omega))) ?_
        refine Gw.val rfl rfl rfl rfl rfl (fun us => val_move rfl rfl) ?_
        refine Gw.val rfl rfl rfl rfl rfl (fun us => val_nilCheck rfl rfl) ?_
        refine Gw.val rfl rfl rfl rfl rfl (fun us => Val.cast (val_fieldAddr rfl Try.underlying50 rfl Try.ty22 rfl rfl) (v' := ptr r.b 1) rfl) ?_
        refine Gw.val0 rfl rfl rfl (by kernel_rfl) rfl rfl (val_load rfl Try.ty22 rfl rfl (cell_rec (k := 2) rfl rfl)) ?_
        obtain ⟨x46, hx46⟩ := get_of_lt (xs := vals) (k := ka38.1.val * money.length + ka38.2.val) (by first | omega | (simp; omega))
        refine Gw.val0 rfl rfl rfl (by kernel_rfl) rfl rfl (val_ixa rfl Try.underlying25 Try.ty22 rfl rfl (j := ka38.1.val * money.length + ka38.2.val) (rfl) (reach_own (k := 7) rfl hx46)) ?_
        refine Gw.done ?_
        refine Gx.norm (l' := [Hp.own FI 1 r.qv r.w.q, Hp.own FI 1 (.slice va vm vc) r.w.nt, Hp.rec_ r.b [r.qv, .slice va vm vc, .bool r.w.cl], Hp.rec_ b42 [.int .i64 ((ka38.1.val : Nat) : Int), .int .i64 ((ka38.2.val : Nat) : Int)], Hp.own FI 1 (.slice sa30 sn31 sc32) (s.ps.map Pr.mo), Hp.own FI 1 (.slice sa33 sn34 sc35) (s.ps.map Pr.ow), Hp.rec_ b3 [.slice sa10 sn11 sc12, .slice sa30 sn31 sc32, .slice sa33 sn34 sc35, .slice sa14 sn15 sc16, .bool dm], Hp.own FV 1 (.slice sa14 sn15 sc16) vals, Hp.rec_ S [pv, .map (some mb)], Hp.own FP 2 pv s.ps, Hp.iter Try.prog 47 pairL vB mb r36 ks rs40, Hp.own FZ 1 (.slice sa10 sn11 sc12) (codesS (ss0 money) cs), Hp.rec_ b1 [.slice none 0 0, .slice none 0 0, .slice none 0 0, .slice none 0 0, .bool false], R43]) rfl ?_
        refine Gx.eff0 rfl rfl (eff_storeElA (⟨va, vm, vc⟩ : Sv) rfl Try.ty22 rfl rfl rfl FV_one (k := 7) rfl FV_len hx46 (l' := [Hp.own FI 1 r.qv r.w.q, Hp.own FI 1 (.slice va vm vc) r.w.nt, Hp.rec_ r.b [r.qv, .slice va vm vc, .bool r.w.cl], Hp.rec_ b42 [.int .i64 ((ka38.1.val : Nat) : Int), .int .i64 ((ka38.2.val : Nat) : Int)], Hp.own FI 1 (.slice sa30 sn31 sc32) (s.ps.map Pr.mo), Hp.own FI 1 (.slice sa33 sn34 sc35) (s.ps.map Pr.ow), Hp.rec_ b3 [.slice sa10 sn11 sc12, .slice sa30 sn31 sc32, .slice sa33 sn34 sc35, .slice sa14 sn15 sc16, .bool dm], Hp.own FV 1 (.slice sa14 sn15 sc16) (vals.set (ka38.1.val * money.length + ka38.2.val) (⟨va, vm, vc⟩ : Sv)), Hp.rec_ S [pv, .map (some mb)], Hp.own FP 2 pv s.ps, Hp.iter Try.prog 47 pairL vB mb r36 ks rs40, Hp.own FZ 1 (.slice sa10 sn11 sc12) (codesS (ss0 money) cs), Hp.rec_ b1 [.slice none 0 0, .slice none 0 0, .slice none 0 0, .slice none 0 0, .bool false], R43]) rfl) ?_
        rintro _ _ rfl
        refine Gx.done ?_
        refine Gx.thenN ?_
        refine Gx.region ?_
        refine Gx.val rfl rfl rfl (Val.cast (val_fieldAddr rfl Try.underlying27 rfl Try.ty4 rfl rfl) (v' := ptr b3 4) rfl) ?_
        refine Gx.val rfl rfl rfl (val_load rfl Try.ty4 rfl rfl (cell_rec (k := 6) rfl rfl)) ?_
        refine Gx.val rfl rfl rfl (val_move rfl rfl) ?_
        refine Gx.casesB (t := 113) rfl (fun h47 => ?_) (fun h47 => ?_)
        · refine Gx.valg rfl rfl rfl rfl rfl (val_move rfl rfl) ?_
          refine Gx.valg rfl rfl rfl rfl rfl (val_nilCheck rfl rfl) ?_
          refine Gx.valg rfl rfl rfl rfl rfl (Val.cast (val_fieldAddr rfl Try.underlying50 rfl Try.ty4 rfl rfl) (v' := ptr r.b 2) rfl) ?_
          refine Gx.valg rfl rfl rfl rfl rfl (val_load rfl Try.ty4 rfl rfl (cell_rec (k := 2) rfl rfl)) ?_
          refine Gx.val rfl rfl rfl (val_pickT rfl rfl rfl) ?_
          refine Gx.val rfl rfl rfl (Val.cast (val_fieldAddr rfl Try.underlying27 rfl Try.ty4 rfl rfl) (v' := ptr b3 4) rfl) ?_
          refine Gx.eff0 rfl rfl (eff_store rfl Try.ty4 rfl rfl (us := [.bool r.w.cl]) rfl rfl rfl (k := 6) rfl (rfl) (vs' := [.slice sa10 sn11 sc12, .slice sa30 sn31 sc32, .slice sa33 sn34 sc35, .slice sa14 sn15 sc16, .bool r.w.cl]) (rfl) (l' := [Hp.own FI 1 r.qv r.w.q, Hp.own FI 1 (.slice va vm vc) r.w.nt, Hp.rec_ r.b [r.qv, .slice va vm vc, .bool r.w.cl], Hp.rec_ b42 [.int .i64 ((ka38.1.val : Nat) : Int), .int .i64 ((ka38.2.val : Nat) : Int)], Hp.own FI 1 (.slice sa30 sn31 sc32) (s.ps.map Pr.mo), Hp.own FI 1 (.slice sa33 sn34 sc35) (s.ps.map Pr.ow), Hp.rec_ b3 [.slice sa10 sn11 sc12, .slice sa30 sn31 sc32, .slice sa33 sn34 sc35, .slice sa14 sn15 sc16, .bool r.w.cl], Hp.own FV 1 (.slice sa14 sn15 sc16) (vals.set (ka38.1.val * money.length + ka38.2.val) (⟨va, vm, vc⟩ : Sv)), Hp.rec_ S [pv, .map (some mb)], Hp.own FP 2 pv s.ps, Hp.iter Try.prog 47 pairL vB mb r36 ks rs40, Hp.own FZ 1 (.slice sa10 sn11 sc12) (codesS (ss0 money) cs), Hp.rec_ b1 [.slice none 0 0, .slice none 0 0, .slice none 0 0, .slice none 0 0, .bool false], R43]) rfl) ?_
          rintro _ _ rfl
          refine Gx.done ?_
          refine Gx.blkN ?_
          refine Gx.thenN ?_
          refine Gx.norm (l' := [Hp.own FI 1 r.qv r.w.q, Hp.own FI 1 r.nv r.w.nt, Hp.rec_ r.b [r.qv, r.nv, .bool r.w.cl], Hp.rec_ b42 [.int .i64 ((ka38.1.val : Nat) : Int), .int .i64 ((ka38.2.val : Nat) : Int)], Hp.own FI 1 (.slice sa30 sn31 sc32) (s.ps.map Pr.mo), Hp.own FI 1 (.slice sa33 sn34 sc35) (s.ps.map Pr.ow), Hp.rec_ b3 [.slice sa10 sn11 sc12, .slice sa30 sn31 sc32, .slice sa33 sn34 sc35, .slice sa14 sn15 sc16, .bool r.w.cl], Hp.own FV 1 (.slice sa14 sn15 sc16) (vals.set (ka38.1.val * money.length + ka38.2.val) (⟨va, vm, vc⟩ : Sv)), Hp.rec_ S [pv, .map (some mb)], Hp.own FP 2 pv s.ps, Hp.iter Try.prog 47 pairL vB mb r36 ks rs40, Hp.own FZ 1 (.slice sa10 sn11 sc12) (codesS (ss0 money) cs), Hp.rec_ b1 [.slice none 0 0, .slice none 0 0, .slice none 0 0, .slice none 0 0, .bool false], R43]) (by rw [hnv] <;> rfl) ?_
          refine Gx.front 13 rfl ?_
          refine Gx.front 2 rfl ?_
          refine Gx.front 2 rfl ?_
          refine Gx.front 3 rfl ?_
          refine Gx.sepEq (l' := [Hp.big rowH rs, Hp.rec_ b42 [.int .i64 ((ka38.1.val : Nat) : Int), .int .i64 ((ka38.2.val : Nat) : Int)], Hp.own FI 1 (.slice sa30 sn31 sc32) (s.ps.map Pr.mo), Hp.own FI 1 (.slice sa33 sn34 sc35) (s.ps.map Pr.ow), Hp.rec_ b3 [.slice sa10 sn11 sc12, .slice sa30 sn31 sc32, .slice sa33 sn34 sc35, .slice sa14 sn15 sc16, .bool r.w.cl], Hp.own FV 1 (.slice sa14 sn15 sc16) (vals.set (ka38.1.val * money.length + ka38.2.val) (⟨va, vm, vc⟩ : Sv)), Hp.rec_ S [pv, .map (some mb)], Hp.own FP 2 pv s.ps, Hp.iter Try.prog 47 pairL vB mb r36 ks rs40, Hp.own FZ 1 (.slice sa10 sn11 sc12) (codesS (ss0 money) cs), Hp.rec_ b1 [.slice none 0 0, .slice none 0 0, .slice none 0 0, .slice none 0 0, .bool false]]) (by show Hp.rec_ r.b [r.qv, r.nv, .bool r.w.cl] * (Hp.own FI 1 r.qv r.w.q * (Hp.own FI 1 r.nv r.w.nt * (R43 * _))) = Hp.big rowH rs * _; rw [hf44]; show _ = (Hp.rec_ r.b [r.qv, r.nv, .bool r.w.cl] * (Hp.own FI 1 r.qv r.w.q * Hp.own FI 1 r.nv r.w.nt) * R43) * _; simp only [Hp.mul_assoc] <;> rfl) ?_
          refine Gx.drop 1 rfl ?_
          refine Gx.front 9 rfl ?_
          refine Gx.front 9 rfl ?_
          refine Gx.front 2 rfl ?_
          refine Gx.front 9 rfl ?_
          refine Gx.front 9 rfl ?_
          refine Gx.front 9 rfl ?_
          refine Gx.front 9 rfl ?_
          refine Gx.front 9 rfl ?_
          refine Gx.front 9 rfl ?_
          refine Gx.front 9 rfl ?_
          exact Gx.round (rs40, vals.set (ka38.1.val * money.length + ka38.2.val) (⟨va, vm, vc⟩ : Sv), r.w.cl) (hh.next hok hp41 hkk hrr hka1 hka2 hka3 (v := ⟨va, vm, vc⟩) hnv r.w.cl (by simp_all)) (by have e9 := hp41.length_eq; simp only [List.length_cons] at e9; dsimp only at e9 ⊢; omega) ((.cons rfl (.cons rfl (.cons rfl (.cons rfl .nil))))) rfl
        · refine Gx.skipg rfl rfl rfl rfl rfl rfl ?_
          refine Gx.skipg rfl rfl rfl rfl rfl rfl ?_
          refine Gx.skipg rfl rfl rfl rfl rfl rfl ?_
          refine Gx.skipg rfl rfl rfl rfl rfl rfl ?_
          refine Gx.val rfl rfl rfl (val_pickF rfl rfl rfl) ?_
          refine Gx.val rfl rfl rfl (Val.cast (val_fieldAddr rfl Try.underlying27 rfl Try.ty4 rfl rfl) (v' := ptr b3 4) rfl) ?_
          refine Gx.eff0 rfl rfl (eff_store rfl Try.ty4 rfl rfl (us := [.bool false]) rfl rfl rfl (k := 6) rfl (rfl) (vs' := [.slice sa10 sn11 sc12, .slice sa30 sn31 sc32, .slice sa33 sn34 sc35, .slice sa14 sn15 sc16, .bool false]) (rfl) (l' := [Hp.own FI 1 r.qv r.w.q, Hp.own FI 1 (.slice va vm vc) r.w.nt, Hp.rec_ r.b [r.qv, .slice va vm vc, .bool r.w.cl], Hp.rec_ b42 [.int .i64 ((ka38.1.val : Nat) : Int), .int .i64 ((ka38.2.val : Nat) : Int)], Hp.own FI 1 (.slice sa30 sn31 sc32) (s.ps.map Pr.mo), Hp.own FI 1 (.slice sa33 sn34 sc35) (s.ps.map Pr.ow), Hp.rec_ b3 [.slice sa10 sn11 sc12, .slice sa30 sn31 sc32, .slice sa33 sn34 sc35, .slice sa14 sn15 sc16, .bool false], Hp.own FV 1 (.slice sa14 sn15 sc16) (vals.set (ka38.1.val * money.length + ka38.2.val) (⟨va, vm, vc⟩ : Sv)), Hp.rec_ S [pv, .map (some mb)], Hp.own FP 2 pv s.ps, Hp.iter Try.prog 47 pairL vB mb r36 ks rs40, Hp.own FZ 1 (.slice sa10 sn11 sc12) (codesS (ss0 money) cs), Hp.rec_ b1 [.slice none 0 0, .slice none 0 0, .slice none 0 0, .slice none 0 0, .bool false], R43]) rfl) ?_
          rintro _ _ rfl
          refine Gx.done ?_
          refine Gx.blkN ?_
          refine Gx.thenN ?_
          refine Gx.norm (l' := [Hp.own FI 1 r.qv r.w.q, Hp.own FI 1 r.nv r.w.nt, Hp.rec_ r.b [r.qv, r.nv, .bool r.w.cl], Hp.rec_ b42 [.int .i64 ((ka38.1.val : Nat) : Int), .int .i64 ((ka38.2.val : Nat) : Int)], Hp.own FI 1 (.slice sa30 sn31 sc32) (s.ps.map Pr.mo), Hp.own FI 1 (.slice sa33 sn34 sc35) (s.ps.map Pr.ow), Hp.rec_ b3 [.slice sa10 sn11 sc12, .slice sa30 sn31 sc32, .slice sa33 sn34 sc35, .slice sa14 sn15 sc16, .bool false], Hp.own FV 1 (.slice sa14 sn15 sc16) (vals.set (ka38.1.val * money.length + ka38.2.val) (⟨va, vm, vc⟩ : Sv)), Hp.rec_ S [pv, .map (some mb)], Hp.own FP 2 pv s.ps, Hp.iter Try.prog 47 pairL vB mb r36 ks rs40, Hp.own FZ 1 (.slice sa10 sn11 sc12) (codesS (ss0 money) cs), Hp.rec_ b1 [.slice none 0 0, .slice none 0 0, .slice none 0 0, .slice none 0 0, .bool false], R43]) (by rw [hnv] <;> rfl) ?_
          refine Gx.front 13 rfl ?_
          refine Gx.front 2 rfl ?_
          refine Gx.front 2 rfl ?_
          refine Gx.front 3 rfl ?_
          refine Gx.sepEq (l' := [Hp.big rowH rs, Hp.rec_ b42 [.int .i64 ((ka38.1.val : Nat) : Int), .int .i64 ((ka38.2.val : Nat) : Int)], Hp.own FI 1 (.slice sa30 sn31 sc32) (s.ps.map Pr.mo), Hp.own FI 1 (.slice sa33 sn34 sc35) (s.ps.map Pr.ow), Hp.rec_ b3 [.slice sa10 sn11 sc12, .slice sa30 sn31 sc32, .slice sa33 sn34 sc35, .slice sa14 sn15 sc16, .bool false], Hp.own FV 1 (.slice sa14 sn15 sc16) (vals.set (ka38.1.val * money.length + ka38.2.val) (⟨va, vm, vc⟩ : Sv)), Hp.rec_ S [pv, .map (some mb)], Hp.own FP 2 pv s.ps, Hp.iter Try.prog 47 pairL vB mb r36 ks rs40, Hp.own FZ 1 (.slice sa10 sn11 sc12) (codesS (ss0 money) cs), Hp.rec_ b1 [.slice none 0 0, .slice none 0 0, .slice none 0 0, .slice none 0 0, .bool false]]) (by show Hp.rec_ r.b [r.qv, r.nv, .bool r.w.cl] * (Hp.own FI 1 r.qv r.w.q * (Hp.own FI 1 r.nv r.w.nt * (R43 * _))) = Hp.big rowH rs * _; rw [hf44]; show _ = (Hp.rec_ r.b [r.qv, r.nv, .bool r.w.cl] * (Hp.own FI 1 r.qv r.w.q * Hp.own FI 1 r.nv r.w.nt) * R43) * _; simp only [Hp.mul_assoc] <;> rfl) ?_
          refine Gx.drop 1 rfl ?_
          refine Gx.front 9 rfl ?_
          refine Gx.front 9 rfl ?_
          refine Gx.front 2 rfl ?_
          refine Gx.front 9 rfl ?_
          refine Gx.front 9 rfl ?_
          refine Gx.front 9 rfl ?_
          refine Gx.front 9 rfl ?_
          refine Gx.front 9 rfl ?_
          refine Gx.front 9 rfl ?_
          refine Gx.front 9 rfl ?_
          exact Gx.round (rs40, vals.set (ka38.1.val * money.length + ka38.2.val) (⟨va, vm, vc⟩ : Sv), false) (hh.next hok hp41 hkk hrr hka1 hka2 hka3 (v := ⟨va, vm, vc⟩) hnv false (by simp_all)) (by have e9 := hp41.length_eq; simp only [List.length_cons] at e9; dsimp only at e9 ⊢; omega) ((.cons rfl (.cons rfl (.cons rfl (.cons rfl .nil))))) rfl
  rintro v l w ⟨cv, wv, uv, bv, dm, ks, rs, vals, P, dn0, rfl, rfl, hok, hB, hd0⟩ H
  have bd := (BdS.zero hm0).run h6 cs
  have hln := bd.len
  have hvl := hB.len
  have hnn : money.length * money.length ≤ 36 := Nat.mul_le_mul h6 h6
  refine ⟨cv, wv, uv, bv, dm, vals, rfl, (H.at_ (k := 0) rfl).sls (by rw [codesS_len]; omega), (H.at_ (k := 1) rfl).sls (by rw [List.length_map]; omega), (H.at_ (k := 2) rfl).sls (by rw [List.length_map]; omega), (H.at_ (k := 3) rfl).sls (by omega), hvl, fun k v hv => ?_, ?_⟩
  · have hk := (List.getElem?_eq_some_iff.1 hv).1
    have hi : k / money.length < money.length := (Nat.div_lt_iff_lt_mul (by omega)).2 (by omega)
    have hj : k % money.length < money.length := Nat.mod_lt _ (by omega)
    have hkk : (k / money.length) * money.length + k % money.length = k := by rw [Nat.mul_comm]; exact Nat.div_add_mod ..
    unfold nts
    split
    · rename_i e
      have := hB.diag _ hi
      have e2 : k / money.length * money.length + k / money.length = k := by have h9 := hkk; rw [← e] at h9; exact h9
      rw [e2] at this
      cases hv.symm.trans this
      exact nil_sls H
    · rename_i e
      obtain ⟨j, r, g1, g2, g3, _⟩ := hok.at_ (a := (smN (k / money.length), smN (k % money.length))) (by dsimp only; rw [smN_val (by omega)]; exact hi) (by dsimp only; rw [smN_val (by omega)]; exact hj) (fun q => e (smN_inj (by omega) (by omega) q))
      obtain ⟨u, hu, hu2⟩ := hB.done j _ r g1 g2 (by simp)
      dsimp only at hu
      rw [smN_val (by omega), smN_val (by omega), hkk] at hu
      cases hv.symm.trans hu
      rw [← hu2, ← g3]
      exact rowN_sls g2 (by have := (bd.q (smN (k / money.length), smN (k % money.length))).2; rw [← g3] at this; omega) (H.at_ (k := 4) rfl)
  · rw [hB.cl, hd0]
    refine and_congr Iff.rfl ⟨fun h i j hi hj hne => ?_, fun h k p r hk hr _ => ?_⟩
    · obtain ⟨q, r, g1, g2, g3, _⟩ := hok.at_ (a := (smN i, smN j)) (by dsimp only; rw [smN_val (by omega)]; exact hi) (by dsimp only; rw [smN_val (by omega)]; exact hj) (fun q => hne (smN_inj (by omega) (by omega) q))
      rw [← g3]; exact h q _ r g1 g2 (by simp)
    · rw [hok.val k p r hk hr]
      obtain ⟨l1, l2, l3⟩ := (hok.keys p.1).1 (List.mem_map_of_mem (List.mem_of_getElem? hk))
      have := h p.1.1.val p.1.2.val l1 l2 (fun e => l3 (Fin.ext e))
      rwa [smN_self, smN_self] at this
end Go.Proofs.Ytanipkddfngnnaa
