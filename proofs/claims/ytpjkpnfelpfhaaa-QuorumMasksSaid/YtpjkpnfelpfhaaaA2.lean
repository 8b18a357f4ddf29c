/- The least sets; are two lists alike; what may be a family. The walks. No condition. -/
import Derived.Test.YtpjkpnfelpfhaaaA1
import Derived.Test.YtpjkpnfelpfhaaaK
namespace Go.Proofs.Ytpjkpnfelpfhaaa
open Go.RowKit
set_option linter.unusedVariables false
set_option linter.unusedSimpArgs false
set_option maxRecDepth 100000

/-- the one lies in the other, and is not it -/
def ssub (b a : Nat) : Bool := decide (b ≠ a ∧ b &&& a = b)
theorem diff_bit (b a i : Nat) : (b ^^^ (b &&& a)).testBit i = (b.testBit i && !a.testBit i) := by rw [Nat.testBit_xor, Nat.testBit_and]; cases b.testBit i <;> cases a.testBit i <;> rfl
theorem diff_lt {a b : Nat} (hb : b < 4294967296) : b ^^^ (b &&& a) < 4294967296 := Nat.xor_lt_two_pow (n := 32) hb (Nat.lt_of_le_of_lt Nat.and_le_left hb)
theorem diff_zero {a b : Nat} : b ^^^ (b &&& a) = 0 ↔ b &&& a = b := by
  constructor
  · intro h
    refine Nat.eq_of_testBit_eq fun i => ?_
    have := diff_bit b a i
    rw [h, Nat.zero_testBit] at this
    rw [Nat.testBit_and]
    revert this
    cases b.testBit i <;> cases a.testBit i <;> simp
  · intro h; rw [h, Nat.xor_self]
/-- the least of them, in order -/
structure IsLeast (xs ls : List Nat) : Prop where
  up : ls.Pairwise (· < ·)
  mem : ∀ a, a ∈ ls ↔ a ∈ xs ∧ ∀ b ∈ xs, ssub b a = false
theorem up_uniq : ∀ {l m : List Nat}, l.Pairwise (· < ·) → m.Pairwise (· < ·) → (∀ a, a ∈ l ↔ a ∈ m) → l = m
  | [], [], _, _, _ => rfl
  | [], y :: m, _, _, h => by have := (h y).2 List.mem_cons_self; cases this
  | x :: l, [], _, _, h => by have := (h x).1 List.mem_cons_self; cases this
  | x :: l, y :: m, h1, h2, h => by
    obtain ⟨a1, a2⟩ := List.pairwise_cons.1 h1
    obtain ⟨b1, b2⟩ := List.pairwise_cons.1 h2
    have e : x = y := by
      have hx := (h x).1 List.mem_cons_self
      have hy := (h y).2 List.mem_cons_self
      rcases List.mem_cons.1 hx with q | q
      · exact q
      · rcases List.mem_cons.1 hy with r | r
        · exact r.symm
        · have := b1 x q; have := a1 y r; omega
    subst e
    rw [up_uniq a2 b2 fun a => ⟨fun ha => by
      rcases List.mem_cons.1 ((h a).1 (List.mem_cons_of_mem _ ha)) with q | q
      · have := a1 a ha; omega
      · exact q, fun ha => by
      rcases List.mem_cons.1 ((h a).2 (List.mem_cons_of_mem _ ha)) with q | q
      · have := b1 a ha; omega
      · exact q⟩]
theorem cmL_mem {ys : List Nat} : ∀ {n : Nat}, n ≤ ys.length → ∀ x, x ∈ cmL ys n ↔ ∃ i, i < n ∧ ys[i]? = some x
  | 0, _, x => by simp [cmL]
  | n + 1, h, x => by
    have ih := cmL_mem (ys := ys) (n := n) (by omega) x
    obtain ⟨z, hz⟩ := get_of_lt (xs := ys) (k := n) (by omega)
    rw [cmL]
    split
    · rename_i hq
      rw [ih]
      constructor
      · rintro ⟨i, h1, h2⟩; exact ⟨i, by omega, h2⟩
      · rintro ⟨i, h1, h2⟩
        by_cases e : i = n
        · subst e; exact ⟨i - 1, by omega, hq.2.trans h2⟩
        · exact ⟨i, by omega, h2⟩
    · rw [List.mem_append, ih, hz]
      constructor
      · rintro (⟨i, h1, h2⟩ | h)
        · exact ⟨i, by omega, h2⟩
        · simp at h; subst h; exact ⟨n, by omega, hz⟩
      · rintro ⟨i, h1, h2⟩
        by_cases e : i = n
        · subst e; rw [hz] at h2; cases h2; exact .inr (by simp)
        · exact .inl ⟨i, by omega, h2⟩
theorem cmL_up {ys : List Nat} (hs : ys.Pairwise (· ≤ ·)) : ∀ {n : Nat}, n ≤ ys.length → (cmL ys n).Pairwise (· < ·)
  | 0, _ => .nil
  | n + 1, h => by
    have ih := cmL_up hs (n := n) (by omega)
    obtain ⟨z, hz⟩ := get_of_lt (xs := ys) (k := n) (by omega)
    rw [cmL]
    split
    · exact ih
    · rename_i hq
      rw [List.pairwise_append, hz]
      refine ⟨ih, by simp, fun a ha b hb => ?_⟩
      have hb' : z = b := by simpa [eq_comm] using hb
      subst hb'
      obtain ⟨i, h1, h2⟩ := (cmL_mem (by omega) a).1 ha
      have hle : ∀ i j x y, i ≤ j → ys[i]? = some x → ys[j]? = some y → x ≤ y := fun i j x y hij hx hy => by
        rcases Nat.lt_or_eq_of_le hij with q | q
        · obtain ⟨l1, rfl⟩ := List.getElem?_eq_some_iff.1 hx
          obtain ⟨l2, rfl⟩ := List.getElem?_eq_some_iff.1 hy
          exact List.pairwise_iff_getElem.1 hs i j l1 l2 q
        · subst q; rw [hx] at hy; cases hy; exact Nat.le_refl _
      obtain ⟨u, hu⟩ := get_of_lt (xs := ys) (k := n - 1) (by omega)
      have q1 := hle i (n - 1) a u (by omega) h2 hu
      have q2 := hle (n - 1) n u z (by omega) hu hz
      have q3 : u ≠ z := fun e => hq ⟨by omega, by rw [hu, hz, e]⟩
      show a < z
      omega
theorem least_of {xs ys : List Nat} (hp : ys.Perm xs) (hs : ys.Pairwise (· ≤ ·)) : IsLeast xs ((cmL ys ys.length).filter fun a => !((cmL ys ys.length).any fun b => ssub b a)) := by
  have hm : ∀ x, x ∈ cmL ys ys.length ↔ x ∈ xs := fun x => by
    rw [cmL_mem (Nat.le_refl _), ← hp.mem_iff, List.mem_iff_getElem?]
    constructor
    · rintro ⟨i, _, h⟩; exact ⟨i, h⟩
    · rintro ⟨i, h⟩; exact ⟨i, (List.getElem?_eq_some_iff.1 h).1, h⟩
  refine ⟨(cmL_up hs (Nat.le_refl _)).filter _, fun a => ?_⟩
  rw [List.mem_filter, hm, Bool.not_eq_true']
  constructor
  · rintro ⟨h1, h2⟩
    refine ⟨h1, fun b hb => ?_⟩
    rw [List.any_eq_false] at h2
    simpa using h2 b ((hm b).2 hb)
  · rintro ⟨h1, h2⟩
    refine ⟨h1, ?_⟩
    rw [List.any_eq_false]
    intro b hb
    simpa using h2 b ((hm b).1 hb)
theorem IsLeast.uniq {xs l m : List Nat} (h : IsLeast xs l) (h' : IsLeast xs m) : l = m := up_uniq h.up h'.up fun a => by rw [h.mem, h'.mem]
theorem least2_any {W : World} {b y a : Nat} (hy : y < 4294967296) (ha : a < 4294967296) (hb : b < W.heap.size) (hbc : W.cell? ⟨b, 0, none⟩ = some (.int .u32 ((a : Nat) : Int))) :
    Calls Try.prog 36 #[.int .u32 ((y : Nat) : Int), ptr b 0] W fun e w' => e = .returned (.bool (ssub y a)) ∧ Below W.heap.size W w' := by
  refine calls_pure (Gx.enter (l := []) Try.func36 rfl Try.ntmps36 rfl (Sat.start W) ?_)
  refine Gx.know (m' := [(0, .int .u32 ((y : Nat) : Int)), (1, ptr b 0)]) (.cons rfl (.cons rfl .nil)) ?_
  refine Gx.seq ?_
  refine Gx.region ?_
  refine Gx.val rfl rfl rfl (val_assign rfl rfl) ?_
  refine Gx.done ?_
  refine Gx.thenN ?_
  refine Gx.seq ?_
  refine Gx.region ?_
  refine Gx.val rfl rfl rfl (val_move rfl rfl) ?_
  refine Gx.val rfl rfl rfl (val_load rfl Try.ty28 rfl rfl (cell_old hb hbc)) ?_
  refine Gx.val rfl rfl rfl (val_neq rfl rfl rfl) ?_
  refine Gx.val rfl rfl rfl (val_move rfl rfl) ?_
  refine Gx.cases (t := 7) rfl (fun h1 => ?_) (fun h1 => ?_)
  · refine Gx.valg rfl rfl rfl rfl rfl (val_move rfl rfl) ?_
    refine Gx.valg rfl rfl rfl rfl rfl (val_load rfl Try.ty28 rfl rfl (cell_old hb hbc)) ?_
    refine Gx.valg rfl rfl rfl rfl rfl (val_andNot rfl rfl rfl (andNot32 hy ha (diff_lt hy) (fun i _ => diff_bit y a i))) ?_
    refine Gx.valg rfl rfl rfl rfl rfl (val_eql rfl rfl rfl) ?_
    refine Gx.val rfl rfl rfl (val_pickT rfl rfl rfl) ?_
    refine Gx.val rfl rfl rfl (val_assign rfl rfl) ?_
    refine Gx.done ?_
    refine Gx.thenN ?_
    refine Gx.ret ?_
    refine Gx.ret1 Try.results36 rfl ?_
    exact congrArg Value.bool (by unfold ssub; first | exact (decide_eq_false (fun h => by omega)).symm | exact decide_eq_decide.2 ⟨fun h => ⟨by omega, diff_zero.1 (by omega)⟩, fun h => by have := diff_zero.2 h.2; omega⟩)
  · refine Gx.skipg rfl rfl rfl rfl rfl rfl ?_
    refine Gx.skipg rfl rfl rfl rfl rfl rfl ?_
    refine Gx.skipg rfl rfl rfl rfl rfl rfl ?_
    refine Gx.skipg rfl rfl rfl rfl rfl rfl ?_
    refine Gx.val rfl rfl rfl (val_pickF rfl rfl rfl) ?_
    refine Gx.val rfl rfl rfl (val_assign rfl rfl) ?_
    refine Gx.done ?_
    refine Gx.thenN ?_
    refine Gx.ret ?_
    refine Gx.ret1 Try.results36 rfl ?_
    exact congrArg Value.bool (by unfold ssub; first | exact (decide_eq_false (fun h => by omega)).symm | exact decide_eq_decide.2 ⟨fun h => ⟨by omega, diff_zero.1 (by omega)⟩, fun h => by have := diff_zero.2 h.2; omega⟩)

theorem least1_any {W : World} {b x : Nat} {lv : Value} {ls : List Nat} (hx : x < 4294967296) (hlt : ∀ y ∈ ls, y < 4294967296) (hb : b < W.heap.size) (hbc : W.cell? ⟨b, 0, none⟩ = some lv) (hlv : SlS FU 1 W lv ls) :
    Calls Try.prog 35 #[.int .u32 ((x : Nat) : Int), ptr b 0] W fun e w' => e = .returned (.bool (ls.any fun y => ssub y x)) ∧ Below W.heap.size W w' := by
  refine calls_pure (Gx.enter (l := []) Try.func35 rfl Try.ntmps35 rfl (Sat.start W) ?_)
  refine Gx.know (m' := [(0, .int .u32 ((x : Nat) : Int)), (1, ptr b 0)]) (.cons rfl (.cons rfl .nil)) ?_
  refine Gx.seq ?_
  refine Gx.region ?_
  refine Gx.eff rfl rfl rfl (eff_box rfl rfl (vs := [.int .u32 ((x : Nat) : Int)]) rfl) ?_
  rintro _ _ ⟨b1, rfl, rfl⟩
  refine Gx.val rfl rfl rfl (val_assign rfl rfl) ?_
  refine Gx.done ?_
  refine Gx.thenN ?_
  refine Gx.seq ?_
  refine Gx.region ?_
  refine Gx.val rfl rfl rfl (val_load rfl Try.ty22 rfl rfl (cell_old hb hbc)) ?_
  refine Gx.val rfl rfl rfl (Val.cast (val_makeFunc (us := []) (vs := [ptr b1 0]) rfl rfl rfl) (v' := .func (.func 36) #[] #[ptr b1 0]) rfl) ?_
  refine Gx.val rfl rfl rfl (val_call (vs := [lv, .func (.func 36) #[] #[ptr b1 0]]) rfl Try.fn27 rfl (fun w H => contains_any36 (q := fun y => ssub y x) (hlv.below H.below) (fun w' hb' y hy' => least2_any (hlt y hy') hx (Nat.lt_of_lt_of_le (H.at_ (k := 0) rfl).rec_.1 hb'.size) ((hb'.cell (p := ⟨b1, 0, none⟩) (H.at_ (k := 0) rfl).rec_.1).trans ((H.at_ (k := 0) rfl).cell 0 (u := .int .u32 ((x : Nat) : Int)) rfl))))) ?_
  refine Gx.val rfl rfl rfl (val_assign rfl rfl) ?_
  refine Gx.done ?_
  refine Gx.thenN ?_
  refine Gx.ret ?_
  refine Gx.ret1 Try.results35 rfl ?_
  rfl

set_option maxHeartbeats 1000000 in
theorem least_any {W : World} {qv : Value} {xs : List Nat} (hs : SlS FU 1 W qv xs) (h0 : 0 < xs.length) (hl : xs.length ≤ 65000) (hlt : ∀ x ∈ xs, x < 4294967296) :
    Calls Try.prog 19 #[qv] W (Ret W fun u l' => ∃ ls, IsS u ∧ IsLeast xs ls ∧ l' = [Hp.own FU 1 u ls]) := by
  refine Gx.enter (l := []) Try.func19 rfl Try.ntmps19 rfl (Sat.start W) ?_
  refine Gx.know (m' := [(0, qv)]) (.cons rfl .nil) ?_
  refine Gx.seq ?_
  refine Gx.region ?_
  refine Gx.val rfl rfl rfl (val_assign rfl rfl) ?_
  refine Gx.done ?_
  refine Gx.thenN ?_
  refine Gx.seq ?_
  refine Gx.region ?_
  refine Gx.val rfl rfl rfl (val_move rfl rfl) ?_
  refine Gx.eff rfl rfl rfl (eff_callN (vs := [qv]) rfl Try.fn31 rfl (fun w H => clone_any (hs.below H.below) h0 hl)) ?_
  rintro c1 _ ⟨_, ⟨hic1, rfl⟩, rfl⟩
  refine Gx.norm (l' := [Hp.own FU 1 c1 xs]) rfl ?_
  refine Gx.eff rfl rfl rfl (eff_alloc rfl Try.ty22 (vs := [.slice none 0 0]) rfl) ?_
  rintro _ _ ⟨b1, rfl, rfl⟩
  refine Gx.eff0 rfl rfl (eff_store rfl Try.ty22 rfl rfl (us := [c1]) hic1.cellsL rfl hic1.all (k := 0) rfl (rfl) (vs' := [c1]) (rfl) (l' := [Hp.rec_ b1 [c1], Hp.own FU 1 c1 xs]) rfl) ?_
  rintro _ _ rfl
  refine Gx.done ?_
  refine Gx.thenN ?_
  refine Gx.seq ?_
  refine Gx.region ?_
  refine Gx.val rfl rfl rfl (val_load rfl Try.ty22 rfl rfl (cell_rec (k := 0) rfl rfl)) ?_
  refine Gx.eff rfl rfl rfl (eff_call (vs := [c1]) rfl Try.fn32 rfl (fun w H => sort_any hl (H.at_ (k := 1) rfl))) ?_
  rintro _ l2 ⟨ys, hp, hsr, rfl, hl2⟩
  refine Gx.sepEq (l' := [Hp.own FU 1 c1 ys, Hp.rec_ b1 [c1]]) hl2 ?_
  refine Gx.done ?_
  refine Gx.thenN ?_
  refine Gx.seq ?_
  refine Gx.region ?_
  refine Gx.val rfl rfl rfl (val_load rfl Try.ty22 rfl rfl (cell_rec (k := 1) rfl rfl)) ?_
  refine Gx.eff rfl rfl rfl (eff_call (vs := [c1]) rfl Try.fn33 rfl (fun w H => compact_any hic1 (by rw [hp.length_eq]; exact hl) (H.at_ (k := 0) rfl))) ?_
  rintro c2 l3 ⟨hic2, hl3⟩
  refine Gx.sepEq (l' := [Hp.own FU 1 c2 (cmL ys ys.length), Hp.rec_ b1 [c1]]) hl3 ?_
  refine Gx.eff0 rfl rfl (eff_store rfl Try.ty22 rfl rfl (us := [c2]) hic2.cellsL rfl hic2.all (k := 1) rfl (rfl) (vs' := [c2]) (rfl) (l' := [Hp.own FU 1 c2 (cmL ys ys.length), Hp.rec_ b1 [c2]]) rfl) ?_
  rintro _ _ rfl
  refine Gx.done ?_
  refine Gx.thenN ?_
  refine Gx.seq ?_
  have hyl := hp.length_eq
  have hcl := cmL_len ys ys.length
  have hcm := fun x => cmL_mem (ys := ys) (Nat.le_refl _) x
  have hclt : ∀ y ∈ cmL ys ys.length, y < 4294967296 := fun y hy => by
    obtain ⟨i, _, h⟩ := (hcm y).1 hy
    exact hlt y (hp.mem_iff.1 (List.mem_of_getElem? h))
  have hc0 : 0 < (cmL ys ys.length).length := by
    obtain ⟨z, hz⟩ := get_of_lt (xs := ys) (k := 0) (by omega)
    exact List.length_pos_of_mem ((hcm z).2 ⟨0, by omega, hz⟩)
  refine Gx.region ?_
  refine Gx.val rfl rfl rfl (val_load rfl Try.ty22 rfl rfl (cell_rec (k := 1) rfl rfl)) ?_
  refine Gx.eff rfl rfl rfl (eff_callN (vs := [c2]) rfl Try.fn31 rfl (fun w H => clone_any ((H.at_ (k := 0) rfl).sls (by have := cmL_len ys ys.length; omega)) hc0 (by have := cmL_len ys ys.length; omega))) ?_
  rintro c3 _ ⟨_, ⟨hic3, rfl⟩, rfl⟩
  refine Gx.norm (l' := [Hp.own FU 1 c3 (cmL ys ys.length), Hp.own FU 1 c2 (cmL ys ys.length), Hp.rec_ b1 [c2]]) rfl ?_
  refine Gx.val rfl rfl rfl (Val.cast (val_makeFunc (us := []) (vs := [ptr b1 0]) rfl rfl rfl) (v' := .func (.func 35) #[] #[ptr b1 0]) rfl) ?_
  refine Gx.eff rfl rfl rfl (eff_call (vs := [c3, .func (.func 35) #[] #[ptr b1 0]]) rfl Try.fn34 rfl (fun w H => delete_any (q := fun a => (cmL ys ys.length).any fun b => ssub b a) (R := sep [Hp.own FU 1 c2 (cmL ys ys.length), Hp.rec_ b1 [c2]]) hic3 (by omega) (fun w' h' w1 hb x hx => h'.elim fun zs H' => (fun (H9 : Sat W w' (sep [Hp.own FU 1 c3 zs, Hp.own FU 1 c2 (cmL ys ys.length), Hp.rec_ b1 [c2]])) => least1_any (hclt x hx) hclt (Nat.lt_of_lt_of_le (H9.at_ (k := 2) rfl).rec_.1 hb.size) ((hb.cell (p := ⟨b1, 0, none⟩) (H9.at_ (k := 2) rfl).rec_.1).trans ((H9.at_ (k := 2) rfl).cell 0 (u := c2) rfl)) (((H9.at_ (k := 1) rfl).sls (by omega)).below hb)) H') (H.at_ (k := 0) rfl))) ?_
  rintro c4 l4 ⟨hic4, hl4⟩
  refine Gx.sepEq (l' := [Hp.own FU 1 c4 ((cmL ys ys.length).filter fun x => !((cmL ys ys.length).any fun b => ssub b x)), Hp.own FU 1 c2 (cmL ys ys.length), Hp.rec_ b1 [c2]]) hl4 ?_
  refine Gx.val rfl rfl rfl (val_assign rfl rfl) ?_
  refine Gx.done ?_
  refine Gx.thenN ?_
  refine Gx.ret ?_
  refine Gx.drop 2 rfl ?_
  refine Gx.drop 1 rfl ?_
  refine Gx.ret1 Try.results19 rfl ?_
  exact ⟨_, hic4, least_of hp hsr, rfl⟩

theorem equal_any {W : World} {av bv : Value} {xs ys : List Nat} (hav : SlS FU 1 W av xs) (hbv : SlS FU 1 W bv ys) :
    Calls Try.prog 23 #[av, bv] W fun e w' => e = .returned (.bool (decide (xs = ys))) ∧ Below W.heap.size W w' := by
  have hm9 := sls_bd hav
  refine calls_pure (Gx.enter (l := []) Try.func23 rfl Try.ntmps23 rfl (Sat.start W) ?_)
  refine Gx.know (m' := [(0, av), (1, bv)]) (.cons rfl (.cons rfl .nil)) ?_
  refine Gx.seq ?_
  refine Gx.region ?_
  refine Gx.val rfl rfl rfl (val_assign rfl rfl) ?_
  refine Gx.done ?_
  refine Gx.thenN ?_
  refine Gx.seq ?_
  refine Gx.seq ?_
  refine Gx.region ?_
  refine Gx.val rfl rfl rfl (val_move rfl rfl) ?_
  refine Gx.val rfl rfl rfl (val_len rfl Try.underlying22 rfl (len_base hav)) ?_
  refine Gx.val rfl rfl rfl (val_move rfl rfl) ?_
  refine Gx.val rfl rfl rfl (val_len rfl Try.underlying22 rfl (len_base hbv)) ?_
  refine Gx.val rfl rfl rfl (val_neq rfl rfl rfl) ?_
  refine Gx.done ?_
  refine Gx.thenN ?_
  refine Gx.dec rfl (fun h1 => ?_) (fun h1 => ?_)
  · refine Gx.seq ?_
    refine Gx.region ?_
    refine Gx.val rfl rfl rfl (val_assign rfl rfl) ?_
    refine Gx.done ?_
    refine Gx.thenN ?_
    refine Gx.ret ?_
    refine Gx.thenR ?_
    refine Gx.ret1 Try.results23 rfl ?_
    exact congrArg Value.bool (Eq.symm (decide_eq_false (fun e => by subst e; omega)))
  · refine Gx.skip ?_
    refine Gx.thenN ?_
    refine Gx.seq ?_
    refine Gx.seq ?_
    refine Gx.region ?_
    refine Gx.val rfl rfl rfl (val_move rfl rfl) ?_
    refine Gx.val rfl rfl rfl (val_len rfl Try.underlying22 rfl (len_base hav)) ?_
    refine Gx.val rfl rfl rfl (val_move rfl rfl) ?_
    refine Gx.done ?_
    refine Gx.thenN ?_
    refine Gx.block ?_
    refine Gx.loop (ι := Nat) (fun ξ => (ξ ≤ xs.length) ∧ (xs.take ξ = ys.take ξ)) (fun ξ => [(0, av), (1, bv), (4, .bool false), (12, .int .i64 ((xs.length : Nat) : Int)), (13, .int .i64 ((ξ : Nat) : Int))]) (fun ξ => []) (fun ξ => xs.length - ξ) 0 ⟨by first | omega | (dsimp only; omega), rfl⟩ ((.cons rfl (.cons rfl (.cons rfl (.cons rfl (.cons rfl .nil)))))) rfl ?_
    rintro i ⟨hi, htk⟩
    refine Gx.know (m' := [(0, av), (1, bv), (4, .bool false), (12, .int .i64 ((xs.length : Nat) : Int)), (13, .int .i64 ((i : Nat) : Int))]) (.cons rfl (.cons rfl (.cons rfl (.cons rfl (.cons rfl .nil))))) (Gx.norm (l' := []) rfl ?_)
    refine Gx.seq ?_
    refine Gx.region ?_
    refine Gx.val rfl rfl rfl (val_lss rfl rfl rfl) ?_
    refine Gx.done ?_
    refine Gx.thenN ?_
    refine Gx.seq ?_
    refine Gx.dec rfl (fun h2 => ?_) (fun h2 => ?_)
    · refine Gx.skip ?_
      refine Gx.thenN ?_
      refine Gx.seq ?_
      refine Gx.block ?_
      refine Gx.seq ?_
      refine Gx.region ?_
      refine Gx.val rfl rfl rfl (val_move rfl rfl) ?_
      refine Gx.val rfl rfl rfl (val_assign rfl rfl) ?_
      refine Gx.done ?_
      refine Gx.thenN ?_
      refine Gx.seq ?_
      obtain ⟨x, hx⟩ := get_of_lt (xs := xs) (k := i) (by omega)
      obtain ⟨y, hy⟩ := get_of_lt (xs := ys) (k := i) (by omega)
      refine Gx.regionQ Try.mixed (by kernel_rfl) ?_
      refine Gq.val rfl rfl rfl (val_move rfl rfl) ?_
      refine Gq.val rfl rfl rfl (val_move rfl rfl) ?_
      refine Gq.val rfl rfl rfl (val_ixa rfl Try.underlying22 Try.ty28 rfl rfl (j := i) (rfl) (reach_base hav hx)) ?_
      refine Gq.val rfl rfl rfl (val_load rfl Try.ty28 rfl rfl (cell_base (i := 0) hav hx rfl)) ?_
      refine Gq.val rfl rfl rfl (val_move rfl rfl) ?_
      refine Gq.val rfl rfl rfl (val_move rfl rfl) ?_
      refine Gq.val rfl rfl rfl (val_ixa rfl Try.underlying22 Try.ty28 rfl rfl (j := i) (rfl) (reach_base hbv hy)) ?_
      refine Gq.val rfl rfl rfl (val_load rfl Try.ty28 rfl rfl (cell_base (i := 0) hbv hy rfl)) ?_
      refine Gq.val rfl rfl rfl (val_neq rfl rfl rfl) ?_
      refine Gq.done ?_
      refine Gx.thenN ?_
      refine Gx.dec rfl (fun h3 => ?_) (fun h3 => ?_)
      · refine Gx.seq ?_
        refine Gx.region ?_
        refine Gx.val rfl rfl rfl (val_assign rfl rfl) ?_
        refine Gx.done ?_
        refine Gx.thenN ?_
        refine Gx.ret ?_
        refine Gx.blkR ?_
        refine Gx.thenR ?_
        refine Gx.thenR ?_
        refine Gx.blkR ?_
        refine Gx.thenR ?_
        refine Gx.ret1 Try.results23 rfl ?_
        exact congrArg Value.bool (Eq.symm (decide_eq_false (fun e => by subst e; rw [hx] at hy; cases hy; omega)))
      · refine Gx.skip ?_
        refine Gx.blkN ?_
        refine Gx.thenN ?_
        refine Gx.region ?_
        refine Gx.val rfl rfl rfl (val_add rfl rfl rfl (r := ((i + 1 : Nat) : Int)) (w64 (by omega) (by omega))) ?_
        refine Gx.val rfl rfl rfl (val_move rfl rfl) ?_
        refine Gx.done ?_
        refine Gx.thenN ?_
        exact Gx.round (i + 1) ⟨by first | omega | (dsimp only; omega), by rw [take_snoc9 hx, take_snoc9 hy, htk]; congr 2; omega⟩ (by first | omega | (dsimp only; omega)) ((.cons rfl (.cons rfl (.cons rfl (.cons rfl (.cons rfl .nil)))))) rfl
    · refine Gx.exit ?_
      refine Gx.thenE ?_
      refine Gx.thenE ?_
      refine Gx.blkE ?_
      refine Gx.thenN ?_
      refine Gx.seq ?_
      refine Gx.region ?_
      refine Gx.val rfl rfl rfl (val_assign rfl rfl) ?_
      refine Gx.done ?_
      refine Gx.thenN ?_
      refine Gx.ret ?_
      refine Gx.ret1 Try.results23 rfl ?_
      exact congrArg Value.bool (by
        have e : xs = ys := by rw [List.take_of_length_le (by omega), List.take_of_length_le (by omega)] at htk; exact htk
        exact (decide_eq_true e).symm)

theorem words_any {W : World} {av bv : Value} {xs ys : List Nat} (hav : SlS FU 1 W av xs) (hbv : SlS FU 1 W bv ys) :
    Calls Try.prog 10 #[av, bv] W fun e w' => e = .returned (.bool (decide (xs = ys))) ∧ Below W.heap.size W w' := by
  have hm9 := sls_bd hav
  refine calls_pure (Gx.enter (l := []) Try.func10 rfl Try.ntmps10 rfl (Sat.start W) ?_)
  refine Gx.know (m' := [(0, av), (1, bv)]) (.cons rfl (.cons rfl .nil)) ?_
  refine Gx.seq ?_
  refine Gx.region ?_
  refine Gx.val rfl rfl rfl (val_assign rfl rfl) ?_
  refine Gx.done ?_
  refine Gx.thenN ?_
  refine Gx.seq ?_
  refine Gx.seq ?_
  refine Gx.region ?_
  refine Gx.val rfl rfl rfl (val_move rfl rfl) ?_
  refine Gx.val rfl rfl rfl (val_len rfl Try.underlying22 rfl (len_base hav)) ?_
  refine Gx.val rfl rfl rfl (val_move rfl rfl) ?_
  refine Gx.val rfl rfl rfl (val_len rfl Try.underlying22 rfl (len_base hbv)) ?_
  refine Gx.val rfl rfl rfl (val_neq rfl rfl rfl) ?_
  refine Gx.done ?_
  refine Gx.thenN ?_
  refine Gx.dec rfl (fun h1 => ?_) (fun h1 => ?_)
  · refine Gx.seq ?_
    refine Gx.region ?_
    refine Gx.val rfl rfl rfl (val_assign rfl rfl) ?_
    refine Gx.done ?_
    refine Gx.thenN ?_
    refine Gx.ret ?_
    refine Gx.thenR ?_
    refine Gx.ret1 Try.results10 rfl ?_
    exact congrArg Value.bool (Eq.symm (decide_eq_false (fun e => by subst e; omega)))
  · refine Gx.skip ?_
    refine Gx.thenN ?_
    refine Gx.seq ?_
    refine Gx.seq ?_
    refine Gx.region ?_
    refine Gx.val rfl rfl rfl (val_assign rfl rfl) ?_
    refine Gx.done ?_
    refine Gx.thenN ?_
    refine Gx.block ?_
    refine Gx.loop (ι := Nat) (fun ξ => (ξ ≤ xs.length) ∧ (xs.take ξ = ys.take ξ)) (fun ξ => [(0, av), (1, bv), (4, .bool false), (5, .int .i64 ((ξ : Nat) : Int))]) (fun ξ => []) (fun ξ => xs.length - ξ) 0 ⟨by first | omega | (dsimp only; omega), rfl⟩ ((.cons rfl (.cons rfl (.cons rfl (.cons rfl .nil))))) rfl ?_
    rintro i ⟨hi, htk⟩
    refine Gx.know (m' := [(0, av), (1, bv), (4, .bool false), (5, .int .i64 ((i : Nat) : Int))]) (.cons rfl (.cons rfl (.cons rfl (.cons rfl .nil)))) (Gx.norm (l' := []) rfl ?_)
    refine Gx.seq ?_
    refine Gx.seq ?_
    refine Gx.region ?_
    refine Gx.val rfl rfl rfl (val_move rfl rfl) ?_
    refine Gx.val rfl rfl rfl (val_move rfl rfl) ?_
    refine Gx.val rfl rfl rfl (val_len rfl Try.underlying22 rfl (len_base hav)) ?_
    refine Gx.val rfl rfl rfl (val_lss rfl rfl rfl) ?_
    refine Gx.done ?_
    refine Gx.thenN ?_
    refine Gx.dec rfl (fun h2 => ?_) (fun h2 => ?_)
    · refine Gx.skip ?_
      refine Gx.thenN ?_
      refine Gx.seq ?_
      refine Gx.block ?_
      refine Gx.seq ?_
      obtain ⟨x, hx⟩ := get_of_lt (xs := xs) (k := i) (by omega)
      obtain ⟨y, hy⟩ := get_of_lt (xs := ys) (k := i) (by omega)
      refine Gx.regionQ Try.mixed (by kernel_rfl) ?_
      refine Gq.val rfl rfl rfl (val_move rfl rfl) ?_
      refine Gq.val rfl rfl rfl (val_move rfl rfl) ?_
      refine Gq.val rfl rfl rfl (val_ixa rfl Try.underlying22 Try.ty28 rfl rfl (j := i) (rfl) (reach_base hav hx)) ?_
      refine Gq.val rfl rfl rfl (val_load rfl Try.ty28 rfl rfl (cell_base (i := 0) hav hx rfl)) ?_
      refine Gq.val rfl rfl rfl (val_move rfl rfl) ?_
      refine Gq.val rfl rfl rfl (val_move rfl rfl) ?_
      refine Gq.val rfl rfl rfl (val_ixa rfl Try.underlying22 Try.ty28 rfl rfl (j := i) (rfl) (reach_base hbv hy)) ?_
      refine Gq.val rfl rfl rfl (val_load rfl Try.ty28 rfl rfl (cell_base (i := 0) hbv hy rfl)) ?_
      refine Gq.val rfl rfl rfl (val_neq rfl rfl rfl) ?_
      refine Gq.done ?_
      refine Gx.thenN ?_
      refine Gx.dec rfl (fun h3 => ?_) (fun h3 => ?_)
      · refine Gx.seq ?_
        refine Gx.region ?_
        refine Gx.val rfl rfl rfl (val_assign rfl rfl) ?_
        refine Gx.done ?_
        refine Gx.thenN ?_
        refine Gx.ret ?_
        refine Gx.blkR ?_
        refine Gx.thenR ?_
        refine Gx.thenR ?_
        refine Gx.blkR ?_
        refine Gx.thenR ?_
        refine Gx.ret1 Try.results10 rfl ?_
        exact congrArg Value.bool (Eq.symm (decide_eq_false (fun e => by subst e; rw [hx] at hy; cases hy; omega)))
      · refine Gx.skip ?_
        refine Gx.blkN ?_
        refine Gx.thenN ?_
        refine Gx.region ?_
        refine Gx.val rfl rfl rfl (val_move rfl rfl) ?_
        refine Gx.val rfl rfl rfl (val_add rfl rfl rfl (r := ((i + 1 : Nat) : Int)) (w64 (by omega) (by omega))) ?_
        refine Gx.val rfl rfl rfl (val_assign rfl rfl) ?_
        refine Gx.done ?_
        refine Gx.thenN ?_
        exact Gx.round (i + 1) ⟨by first | omega | (dsimp only; omega), by rw [take_snoc9 hx, take_snoc9 hy, htk]; congr 2; omega⟩ (by first | omega | (dsimp only; omega)) ((.cons rfl (.cons rfl (.cons rfl (.cons rfl .nil))))) rfl
    · refine Gx.exit ?_
      refine Gx.thenE ?_
      refine Gx.thenE ?_
      refine Gx.blkE ?_
      refine Gx.thenN ?_
      refine Gx.seq ?_
      refine Gx.region ?_
      refine Gx.val rfl rfl rfl (val_assign rfl rfl) ?_
      refine Gx.done ?_
      refine Gx.thenN ?_
      refine Gx.ret ?_
      refine Gx.ret1 Try.results10 rfl ?_
      exact congrArg Value.bool (by
        have e : xs = ys := by rw [List.take_of_length_le (by omega), List.take_of_length_le (by omega)] at htk; exact htk
        exact (decide_eq_true e).symm)

/-- a family -/
structure Fmly (n : Int) (q : List Nat) : Prop where
  lo : 1 ≤ n
  hi : n ≤ 12
  few : q.length ≤ 64
  some : 0 < q.length
  all : ∀ w ∈ q, w ≠ 0 ∧ w >>> n.toNat = 0
theorem fam1_any {W : World} {b x n : Nat} (hn : n ≤ 12) (hb : b < W.heap.size) (hbc : W.cell? ⟨b, 0, none⟩ = some (.int .i64 ((n : Nat) : Int))) :
    Calls Try.prog 30 #[.int .u32 ((x : Nat) : Int), ptr b 0] W fun e w' => e = .returned (.bool (decide (x = 0 ∨ x >>> n ≠ 0))) ∧ Below W.heap.size W w' := by
  refine calls_pure (Gx.enter (l := []) Try.func30 rfl Try.ntmps30 rfl (Sat.start W) ?_)
  refine Gx.know (m' := [(0, .int .u32 ((x : Nat) : Int)), (1, ptr b 0)]) (.cons rfl (.cons rfl .nil)) ?_
  refine Gx.seq ?_
  refine Gx.region ?_
  refine Gx.val rfl rfl rfl (val_assign rfl rfl) ?_
  refine Gx.done ?_
  refine Gx.thenN ?_
  refine Gx.seq ?_
  refine Gx.region ?_
  refine Gx.val rfl rfl rfl (val_move rfl rfl) ?_
  refine Gx.val rfl rfl rfl (val_eql rfl rfl rfl) ?_
  refine Gx.val rfl rfl rfl (val_move rfl rfl) ?_
  refine Gx.cases (t := 6) rfl (fun h1 => ?_) (fun h1 => ?_)
  · refine Gx.skipg rfl rfl rfl rfl rfl rfl ?_
    refine Gx.skipg rfl rfl rfl rfl rfl rfl ?_
    refine Gx.skipg rfl rfl rfl rfl rfl rfl ?_
    refine Gx.skipg rfl rfl rfl rfl rfl rfl ?_
    refine Gx.val rfl rfl rfl (val_pickT rfl rfl rfl) ?_
    refine Gx.val rfl rfl rfl (val_assign rfl rfl) ?_
    refine Gx.done ?_
    refine Gx.thenN ?_
    refine Gx.ret ?_
    refine Gx.ret1 Try.results30 rfl ?_
    exact congrArg Value.bool (by first | exact (decide_eq_true (.inl (by omega))).symm | exact decide_eq_decide.2 ⟨fun h => .inr (by omega), fun h => by rcases h with h | h <;> omega⟩)
  · refine Gx.valg rfl rfl rfl rfl rfl (val_move rfl rfl) ?_
    refine Gx.valg rfl rfl rfl rfl rfl (val_load rfl Try.ty3 rfl rfl (cell_old hb hbc)) ?_
    refine Gx.valg rfl rfl rfl rfl rfl (val_shr (b := n) rfl rfl rfl rfl (by show n ≤ 32; omega) (shr32 x n)) ?_
    refine Gx.valg rfl rfl rfl rfl rfl (val_neq rfl rfl rfl) ?_
    refine Gx.val rfl rfl rfl (val_pickF rfl rfl rfl) ?_
    refine Gx.val rfl rfl rfl (val_assign rfl rfl) ?_
    refine Gx.done ?_
    refine Gx.thenN ?_
    refine Gx.ret ?_
    refine Gx.ret1 Try.results30 rfl ?_
    exact congrArg Value.bool (by first | exact (decide_eq_true (.inl (by omega))).symm | exact decide_eq_decide.2 ⟨fun h => .inr (by omega), fun h => by rcases h with h | h <;> omega⟩)

theorem family_any {W : World} {n : Int} {qv : Value} {xs : List Nat} (hs : SlS FU 1 W qv xs) :
    Calls Try.prog 18 #[.int .i64 n, qv] W fun e w' => ∃ v, e = .returned v ∧ (∃ c : Int, v = .int .i64 c ∧ (c = 0 ↔ Fmly n xs)) ∧ Below W.heap.size W w' := by
  have hm9 := sls_bd hs
  refine calls_rel (R := fun v => ∃ c : Int, v = .int .i64 c ∧ (c = 0 ↔ Fmly n xs)) (Gx.enter (l := []) Try.func18 rfl Try.ntmps18 rfl (Sat.start W) ?_)
  refine Gx.know (m' := [(0, .int .i64 n), (1, qv)]) (.cons rfl (.cons rfl .nil)) ?_
  refine Gx.seq ?_
  refine Gx.region ?_
  refine Gx.eff rfl rfl rfl (eff_box rfl rfl (vs := [.int .i64 n]) rfl) ?_
  rintro _ _ ⟨b1, rfl, rfl⟩
  refine Gx.val rfl rfl rfl (val_assign rfl rfl) ?_
  refine Gx.done ?_
  refine Gx.thenN ?_
  refine Gx.seq ?_
  refine Gx.seq ?_
  refine Gx.region ?_
  refine Gx.val rfl rfl rfl (val_load rfl Try.ty3 rfl rfl (cell_rec (k := 0) rfl rfl)) ?_
  refine Gx.val rfl rfl rfl (val_lss rfl rfl rfl) ?_
  refine Gx.val rfl rfl rfl (val_move rfl rfl) ?_
  refine Gx.cases (t := 7) rfl (fun h2 => ?_) (fun h2 => ?_)
  · refine Gx.skipg rfl rfl rfl rfl rfl rfl ?_
    refine Gx.skipg rfl rfl rfl rfl rfl rfl ?_
    refine Gx.val rfl rfl rfl (val_pickT rfl rfl rfl) ?_
    refine Gx.val rfl rfl rfl (val_move rfl rfl) ?_
    refine Gx.skipg rfl rfl rfl rfl rfl rfl ?_
    refine Gx.skipg rfl rfl rfl rfl rfl rfl ?_
    refine Gx.skipg rfl rfl rfl rfl rfl rfl ?_
    refine Gx.val rfl rfl rfl (val_pickT rfl rfl rfl) ?_
    refine Gx.done ?_
    refine Gx.thenN ?_
    refine Gx.t rfl ?_
    refine Gx.seq ?_
    refine Gx.region ?_
    refine Gx.val rfl rfl rfl (val_assign rfl rfl) ?_
    refine Gx.done ?_
    refine Gx.thenN ?_
    refine Gx.ret ?_
    refine Gx.thenR ?_
    refine Gx.ret1 Try.results18 rfl ?_
    exact ⟨_, rfl, ⟨fun h => absurd h (by decide), fun h => by have h1 := h.lo; have h2 := h.hi; have h3 := h.few; have h4 := h.some; omega⟩⟩
  · refine Gx.valg rfl rfl rfl rfl rfl (val_load rfl Try.ty3 rfl rfl (cell_rec (k := 0) rfl rfl)) ?_
    refine Gx.valg rfl rfl rfl rfl rfl (val_gtr rfl rfl rfl) ?_
    refine Gx.val rfl rfl rfl (val_pickF rfl rfl rfl) ?_
    refine Gx.val rfl rfl rfl (val_move rfl rfl) ?_
    refine Gx.cases (t := 11) rfl (fun h3 => ?_) (fun h3 => ?_)
    · refine Gx.skipg rfl rfl rfl rfl rfl rfl ?_
      refine Gx.skipg rfl rfl rfl rfl rfl rfl ?_
      refine Gx.skipg rfl rfl rfl rfl rfl rfl ?_
      refine Gx.val rfl rfl rfl (val_pickT rfl rfl rfl) ?_
      refine Gx.done ?_
      refine Gx.thenN ?_
      refine Gx.t rfl ?_
      refine Gx.seq ?_
      refine Gx.region ?_
      refine Gx.val rfl rfl rfl (val_assign rfl rfl) ?_
      refine Gx.done ?_
      refine Gx.thenN ?_
      refine Gx.ret ?_
      refine Gx.thenR ?_
      refine Gx.ret1 Try.results18 rfl ?_
      exact ⟨_, rfl, ⟨fun h => absurd h (by decide), fun h => by have h1 := h.lo; have h2 := h.hi; have h3 := h.few; have h4 := h.some; omega⟩⟩
    · refine Gx.valg rfl rfl rfl rfl rfl (val_move rfl rfl) ?_
      refine Gx.valg rfl rfl rfl rfl rfl (val_len rfl Try.underlying22 rfl (len_base hs)) ?_
      refine Gx.valg rfl rfl rfl rfl rfl (val_gtr rfl rfl rfl) ?_
      refine Gx.val rfl rfl rfl (val_pickF rfl rfl rfl) ?_
      refine Gx.done ?_
      refine Gx.thenN ?_
      refine Gx.dec rfl (fun h4 => ?_) (fun h4 => ?_)
      · refine Gx.seq ?_
        refine Gx.region ?_
        refine Gx.val rfl rfl rfl (val_assign rfl rfl) ?_
        refine Gx.done ?_
        refine Gx.thenN ?_
        refine Gx.ret ?_
        refine Gx.thenR ?_
        refine Gx.ret1 Try.results18 rfl ?_
        exact ⟨_, rfl, ⟨fun h => absurd h (by decide), fun h => by have h1 := h.lo; have h2 := h.hi; have h3 := h.few; have h4 := h.some; omega⟩⟩
      · refine Gx.skip ?_
        refine Gx.thenN ?_
        refine Gx.seq ?_
        refine Gx.seq ?_
        refine Gx.region ?_
        refine Gx.val rfl rfl rfl (val_move rfl rfl) ?_
        refine Gx.val rfl rfl rfl (val_len rfl Try.underlying22 rfl (len_base hs)) ?_
        refine Gx.val rfl rfl rfl (val_eql rfl rfl rfl) ?_
        refine Gx.done ?_
        refine Gx.thenN ?_
        refine Gx.dec rfl (fun h5 => ?_) (fun h5 => ?_)
        · refine Gx.seq ?_
          refine Gx.region ?_
          refine Gx.val rfl rfl rfl (val_assign rfl rfl) ?_
          refine Gx.done ?_
          refine Gx.thenN ?_
          refine Gx.ret ?_
          refine Gx.thenR ?_
          refine Gx.ret1 Try.results18 rfl ?_
          exact ⟨_, rfl, ⟨fun h => absurd h (by decide), fun h => by have h1 := h.lo; have h2 := h.hi; have h3 := h.few; have h4 := h.some; omega⟩⟩
        · refine Gx.skip ?_
          refine Gx.thenN ?_
          refine Gx.seq ?_
          refine Gx.seq ?_
          obtain ⟨m, rfl⟩ : ∃ m : Nat, n = (m : Int) := ⟨n.toNat, by omega⟩
          refine Gx.region ?_
          refine Gx.val rfl rfl rfl (val_move rfl rfl) ?_
          refine Gx.val rfl rfl rfl (Val.cast (val_makeFunc (us := []) (vs := [ptr b1 0]) rfl rfl rfl) (v' := .func (.func 30) #[] #[ptr b1 0]) rfl) ?_
          refine Gx.val rfl rfl rfl (val_call (vs := [qv, .func (.func 30) #[] #[ptr b1 0]]) rfl Try.fn27 rfl (fun w H => contains_any30 (q := fun x => decide (x = 0 ∨ x >>> m ≠ 0)) (hs.below H.below) (fun w' hb' y hy' => fam1_any (by omega) (Nat.lt_of_lt_of_le (H.at_ (k := 0) rfl).rec_.1 hb'.size) ((hb'.cell (p := ⟨b1, 0, none⟩) (H.at_ (k := 0) rfl).rec_.1).trans ((H.at_ (k := 0) rfl).cell 0 (u := .int .i64 ((m : Nat) : Int)) rfl))))) ?_
          refine Gx.done ?_
          refine Gx.thenN ?_
          refine Gx.bool rfl (fun h6 => ?_) (fun h6 => ?_)
          · refine Gx.seq ?_
            refine Gx.region ?_
            refine Gx.val rfl rfl rfl (val_assign rfl rfl) ?_
            refine Gx.done ?_
            refine Gx.thenN ?_
            refine Gx.ret ?_
            refine Gx.thenR ?_
            refine Gx.ret1 Try.results18 rfl ?_
            exact ⟨_, rfl, ⟨fun h => absurd h (by decide), fun h => by
              exfalso
              have h9 : (xs.any fun x => decide (x = 0 ∨ x >>> m ≠ 0)) = true := by assumption
              obtain ⟨w, hw, h8⟩ := List.any_eq_true.1 h9
              have := h.all w hw
              rw [Int.toNat_natCast] at this
              rcases of_decide_eq_true h8 with h7 | h7
              · exact this.1 h7
              · exact h7 this.2⟩⟩
          · refine Gx.skip ?_
            refine Gx.thenN ?_
            refine Gx.seq ?_
            refine Gx.region ?_
            refine Gx.val rfl rfl rfl (val_assign rfl rfl) ?_
            refine Gx.done ?_
            refine Gx.thenN ?_
            refine Gx.ret ?_
            refine Gx.ret1 Try.results18 rfl ?_
            exact ⟨_, rfl, ⟨fun _ => ⟨by omega, by omega, by omega, by omega, fun w hw => by
              have h9 : ¬ (w = 0 ∨ w >>> m ≠ 0) := fun h => by
                have : (xs.any fun x => decide (x = 0 ∨ x >>> m ≠ 0)) = true := List.any_eq_true.2 ⟨w, hw, decide_eq_true h⟩
                simp_all
              rw [Int.toNat_natCast]
              exact ⟨fun h => h9 (.inl h), Classical.byContradiction fun h => h9 (.inr h)⟩⟩, fun _ => rfl⟩⟩

end Go.Proofs.Ytpjkpnfelpfhaaa
