/- Who has given a round up; who agrees to a block? The walks. No condition. -/
import Derived.Test.YtfeeociajllbhaaDoorMA3
import Derived.Test.YtfeeociajllbhaaDoorW2
namespace Go.Proofs.YtfeeociajllbhaaDoor.Mt
open Go.RowKit
set_option linter.unusedVariables false
set_option linter.unusedSimpArgs false
set_option maxRecDepth 100000

theorem shl1 {i : Nat} (h : i < 32) : IntKind.u32.wrap ((1 : Int) * 2 ^ i) = ((2 ^ i : Nat) : Int) :=
  shl32 (a := 1) (Nat.one_mul _) (Nat.pow_lt_pow_right (by decide : 1 < 2) h)
theorem pow128 {i : Nat} (h : i < 7) : 2 ^ i < 128 := Nat.pow_lt_pow_right (by decide : 1 < 2) h
theorem or128 {a b : Nat} (ha : a < 128) (hb : b < 128) : a ||| b < 128 := Nat.or_lt_two_pow (n := 7) ha hb
theorem told_perm {left rest : Lt} {a : (Sm × Sm × Sm) × Int} (hp : left.Perm (a :: rest)) (r h i : Nat) : toldM left r h i = (decide (a.1.1.val = r ∧ a.1.2.2.val ≤ h ∧ a.1.2.1.val = i) || toldM rest r h i) := by
  rw [Bool.eq_iff_iff]
  unfold toldM
  simp only [Bool.or_eq_true, List.any_eq_true, decide_eq_true_iff, hp.mem_iff, List.mem_cons]
  constructor
  · rintro ⟨e, rfl | he, h⟩
    · exact .inl h
    · exact .inr ⟨e, he, h⟩
  · rintro (h | ⟨e, he, h⟩)
    · exact ⟨a, .inl rfl, h⟩
    · exact ⟨e, .inr he, h⟩
theorem told_yes {left rest : Lt} {a : (Sm × Sm × Sm) × Int} (hp : left.Perm (a :: rest)) {r h acc : Nat} {all : Nat → Bool} (h1 : a.1.1.val = r) (h2 : a.1.2.2.val ≤ h) (H : ∀ i, (acc.testBit i || toldM left r h i) = all i) (i : Nat) : ((acc ||| 2 ^ a.1.2.1.val).testBit i || toldM rest r h i) = all i := by
  rw [← H i, told_perm hp, Nat.testBit_or, Nat.testBit_two_pow, Bool.or_assoc]
  congr 2
  rw [decide_eq_decide]
  exact ⟨fun q => ⟨h1, h2, q⟩, fun q => q.2.2⟩
theorem told_no {left rest : Lt} {a : (Sm × Sm × Sm) × Int} (hp : left.Perm (a :: rest)) {r h acc : Nat} {all : Nat → Bool} (h1 : ¬ (a.1.1.val = r ∧ a.1.2.2.val ≤ h)) (H : ∀ i, (acc.testBit i || toldM left r h i) = all i) (i : Nat) : (acc.testBit i || toldM rest r h i) = all i := by
  rw [← H i, told_perm hp, decide_eq_false (fun q => h1 ⟨q.1, q.2.1⟩), Bool.false_or]
theorem pass_pop {c : MC} {s : MS} {r h acc : Nat} (H : ∀ i, (acc.testBit i || toldM [] r h i) = toldM s.lt r h i) : decide (((c.need : Nat) : Int) ≤ ((pop acc : Nat) : Int)) = passM c s r h := by
  have : pop acc = ((List.range 32).filter fun i => toldM s.lt r h i).length := by
    unfold pop; congr 2; funext i; rw [← H i]; unfold toldM; simp
  unfold passM
  rw [← this, decide_eq_decide]
  omega
theorem passed_any {W w : World} {S r h : Nat} {c : MC} {s : MS} {bv vv mv : Value} {lb gb : Nat} {R : Hp} (ok : OkM c) (hlt : ∀ e ∈ s.lt, e.1.2.1.val < c.n) (H : Sat W w (recS S c bv vv mv lb gb * (mapL lb s.lt * R))) :
    Calls Tryd.prog 39 #[ptr S 0, .int .i64 ((r : Nat) : Int), .int .i64 ((h : Nat) : Int)] w (Ret W fun v l => v = .bool (passM c s r h) ∧ sep l = recS S c bv vv mv lb gb * (mapL lb s.lt * R)) := by
  refine Gx.enter (l := [Hp.rec_ S [.int .i64 ((c.n : Nat) : Int), .int .i64 ((c.need : Nat) : Int), .int .u32 ((c.L : Nat) : Int), bv, vv, mv, .map (some lb), .map (some gb)], Hp.map Tryd.prog 92 tripL vI lb s.lt, R]) Tryd.func39 rfl Tryd.ntmps39 rfl (H.frame2) ?_
  refine Gx.know (m' := [(0, ptr S 0), (1, .int .i64 ((r : Nat) : Int)), (2, .int .i64 ((h : Nat) : Int))]) (.cons rfl (.cons rfl (.cons rfl .nil))) ?_
  refine Gx.seq ?_
  refine Gx.region ?_
  refine Gx.val rfl rfl rfl (val_assign rfl rfl) ?_
  refine Gx.done ?_
  refine Gx.thenN ?_
  refine Gx.seq ?_
  refine Gx.region ?_
  refine Gx.val rfl rfl rfl (val_assign rfl rfl) ?_
  refine Gx.done ?_
  refine Gx.thenN ?_
  refine Gx.seq ?_
  refine Gx.seq ?_
  refine Gx.region ?_
  refine Gx.val rfl rfl rfl (val_move rfl rfl) ?_
  refine Gx.val rfl rfl rfl (val_nilCheck rfl rfl) ?_
  refine Gx.val rfl rfl rfl (Val.cast (val_fieldAddr rfl Tryd.underlying53 rfl Tryd.ty50 rfl rfl) (v' := ptr S 6) rfl) ?_
  refine Gx.val rfl rfl rfl (val_load rfl Tryd.ty50 rfl rfl (cell_rec (k := 0) rfl rfl)) ?_
  refine Gx.eff rfl rfl rfl (eff_range rfl Tryd.underlying50 rfl (k := 1) rfl) ?_
  rintro _ _ ⟨r1, rfl, rfl⟩
  refine Gx.norm (l' := [Hp.rec_ S [.int .i64 ((c.n : Nat) : Int), .int .i64 ((c.need : Nat) : Int), .int .u32 ((c.L : Nat) : Int), bv, vv, mv, .map (some lb), .map (some gb)], Hp.iter Tryd.prog 92 tripL vI lb r1 s.lt s.lt, R]) rfl ?_
  refine Gx.done ?_
  refine Gx.thenN ?_
  refine Gx.block ?_
  refine Gx.loop (ι := Lt × Nat) (fun ξ => (∀ i, (ξ.2.testBit i || toldM ξ.1 r h i) = toldM s.lt r h i) ∧ (∀ e ∈ ξ.1, e.1.2.1.val < c.n) ∧ (ξ.2 < 128)) (fun ξ => [(0, ptr S 0), (1, .int .i64 ((r : Nat) : Int)), (2, .int .i64 ((h : Nat) : Int)), (13, ptr r1 0), (7, .int .u32 ((ξ.2 : Nat) : Int))]) (fun ξ => [Hp.rec_ S [.int .i64 ((c.n : Nat) : Int), .int .i64 ((c.need : Nat) : Int), .int .u32 ((c.L : Nat) : Int), bv, vv, mv, .map (some lb), .map (some gb)], Hp.iter Tryd.prog 92 tripL vI lb r1 s.lt ξ.1, R]) (fun ξ => ξ.1.length) (s.lt, 0) ⟨fun i => by simp, hlt, by show (0 : Nat) < 128; decide⟩ ((.cons rfl (.cons rfl (.cons rfl (.cons rfl (.cons rfl .nil)))))) rfl ?_
  rintro ⟨left, acc⟩ ⟨ha, hm, hacc⟩
  dsimp only at ha hm hacc
  refine Gx.know (m' := [(0, ptr S 0), (1, .int .i64 ((r : Nat) : Int)), (2, .int .i64 ((h : Nat) : Int)), (13, ptr r1 0), (7, .int .u32 ((acc : Nat) : Int))]) (.cons rfl (.cons rfl (.cons rfl (.cons rfl (.cons rfl .nil))))) (Gx.norm (l' := [Hp.rec_ S [.int .i64 ((c.n : Nat) : Int), .int .i64 ((c.need : Nat) : Int), .int .u32 ((c.L : Nat) : Int), bv, vv, mv, .map (some lb), .map (some gb)], Hp.iter Tryd.prog 92 tripL vI lb r1 s.lt left, R]) rfl ?_)
  refine Gx.seq ?_
  refine Gx.region ?_
  refine Gx.eff rfl rfl rfl (eff_next (kf := tripV) rfl Tryd.kkT (fun _ _ => trivial) rfl (k := 1) rfl) ?_
  rintro _ _ (⟨hl2, rfl, rfl⟩ | ⟨ka3, xv4, rs5, hp6, rfl, rfl⟩)
  · refine Gx.norm (l' := [Hp.rec_ S [.int .i64 ((c.n : Nat) : Int), .int .i64 ((c.need : Nat) : Int), .int .u32 ((c.L : Nat) : Int), bv, vv, mv, .map (some lb), .map (some gb)], Hp.map Tryd.prog 92 tripL vI lb s.lt, R]) rfl ?_
    refine Gx.val rfl rfl rfl (val_extract rfl rfl rfl) ?_
    refine Gx.done ?_
    refine Gx.thenN ?_
    refine Gx.seq ?_
    refine Gx.f rfl ?_
    refine Gx.exit ?_
    refine Gx.thenE ?_
    refine Gx.thenE ?_
    refine Gx.blkE ?_
    refine Gx.thenN ?_
    refine Gx.seq ?_
    rw [hl2] at ha
    refine Gx.regionQ Tryd.mixed (by kernel_rfl) ?_
    refine Gq.val rfl rfl rfl (val_move rfl rfl) ?_
    refine Gq.val rfl rfl rfl (val_call (vs := [.int .u32 ((acc : Nat) : Int)]) rfl Tryd.fn20 rfl (fun w H => pop_any (x := acc) (by first | assumption | omega))) ?_
    refine Gq.val rfl rfl rfl (val_move rfl rfl) ?_
    refine Gq.val rfl rfl rfl (val_nilCheck rfl rfl) ?_
    refine Gq.val rfl rfl rfl (Val.cast (val_fieldAddr rfl Tryd.underlying53 rfl Tryd.ty3 rfl rfl) (v' := ptr S 1) rfl) ?_
    refine Gq.val rfl rfl rfl (val_load rfl Tryd.ty3 rfl rfl (cell_rec (k := 0) rfl rfl)) ?_
    refine Gq.val rfl rfl rfl (val_geq rfl rfl rfl) ?_
    refine Gq.val rfl rfl rfl (val_assign rfl rfl) ?_
    refine Gq.done ?_
    refine Gx.thenN ?_
    refine Gx.ret ?_
    refine Gx.front 1 rfl ?_
    refine Gx.front 1 rfl ?_
    refine Gx.ret1 Tryd.results39 rfl ?_
    exact ⟨congrArg Value.bool (pass_pop ha), sep2 _ _ _⟩
  · refine Gx.norm (l' := [Hp.rec_ S [.int .i64 ((c.n : Nat) : Int), .int .i64 ((c.need : Nat) : Int), .int .u32 ((c.L : Nat) : Int), bv, vv, mv, .map (some lb), .map (some gb)], Hp.iterE Tryd.prog 92 tripL vI tripV lb r1 s.lt rs5 ka3 xv4, R]) rfl ?_
    refine Gx.val rfl rfl rfl (val_extract rfl rfl rfl) ?_
    refine Gx.done ?_
    refine Gx.thenN ?_
    refine Gx.seq ?_
    refine Gx.t rfl ?_
    refine Gx.skip ?_
    refine Gx.thenN ?_
    refine Gx.block ?_
    refine Gx.seq ?_
    have e8 : ka3.2.1.val < c.n := hm _ (hp6.mem_iff.2 List.mem_cons_self)
    have e7 := ok.n7
    refine Gx.region ?_
    refine Gx.eff rfl rfl rfl (eff_entry rfl rfl (k := 1) rfl) ?_
    rintro _ _ ⟨rfl, rfl⟩
    refine Gx.norm (l' := [Hp.rec_ S [.int .i64 ((c.n : Nat) : Int), .int .i64 ((c.need : Nat) : Int), .int .u32 ((c.L : Nat) : Int), bv, vv, mv, .map (some lb), .map (some gb)], Hp.iter Tryd.prog 92 tripL vI lb r1 s.lt rs5, R]) rfl ?_
    refine Gx.val rfl rfl rfl (val_extract rfl rfl rfl) ?_
    refine Gx.eff rfl rfl rfl (eff_alloc rfl Tryd.ty92 (vs := [.int .i64 0, .int .i64 0, .int .i64 0]) rfl) ?_
    rintro _ _ ⟨b7, rfl, rfl⟩
    refine Gx.eff0 rfl rfl (eff_store rfl Tryd.ty92 rfl rfl (us := [.int .i64 ((ka3.1.val : Nat) : Int), .int .i64 ((ka3.2.1.val : Nat) : Int), .int .i64 ((ka3.2.2.val : Nat) : Int)]) rfl rfl rfl (k := 0) rfl (rfl) (vs' := [.int .i64 ((ka3.1.val : Nat) : Int), .int .i64 ((ka3.2.1.val : Nat) : Int), .int .i64 ((ka3.2.2.val : Nat) : Int)]) (rfl) (l' := [Hp.rec_ b7 [.int .i64 ((ka3.1.val : Nat) : Int), .int .i64 ((ka3.2.1.val : Nat) : Int), .int .i64 ((ka3.2.2.val : Nat) : Int)], Hp.rec_ S [.int .i64 ((c.n : Nat) : Int), .int .i64 ((c.need : Nat) : Int), .int .u32 ((c.L : Nat) : Int), bv, vv, mv, .map (some lb), .map (some gb)], Hp.iter Tryd.prog 92 tripL vI lb r1 s.lt rs5, R]) rfl) ?_
    rintro _ _ rfl
    refine Gx.done ?_
    refine Gx.thenN ?_
    refine Gx.seq ?_
    refine Gx.region ?_
    refine Gx.val rfl rfl rfl (Val.cast (val_fieldAddr rfl Tryd.underlying92 rfl Tryd.ty3 rfl rfl) (v' := ptr b7 0) rfl) ?_
    refine Gx.val rfl rfl rfl (val_load rfl Tryd.ty3 rfl rfl (cell_rec (k := 0) rfl rfl)) ?_
    refine Gx.val rfl rfl rfl (val_move rfl rfl) ?_
    refine Gx.val rfl rfl rfl (val_eql rfl rfl rfl) ?_
    refine Gx.val rfl rfl rfl (val_move rfl rfl) ?_
    refine Gx.cases (t := 22) rfl (fun h8 => ?_) (fun h8 => ?_)
    · refine Gx.valg rfl rfl rfl rfl rfl (Val.cast (val_fieldAddr rfl Tryd.underlying92 rfl Tryd.ty3 rfl rfl) (v' := ptr b7 2) rfl) ?_
      refine Gx.valg rfl rfl rfl rfl rfl (val_load rfl Tryd.ty3 rfl rfl (cell_rec (k := 0) rfl rfl)) ?_
      refine Gx.valg rfl rfl rfl rfl rfl (val_move rfl rfl) ?_
      refine Gx.valg rfl rfl rfl rfl rfl (val_leq rfl rfl rfl) ?_
      refine Gx.val rfl rfl rfl (val_pickT rfl rfl rfl) ?_
      refine Gx.done ?_
      refine Gx.thenN ?_
      refine Gx.dec rfl (fun h9 => ?_) (fun h9 => ?_)
      · refine Gx.region ?_
        refine Gx.val rfl rfl rfl (val_move rfl rfl) ?_
        refine Gx.val rfl rfl rfl (Val.cast (val_fieldAddr rfl Tryd.underlying92 rfl Tryd.ty3 rfl rfl) (v' := ptr b7 1) rfl) ?_
        refine Gx.val rfl rfl rfl (val_load rfl Tryd.ty3 rfl rfl (cell_rec (k := 0) rfl rfl)) ?_
        refine Gx.val rfl rfl rfl (val_shl (b := ka3.2.1.val) rfl rfl rfl rfl (by show ka3.2.1.val ≤ 32; omega) (shl1 (by omega))) ?_
        refine Gx.val rfl rfl rfl (val_or rfl rfl rfl (or32 (by omega) (Nat.lt_trans (pow128 (by omega)) (by decide)))) ?_
        refine Gx.val rfl rfl rfl (val_assign rfl rfl) ?_
        refine Gx.done ?_
        refine Gx.blkN ?_
        refine Gx.thenN ?_
        refine Gx.drop 0 rfl ?_
        exact Gx.round (rs5, acc ||| (2 ^ ka3.2.1.val)) ⟨told_yes hp6 (by dsimp only at *; omega) (by dsimp only at *; omega) ha, fun e he => hm e (hp6.mem_iff.2 (List.mem_cons_of_mem _ he)), or128 hacc (pow128 (by omega))⟩ (by have e9 := hp6.length_eq; simp only [List.length_cons] at e9; dsimp only at e9 ⊢; omega) ((.cons rfl (.cons rfl (.cons rfl (.cons rfl (.cons rfl .nil)))))) rfl
      · refine Gx.skip ?_
        refine Gx.blkN ?_
        refine Gx.thenN ?_
        refine Gx.drop 0 rfl ?_
        exact Gx.round (rs5, acc) ⟨told_no hp6 (by rintro ⟨q1, q2⟩; dsimp only at q1 q2; omega) ha, fun e he => hm e (hp6.mem_iff.2 (List.mem_cons_of_mem _ he)), hacc⟩ (by have e9 := hp6.length_eq; simp only [List.length_cons] at e9; dsimp only at e9 ⊢; omega) ((.cons rfl (.cons rfl (.cons rfl (.cons rfl (.cons rfl .nil)))))) rfl
    · refine Gx.skipg rfl rfl rfl rfl rfl rfl ?_
      refine Gx.skipg rfl rfl rfl rfl rfl rfl ?_
      refine Gx.skipg rfl rfl rfl rfl rfl rfl ?_
      refine Gx.skipg rfl rfl rfl rfl rfl rfl ?_
      refine Gx.val rfl rfl rfl (val_pickF rfl rfl rfl) ?_
      refine Gx.done ?_
      refine Gx.thenN ?_
      refine Gx.f rfl ?_
      refine Gx.skip ?_
      refine Gx.blkN ?_
      refine Gx.thenN ?_
      refine Gx.drop 0 rfl ?_
      exact Gx.round (rs5, acc) ⟨told_no hp6 (by rintro ⟨q1, q2⟩; dsimp only at q1 q2; omega) ha, fun e he => hm e (hp6.mem_iff.2 (List.mem_cons_of_mem _ he)), hacc⟩ (by have e9 := hp6.length_eq; simp only [List.length_cons] at e9; dsimp only at e9 ⊢; omega) ((.cons rfl (.cons rfl (.cons rfl (.cons rfl (.cons rfl .nil)))))) rfl

theorem agrees_any {W w : World} {S i b T : Nat} {c : MC} {s : MS} {bv vv mv : Value} {lb gb : Nat} {R : Hp} (ok : OkM c) (bd : BdM T c s) (hi : i < c.n) (hb0 : 0 < b) (hbl : b < s.bl.length) (H : Sat W w (recS S c bv vv mv lb gb * (Hp.own FK 2 bv s.bl * (Hp.own FR 2 mv s.ms * (mapL lb s.lt * R))))) :
    Calls Tryd.prog 32 #[ptr S 0, .int .i64 ((i : Nat) : Int), .int .i64 ((b : Nat) : Int)] w (Ret W fun v l => v = .bool (agreesM c s i b) ∧ sep l = recS S c bv vv mv lb gb * (Hp.own FK 2 bv s.bl * (Hp.own FR 2 mv s.ms * (mapL lb s.lt * R)))) := by
  refine Gx.enter (l := [Hp.rec_ S [.int .i64 ((c.n : Nat) : Int), .int .i64 ((c.need : Nat) : Int), .int .u32 ((c.L : Nat) : Int), bv, vv, mv, .map (some lb), .map (some gb)], Hp.own FK 2 bv s.bl, Hp.own FR 2 mv s.ms, Hp.map Tryd.prog 92 tripL vI lb s.lt, R]) Tryd.func32 rfl Tryd.ntmps32 rfl (H.frame4) ?_
  refine Gx.know (m' := [(0, ptr S 0), (1, .int .i64 ((i : Nat) : Int)), (2, .int .i64 ((b : Nat) : Int))]) (.cons rfl (.cons rfl (.cons rfl .nil))) ?_
  refine Gx.seq ?_
  refine Gx.region ?_
  refine Gx.val rfl rfl rfl (val_assign rfl rfl) ?_
  refine Gx.done ?_
  refine Gx.thenN ?_
  refine Gx.seq ?_
  obtain ⟨x, hx⟩ := get_of_lt (xs := s.bl) (k := b) hbl
  obtain ⟨p, y, hpe, hpb, hy, hyr⟩ := bd.par b x hb0 hx
  obtain ⟨m, hm⟩ := get_of_lt (xs := s.ms) (k := i) (by rw [bd.mlen]; exact hi)
  have hx9 := bd.rnd _ _ hx
  have eR : rndM s b = x.rnd := by unfold rndM; rw [hx]; rfl
  have eP : parM s b = p := by unfold parM; rw [hx]; show x.par.toNat = p; rw [hpe]; rfl
  have eY : rndM s p = y.rnd := by unfold rndM; rw [hy]; rfl
  have eM : memM s i = m := by unfold memM; rw [hm]; rfl
  refine Gx.regionQ Tryd.mixed (by kernel_rfl) ?_
  refine Gq.val rfl rfl rfl (val_move rfl rfl) ?_
  refine Gq.val rfl rfl rfl (val_nilCheck rfl rfl) ?_
  refine Gq.val rfl rfl rfl (Val.cast (val_fieldAddr rfl Tryd.underlying53 rfl Tryd.ty27 rfl rfl) (v' := ptr S 3) rfl) ?_
  refine Gq.val rfl rfl rfl (val_load rfl Tryd.ty27 rfl rfl (cell_rec (k := 0) rfl rfl)) ?_
  refine Gq.val rfl rfl rfl (val_move rfl rfl) ?_
  refine Gq.val rfl rfl rfl (val_ixa rfl Tryd.underlying27 Tryd.ty47 rfl rfl (j := b) (rfl) (reach_own (k := 1) rfl hx)) ?_
  refine Gq.val rfl rfl rfl (Val.cast (val_fieldAddr rfl Tryd.underlying47 rfl Tryd.ty3 rfl rfl) (v' := ptr (sB bv) (sO bv + b * 2 + 1)) rfl) ?_
  refine Gq.val rfl rfl rfl (val_load rfl Tryd.ty3 rfl rfl (cell_own (i := 1) (k := 1) rfl hx rfl)) ?_
  refine Gq.val rfl rfl rfl (val_move rfl rfl) ?_
  refine Gq.val rfl rfl rfl (val_nilCheck rfl rfl) ?_
  refine Gq.val rfl rfl rfl (Val.cast (val_fieldAddr rfl Tryd.underlying53 rfl Tryd.ty27 rfl rfl) (v' := ptr S 3) rfl) ?_
  refine Gq.val rfl rfl rfl (val_load rfl Tryd.ty27 rfl rfl (cell_rec (k := 0) rfl rfl)) ?_
  refine Gq.val rfl rfl rfl (val_move rfl rfl) ?_
  refine Gq.val rfl rfl rfl (val_nilCheck rfl rfl) ?_
  refine Gq.val rfl rfl rfl (Val.cast (val_fieldAddr rfl Tryd.underlying53 rfl Tryd.ty27 rfl rfl) (v' := ptr S 3) rfl) ?_
  refine Gq.val rfl rfl rfl (val_load rfl Tryd.ty27 rfl rfl (cell_rec (k := 0) rfl rfl)) ?_
  refine Gq.val rfl rfl rfl (val_move rfl rfl) ?_
  refine Gq.val rfl rfl rfl (val_ixa rfl Tryd.underlying27 Tryd.ty47 rfl rfl (j := b) (rfl) (reach_own (k := 1) rfl hx)) ?_
  refine Gq.val rfl rfl rfl (Val.cast (val_fieldAddr rfl Tryd.underlying47 rfl Tryd.ty3 rfl rfl) (v' := ptr (sB bv) (sO bv + b * 2)) rfl) ?_
  refine Gq.val rfl rfl rfl (val_load rfl Tryd.ty3 rfl rfl (cell_own (i := 0) (k := 1) rfl hx rfl)) ?_
  refine Gq.val rfl rfl rfl (val_ixa rfl Tryd.underlying27 Tryd.ty47 rfl rfl (j := p) (hpe) (reach_own (k := 1) rfl hy)) ?_
  refine Gq.val rfl rfl rfl (Val.cast (val_fieldAddr rfl Tryd.underlying47 rfl Tryd.ty3 rfl rfl) (v' := ptr (sB bv) (sO bv + p * 2 + 1)) rfl) ?_
  refine Gq.val rfl rfl rfl (val_load rfl Tryd.ty3 rfl rfl (cell_own (i := 1) (k := 1) rfl hy rfl)) ?_
  refine Gq.val rfl rfl rfl (val_assign rfl rfl) ?_
  refine Gq.val rfl rfl rfl (val_assign rfl rfl) ?_
  refine Gq.done ?_
  refine Gx.thenN ?_
  refine Gx.seq ?_
  refine Gx.region ?_
  refine Gx.val rfl rfl rfl (val_move rfl rfl) ?_
  refine Gx.val rfl rfl rfl (val_move rfl rfl) ?_
  refine Gx.val rfl rfl rfl (val_nilCheck rfl rfl) ?_
  refine Gx.val rfl rfl rfl (Val.cast (val_fieldAddr rfl Tryd.underlying53 rfl Tryd.ty49 rfl rfl) (v' := ptr S 5) rfl) ?_
  refine Gx.val rfl rfl rfl (val_load rfl Tryd.ty49 rfl rfl (cell_rec (k := 0) rfl rfl)) ?_
  refine Gx.val rfl rfl rfl (val_move rfl rfl) ?_
  refine Gx.val rfl rfl rfl (val_ixa rfl Tryd.underlying49 Tryd.ty90 rfl rfl (j := i) (rfl) (reach_own (k := 2) rfl hm)) ?_
  refine Gx.val rfl rfl rfl (Val.cast (val_fieldAddr rfl Tryd.underlying90 rfl Tryd.ty3 rfl rfl) (v' := ptr (sB mv) (sO mv + i * 2)) rfl) ?_
  refine Gx.val rfl rfl rfl (val_load rfl Tryd.ty3 rfl rfl (cell_own (i := 0) (k := 2) rfl hm rfl)) ?_
  refine Gx.val rfl rfl rfl (val_gtr rfl rfl rfl) ?_
  refine Gx.val rfl rfl rfl (val_move rfl rfl) ?_
  refine Gx.cases (t := 42) rfl (fun h1 => ?_) (fun h1 => ?_)
  · refine Gx.valg rfl rfl rfl rfl rfl (val_move rfl rfl) ?_
    refine Gx.valg rfl rfl rfl rfl rfl (val_move rfl rfl) ?_
    refine Gx.valg rfl rfl rfl rfl rfl (val_sub rfl rfl rfl (r := ((x.rnd - 1 : Nat) : Int)) (w64 (by omega) (by omega))) ?_
    refine Gx.valg rfl rfl rfl rfl rfl (val_eql rfl rfl rfl) ?_
    refine Gx.valg rfl rfl rfl rfl rfl (val_move rfl rfl) ?_
    refine Gx.cases (t := 47) rfl (fun h2 => ?_) (fun h2 => ?_)
    · refine Gx.skipg rfl rfl rfl rfl rfl rfl ?_
      refine Gx.skipg rfl rfl rfl rfl rfl rfl ?_
      refine Gx.skipg rfl rfl rfl rfl rfl rfl ?_
      refine Gx.skipg rfl rfl rfl rfl rfl rfl ?_
      refine Gx.skipg rfl rfl rfl rfl rfl rfl ?_
      refine Gx.valg rfl rfl rfl rfl rfl (val_pickT rfl rfl rfl) ?_
      refine Gx.val rfl rfl rfl (val_pickT rfl rfl rfl) ?_
      refine Gx.val rfl rfl rfl (val_assign rfl rfl) ?_
      refine Gx.done ?_
      refine Gx.thenN ?_
      refine Gx.ret ?_
      refine Gx.front 3 rfl ?_
      refine Gx.front 3 rfl ?_
      refine Gx.front 3 rfl ?_
      refine Gx.front 3 rfl ?_
      refine Gx.ret1 Tryd.results32 rfl ?_
      exact ⟨congrArg Value.bool (by unfold agreesM; rw [eP, eR, eY, eM]; exact Eq.symm (decide_eq_true ⟨by omega, .inl (by omega)⟩)), sep4 _ _ _ _ _⟩
    · refine Gx.valg rfl rfl rfl rfl rfl (val_move rfl rfl) ?_
      refine Gx.valg rfl rfl rfl rfl rfl (val_move rfl rfl) ?_
      refine Gx.valg rfl rfl rfl rfl rfl (val_sub rfl rfl rfl (r := ((x.rnd - 1 : Nat) : Int)) (w64 (by omega) (by omega))) ?_
      refine Gx.valg rfl rfl rfl rfl rfl (val_move rfl rfl) ?_
      refine Gx.effg rfl rfl rfl rfl rfl (eff_call (vs := [ptr S 0, .int .i64 ((x.rnd - 1 : Nat) : Int), .int .i64 ((y.rnd : Nat) : Int)]) rfl Tryd.fn39 rfl (fun w H => passed_any (s := s) (r := x.rnd - 1) (h := y.rnd) ok bd.lt (H.at2 (k := 0) (k' := 2) rfl rfl))) ?_
      rintro _ l3 ⟨rfl, hl3⟩
      refine Gx.sepEq (l' := [Hp.rec_ S [.int .i64 ((c.n : Nat) : Int), .int .i64 ((c.need : Nat) : Int), .int .u32 ((c.L : Nat) : Int), bv, vv, mv, .map (some lb), .map (some gb)], Hp.map Tryd.prog 92 tripL vI lb s.lt, Hp.own FK 2 bv s.bl, Hp.own FR 2 mv s.ms, R]) hl3 ?_
      refine Gx.valg rfl rfl rfl rfl rfl (val_pickF rfl rfl rfl) ?_
      refine Gx.val rfl rfl rfl (val_pickT rfl rfl rfl) ?_
      refine Gx.val rfl rfl rfl (val_assign rfl rfl) ?_
      refine Gx.done ?_
      refine Gx.thenN ?_
      refine Gx.ret ?_
      refine Gx.front 1 rfl ?_
      refine Gx.front 3 rfl ?_
      refine Gx.front 3 rfl ?_
      refine Gx.front 3 rfl ?_
      refine Gx.ret1 Tryd.results32 rfl ?_
      exact ⟨congrArg Value.bool (by unfold agreesM; rw [eP, eR, eY, eM]; exact (by cases h8 : passM c s (x.rnd - 1) y.rnd with | true => exact Eq.symm (decide_eq_true ⟨by omega, .inr rfl⟩) | false => exact Eq.symm (decide_eq_false (by rintro ⟨_, q | q⟩; omega; cases q)))), sep4 _ _ _ _ _⟩
  · refine Gx.skipg rfl rfl rfl rfl rfl rfl ?_
    refine Gx.skipg rfl rfl rfl rfl rfl rfl ?_
    refine Gx.skipg rfl rfl rfl rfl rfl rfl ?_
    refine Gx.skipg rfl rfl rfl rfl rfl rfl ?_
    refine Gx.skipg rfl rfl rfl rfl rfl rfl ?_
    refine Gx.skipu rfl rfl rfl rfl rfl ?_
    refine Gx.skipu rfl rfl rfl rfl rfl ?_
    refine Gx.skipu rfl rfl rfl rfl rfl ?_
    refine Gx.skipu rfl rfl rfl rfl rfl ?_
    refine Gx.skipu rfl rfl rfl rfl rfl ?_
    refine Gx.skipg rfl rfl rfl rfl rfl rfl ?_
    refine Gx.val rfl rfl rfl (val_pickF rfl rfl rfl) ?_
    refine Gx.val rfl rfl rfl (val_assign rfl rfl) ?_
    refine Gx.done ?_
    refine Gx.thenN ?_
    refine Gx.ret ?_
    refine Gx.front 3 rfl ?_
    refine Gx.front 3 rfl ?_
    refine Gx.front 3 rfl ?_
    refine Gx.front 3 rfl ?_
    refine Gx.ret1 Tryd.results32 rfl ?_
    exact ⟨congrArg Value.bool (by unfold agreesM; rw [eP, eR, eY, eM]; exact Eq.symm (decide_eq_false (by rintro ⟨q, _⟩; omega))), sep4 _ _ _ _ _⟩

end Go.Proofs.YtfeeociajllbhaaDoor.Mt
