/- It goes on: TopGoes. The walk. No condition. -/
import Derived.Test.YtkbggdocfklkkaaDoorP4
import Derived.Test.YtkbggdocfklkkaaDoorK
namespace Go.Proofs.YtkbggdocfklkkaaDoor
open Go.RowKit
set_option linter.unusedVariables false
set_option linter.unusedSimpArgs false
set_option maxRecDepth 100000

theorem few_c {L : Nat} {n f : Int} {w : World} (hx : L < 4294967296) (hn : 0 ≤ n) (hn2 : n ≤ 9223372036854775807) : Calls Tryd.prog 6 #[.int .u32 ((L : Nat) : Int), .int .i64 n, .int .i64 f] w fun e w' => e = .returned (.bool (fewF L n f)) ∧ Below w.heap.size w w' :=
  (few_any L n f w hx hn hn2).mono fun e w' ⟨h, e2⟩ => by subst e2; exact ⟨h, Below.refl ..⟩
theorem few_pop {L : Nat} {n f : Nat} (h : fewF L (n : Int) (f : Int) = true) : Mt.pop L ≤ f := by
  unfold fewF at h
  rw [Bool.and_eq_true, decide_eq_true_iff] at h
  have : sizeF L = Mt.pop L := rfl
  omega
theorem few_of {c : Mt.MC} {f : Nat} (h1 : 1 ≤ c.n) (hf : f ≤ (c.n - 1) / 3) (hfn : c.need + f = c.n) (h : fewF c.L (c.n : Int) (f : Int) = true) : Mt.Few c f := ⟨few_pop h, by omega, hfn⟩
theorem cert_at {c : Mt.MC} {s : Mt.MS} {b : Nat} {x : Bool} (hx : (Mt.certL c s)[b]? = some x) (h : x = true) : Mt.certM c s b = true := (Mt.on_cert.1 (show (Mt.certL c s)[b]? = some true by rw [hx, h])).2
theorem cert_on {c : Mt.MC} {s : Mt.MS} {b : Nat} {y : Bool} (hy : (Mt.certL c s)[b]? = some y) (h : Mt.certM c s b = true) : y = true := by
  have hl : b < s.bl.length := by have := (List.getElem?_eq_some_iff.1 hy).1; unfold Mt.certL at this; rwa [List.length_map, List.length_range] at this
  exact Option.some.inj (hy.symm.trans ((Mt.on_cert (c := c)).2 ⟨hl, h⟩))
theorem goesL_eq {cs : List Mt.Sy} {n k t a : Nat} : cs ++ Mt.pairsL k (t + 1) n ++ [Mt.blockS k (t + 2)] ++ Mt.votesL a n ++ [Mt.blockS a (t + 3)] ++ Mt.votesL (a + 1) n = cs ++ Mt.goesL n k t a := by unfold Mt.goesL; simp only [List.append_assoc]
theorem eqPay (a b c d : Int) (w : World) : (Op.equal 41 (.agg #[.int .i64 a, .int .i64 b, .int .i64 c, .int .i64 d]) (.agg #[.int .i64 a, .int .i64 b, .int .i64 c, .int .i64 d])).run Tryd.prog w = .ok true w := by
  unfold Op.equal Op.maxDepth
  rw [show (10000 : Nat) = 9998 + 1 + 1 from rfl, Op.equalIn]
  simp only [Sem.run_bind, run_underlying Tryd.underlying41, Result.andThen, Sem.run_pure]
  simp <;> go_simp
theorem sls_nil {α : Type} (f : α → List Value) (sz : Nat) (W : World) : SlS f sz W (.slice none 0 0) [] := ⟨none, 0, rfl, Nat.zero_le _, ⟨fun _ => rfl, Nat.le_refl _⟩, fun j x h => by cases h⟩
theorem own_rows {W : World} {pays : List Row} {ma : Option Addr} {mc k : Nat} {more : List Lg.Py} (hrows : ∀ r ∈ pays, SlS Lg.FP 4 W (.slice r.a r.xs.length r.c) r.xs) (hmo : SlS Lg.FP 4 W (.slice ma more.length mc) more) : ∀ r ∈ ownL pays k ++ [(⟨ma, more, mc⟩ : Row)], SlS Lg.FP 4 W (.slice r.a r.xs.length r.c) r.xs := fun r hr => by
  rcases List.mem_append.1 hr with h | h
  · rcases ownL_mem h with h | rfl
    · exact hrows r h
    · exact sls_nil ..
  · obtain rfl := List.mem_singleton.1 h
    exact hmo
theorem own_size {pays : List Row} {k : Nat} {m : Row} (hsz : ∀ r ∈ pays, r.xs.length ≤ 1048576) (hm : m.xs.length ≤ 1048576) : ∀ r ∈ ownL pays k ++ [m], r.xs.length ≤ 1048576 := fun r hr => by
  rcases List.mem_append.1 hr with h | h
  · rcases ownL_mem h with h | rfl
    · exact hsz r h
    · show (0 : Nat) ≤ _; omega
  · obtain rfl := List.mem_singleton.1 h
    exact hm
theorem pays_yes {W : World} {av bv : Value} {xs : List Lg.Py} (hav : SlS Lg.FP 4 W av xs) (hbv : SlS Lg.FP 4 W bv xs) :
    Calls Tryd.prog 7 #[av, bv] W fun e w' => e = .returned (.bool true) ∧ Below W.heap.size W w' := by
  have hm9 := sls_bd hav
  refine calls_pure (Gx.enter (l := []) Tryd.func7 rfl Tryd.ntmps7 rfl (Sat.start W) ?_)
  refine Gx.know (m' := [(0, av), (1, bv)]) (.cons rfl (.cons rfl .nil)) ?_
  refine Gx.seq ?_
  refine Gx.region ?_
  refine Gx.val rfl rfl rfl (val_assign rfl rfl) ?_
  refine Gx.done ?_
  refine Gx.thenN ?_
  refine Gx.seq ?_
  refine Gx.seq ?_
  refine Gx.region ?_
  refine Gx.val rfl rfl rfl (val_move rfl rfl) ?_
  refine Gx.val rfl rfl rfl (val_len rfl Tryd.underlying31 rfl (len_base hav)) ?_
  refine Gx.val rfl rfl rfl (val_move rfl rfl) ?_
  refine Gx.val rfl rfl rfl (val_len rfl Tryd.underlying31 rfl (len_base hbv)) ?_
  refine Gx.val rfl rfl rfl (val_neq rfl rfl rfl) ?_
  refine Gx.done ?_
  refine Gx.thenN ?_
  refine Gx.decF rfl (by omega) ?_
  refine Gx.skip ?_
  refine Gx.thenN ?_
  refine Gx.seq ?_
  refine Gx.seq ?_
  refine Gx.region ?_
  refine Gx.val rfl rfl rfl (val_assign rfl rfl) ?_
  refine Gx.done ?_
  refine Gx.thenN ?_
  refine Gx.block ?_
  refine Gx.loop (ι := Nat) (fun ξ => (ξ ≤ xs.length)) (fun ξ => [(0, av), (1, bv), (4, .bool false), (5, .int .i64 ((ξ : Nat) : Int))]) (fun ξ => []) (fun ξ => xs.length - ξ) 0 (by first | omega | (dsimp only; omega)) ((.cons rfl (.cons rfl (.cons rfl (.cons rfl .nil))))) rfl ?_
  rintro i hi
  refine Gx.know (m' := [(0, av), (1, bv), (4, .bool false), (5, .int .i64 ((i : Nat) : Int))]) (.cons rfl (.cons rfl (.cons rfl (.cons rfl .nil)))) (Gx.norm (l' := []) rfl ?_)
  refine Gx.seq ?_
  refine Gx.seq ?_
  refine Gx.region ?_
  refine Gx.val rfl rfl rfl (val_move rfl rfl) ?_
  refine Gx.val rfl rfl rfl (val_move rfl rfl) ?_
  refine Gx.val rfl rfl rfl (val_len rfl Tryd.underlying31 rfl (len_base hav)) ?_
  refine Gx.val rfl rfl rfl (val_lss rfl rfl rfl) ?_
  refine Gx.done ?_
  refine Gx.thenN ?_
  refine Gx.dec rfl (fun h1 => ?_) (fun h1 => ?_)
  · refine Gx.skip ?_
    refine Gx.thenN ?_
    refine Gx.seq ?_
    refine Gx.block ?_
    refine Gx.seq ?_
    obtain ⟨x, hx⟩ := get_of_lt (xs := xs) (k := i) (by omega)
    refine Gx.regionQ Tryd.mixed (by kernel_rfl) ?_
    refine Gq.val rfl rfl rfl (val_move rfl rfl) ?_
    refine Gq.val rfl rfl rfl (val_move rfl rfl) ?_
    refine Gq.val rfl rfl rfl (val_ixa rfl Tryd.underlying31 Tryd.ty41 rfl rfl (j := i) (rfl) (reach_base hav hx)) ?_
    refine Gq.val rfl rfl rfl (Val.cast (val_loadA rfl Tryd.ty41 rfl rfl rfl (cells_base hav hx)) (v' := .agg #[.int .i64 x.frm, .int .i64 x.to, .int .i64 x.ser, .int .i64 x.n]) rfl) ?_
    refine Gq.val rfl rfl rfl (val_move rfl rfl) ?_
    refine Gq.val rfl rfl rfl (val_move rfl rfl) ?_
    refine Gq.val rfl rfl rfl (val_ixa rfl Tryd.underlying31 Tryd.ty41 rfl rfl (j := i) (rfl) (reach_base hbv hx)) ?_
    refine Gq.val rfl rfl rfl (Val.cast (val_loadA rfl Tryd.ty41 rfl rfl rfl (cells_base hbv hx)) (v' := .agg #[.int .i64 x.frm, .int .i64 x.to, .int .i64 x.ser, .int .i64 x.n]) rfl) ?_
    refine Gq.val rfl rfl rfl (Val.cast (val_neqR rfl rfl rfl (by kernel_rfl) (fun w => eqPay _ _ _ _ w)) (v' := .bool false) (by simp)) ?_
    refine Gq.done ?_
    refine Gx.thenN ?_
    refine Gx.f rfl ?_
    refine Gx.skip ?_
    refine Gx.blkN ?_
    refine Gx.thenN ?_
    refine Gx.region ?_
    refine Gx.val rfl rfl rfl (val_move rfl rfl) ?_
    refine Gx.val rfl rfl rfl (val_add rfl rfl rfl (r := ((i + 1 : Nat) : Int)) (w64 (by omega) (by omega))) ?_
    refine Gx.val rfl rfl rfl (val_assign rfl rfl) ?_
    refine Gx.done ?_
    refine Gx.thenN ?_
    exact Gx.round (i + 1) (by first | omega | (dsimp only; omega)) (by first | omega | (dsimp only; omega)) ((.cons rfl (.cons rfl (.cons rfl (.cons rfl .nil))))) rfl
  · refine Gx.exit ?_
    refine Gx.thenE ?_
    refine Gx.thenE ?_
    refine Gx.blkE ?_
    refine Gx.thenN ?_
    refine Gx.seq ?_
    refine Gx.region ?_
    refine Gx.val rfl rfl rfl (val_assign rfl rfl) ?_
    refine Gx.done ?_
    refine Gx.thenN ?_
    refine Gx.ret ?_
    refine Gx.ret1 Tryd.results7 rfl ?_
    rfl

theorem book_two {W : World} {c : Mt.MC} {f : Nat} {sv mv pv : Value} {cs : List Mt.Sy} {money : List Int} {pays : List Row} {ds : List Bool} (hg : Lg.HG W) (hs : SlS Mt.FM 5 W sv cs) (hm : SlS Lg.FM 1 W mv money) (hp : SlS FW 1 W pv pays) (hrows : ∀ r ∈ pays, SlS Lg.FP 4 W (.slice r.a r.xs.length r.c) r.xs) (hsz : ∀ r ∈ pays, r.xs.length ≤ 1048576) (h1n : 1 ≤ c.n) (h7n : c.n ≤ 7) (hcl : cs.length ≤ 120) (hf : f ≤ (c.n - 1) / 3) (hfn : c.need + f = c.n) (hLn : c.L >>> c.n = 0) (hL : c.L < 4294967296) (hds : Chn.IsDec (Mt.blsP (Mt.stM c (Mt.ms0 c.n) cs).bl) (Mt.certL c (Mt.stM c (Mt.ms0 c.n) cs)) (Mt.stM c (Mt.ms0 c.n) cs).bl.length ds) (hok : Lg.OkL money 0) :
    Calls Tryd.prog 5 #[.int .i64 ((c.n : Nat) : Int), .int .i64 ((f : Nat) : Int), .int .u32 ((c.L : Nat) : Int), sv, mv, pv] W fun e w' => ∃ v, e = .returned v ∧ (∃ (c0 c1 c2 c3 c4 c5 c6 : Value) (z : Int), v = .tuple #[.agg #[c0, c1, c2, c3, c4, c5, c6], .int .i64 z] ∧ (IsS c0 ∧ IsS c1 ∧ IsS c2 ∧ IsS c3 ∧ IsS c4 ∧ IsS c5 ∧ IsS c6) ∧ (z = 7 ∨ z = 0 ∧ SlS Mt.FZ 1 w' c0 (Mt.codesM c (Mt.ms0 c.n) cs) ∧ SlS Mt.FK 2 w' c1 (Mt.stM c (Mt.ms0 c.n) cs).bl ∧ SlS Mt.FB 1 w' c2 (Mt.certL c (Mt.stM c (Mt.ms0 c.n) cs)) ∧ SlS Mt.FB 1 w' c3 ds ∧ SlS Lg.FP 4 w' c4 (paysB (Mt.stM c (Mt.ms0 c.n) cs).bl ds pays) ∧ SlS Lg.FZ 1 w' c5 (Lg.codesL (Lg.start0 money) (paysB (Mt.stM c (Mt.ms0 c.n) cs).bl ds pays)) ∧ SlS Lg.FA 2 w' c6 (Lg.accsL (Lg.start0 money) (paysB (Mt.stM c (Mt.ms0 c.n) cs).bl ds pays)))) ∧ Below W.heap.size W w' := by
  have nil : IsS (.slice none 0 0) := ⟨none, 0, 0, rfl⟩
  by_cases hbig : (paysB (Mt.stM c (Mt.ms0 c.n) cs).bl ds pays).length ≤ 60
  · exact (book_yes hg hs h1n h7n hcl hf hfn hLn hL hm hp hrows hsz hds hbig ⟨hok.low, hok.high, by omega, hok.all⟩).mono fun e w' ⟨v, he, ⟨c0, c1, c2, c3, c4, c5, c6, hv, f0, f1, f2, f3, f4, f5, f6⟩, hb⟩ => ⟨v, he, ⟨c0, c1, c2, c3, c4, c5, c6, 0, hv, ⟨f0.isS, f1.isS, f2.isS, f3.isS, f4.isS, f5.isS, f6.isS⟩, .inr ⟨rfl, f0, f1, f2, f3, f4, f5, f6⟩⟩, hb⟩
  · exact (book_full hg hs h1n h7n hcl hf hfn hLn hL hm hp hrows hsz hds (by omega)).mono fun e w' ⟨he, hb⟩ => ⟨_, he, ⟨_, _, _, _, _, _, _, 7, rfl, ⟨nil, nil, nil, nil, nil, nil, nil⟩, .inl rfl⟩, hb⟩
theorem goes_bad {W : World} {k f : Int} {L : Nat} {sv mv pv : Value} {cs : List Mt.Sy} {money : List Int} {pays : List Row} (hg : Lg.HG W) (hs : SlS Mt.FM 5 W sv cs) (hm : SlS Lg.FM 1 W mv money) (hp : SlS FW 1 W pv pays) (hrows : ∀ r ∈ pays, SlS Lg.FP 4 W (.slice r.a r.xs.length r.c) r.xs) (hsz : ∀ r ∈ pays, r.xs.length ≤ 1048576) (hL : L < 4294967296) (hbad : ¬ Good k f L cs money pays) {ma : Option Addr} {mc : Nat} {more : List Lg.Py} (hmo : SlS Lg.FP 4 W (.slice ma more.length mc) more) (hms : more.length ≤ 1048576) :
    Calls Tryd.prog 4 #[.int .i64 k, .int .i64 f, .int .u32 ((L : Nat) : Int), sv, mv, pv, .slice ma more.length mc] W fun e w' => e = .returned (.bool true) ∧ Below W.heap.size W w' := by
  refine calls_pure (Gx.enter (l := []) Tryd.func4 rfl Tryd.ntmps4 rfl (Sat.start W) ?_)
  refine Gx.know (m' := [(0, .int .i64 k), (1, .int .i64 f), (2, .int .u32 ((L : Nat) : Int)), (3, sv), (4, mv), (5, pv), (6, .slice ma more.length mc)]) (.cons rfl (.cons rfl (.cons rfl (.cons rfl (.cons rfl (.cons rfl (.cons rfl .nil))))))) ?_
  refine Gx.seq ?_
  refine Gx.region ?_
  refine Gx.val rfl rfl rfl (val_assign rfl rfl) ?_
  refine Gx.done ?_
  refine Gx.thenN ?_
  refine Gx.seq ?_
  refine Gx.region ?_
  refine Gx.val rfl rfl rfl (val_move rfl rfl) ?_
  refine Gx.val rfl rfl rfl (val_move rfl rfl) ?_
  refine Gx.val rfl rfl rfl (val_move rfl rfl) ?_
  refine Gx.val rfl rfl rfl (val_move rfl rfl) ?_
  refine Gx.val rfl rfl rfl (val_move rfl rfl) ?_
  refine Gx.val rfl rfl rfl (val_move rfl rfl) ?_
  refine Gx.eff rfl rfl rfl (eff_callE (vs := [.int .i64 k, .int .i64 f, .int .u32 ((L : Nat) : Int), sv, mv, pv]) rfl Tryd.fn5 rfl (R := fun v => ∃ z : Int, z ≠ 0 ∧ v = .tuple #[.agg #[.slice none 0 0, .slice none 0 0, .slice none 0 0, .slice none 0 0, .slice none 0 0, .slice none 0 0, .slice none 0 0], .int .i64 z]) (fun w H => book_no (hg.below H.below) (hs.below H.below) (hm.below H.below) (hp.below H.below) (fun r hr => (hrows r hr).below H.below) hsz hL hbad)) ?_
  rintro _ _ ⟨⟨zz1, hzz2, rfl⟩, rfl⟩
  refine Gx.val rfl rfl rfl (val_move rfl rfl) ?_
  refine Gx.val rfl rfl rfl (val_extract rfl rfl rfl) ?_
  refine Gx.val rfl rfl rfl (val_extract rfl rfl rfl) ?_
  refine Gx.eff rfl rfl rfl (eff_alloc rfl Tryd.ty34 (vs := [.slice none 0 0, .slice none 0 0, .slice none 0 0, .slice none 0 0, .slice none 0 0, .slice none 0 0, .slice none 0 0]) rfl) ?_
  rintro _ _ ⟨b3, rfl, rfl⟩
  refine Gx.eff0 rfl rfl (eff_store rfl Tryd.ty34 rfl rfl (us := [.slice none 0 0, .slice none 0 0, .slice none 0 0, .slice none 0 0, .slice none 0 0, .slice none 0 0, .slice none 0 0]) rfl rfl rfl (k := 0) rfl (rfl) (vs' := [.slice none 0 0, .slice none 0 0, .slice none 0 0, .slice none 0 0, .slice none 0 0, .slice none 0 0, .slice none 0 0]) (rfl) (l' := [Hp.rec_ b3 [.slice none 0 0, .slice none 0 0, .slice none 0 0, .slice none 0 0, .slice none 0 0, .slice none 0 0, .slice none 0 0]]) rfl) ?_
  rintro _ _ rfl
  refine Gx.val rfl rfl rfl (val_assign rfl rfl) ?_
  refine Gx.done ?_
  refine Gx.thenN ?_
  refine Gx.seq ?_
  refine Gx.seq ?_
  refine Gx.region ?_
  refine Gx.val rfl rfl rfl (val_move rfl rfl) ?_
  refine Gx.val rfl rfl rfl (val_neq rfl rfl rfl) ?_
  refine Gx.val rfl rfl rfl (val_move rfl rfl) ?_
  refine Gx.slot (t := 43) (v := .bool true) (look_decT rfl (by omega)) ?_
  refine Gx.skipg rfl rfl rfl rfl rfl rfl ?_
  refine Gx.skipg rfl rfl rfl rfl rfl rfl ?_
  refine Gx.skipg rfl rfl rfl rfl rfl rfl ?_
  refine Gx.skipg rfl rfl rfl rfl rfl rfl ?_
  refine Gx.skipg rfl rfl rfl rfl rfl rfl ?_
  refine Gx.skipg rfl rfl rfl rfl rfl rfl ?_
  refine Gx.val rfl rfl rfl (val_pickT rfl rfl rfl) ?_
  refine Gx.done ?_
  refine Gx.thenN ?_
  refine Gx.t rfl ?_
  refine Gx.seq ?_
  refine Gx.region ?_
  refine Gx.val rfl rfl rfl (val_move rfl rfl) ?_
  refine Gx.val rfl rfl rfl (val_neq rfl rfl rfl) ?_
  refine Gx.val rfl rfl rfl (val_assign rfl rfl) ?_
  refine Gx.done ?_
  refine Gx.thenN ?_
  refine Gx.ret ?_
  refine Gx.thenR ?_
  refine Gx.ret1 Tryd.results4 rfl ?_
  first | rfl | exact congrArg Value.bool (decide_eq_true (by omega))

set_option maxHeartbeats 6000000 in
theorem goes_yes {W : World} {c : Mt.MC} {f : Nat} {sv mv pv : Value} {cs : List Mt.Sy} {money : List Int} {pays : List Row} {ds : List Bool} (hg : Lg.HG W) (hs : SlS Mt.FM 5 W sv cs) (hm : SlS Lg.FM 1 W mv money) (hp : SlS FW 1 W pv pays) (hrows : ∀ r ∈ pays, SlS Lg.FP 4 W (.slice r.a r.xs.length r.c) r.xs) (hsz : ∀ r ∈ pays, r.xs.length ≤ 1048576) (h1n : 1 ≤ c.n) (h7n : c.n ≤ 7) (hcl : cs.length ≤ 120) (hf : f ≤ (c.n - 1) / 3) (hfn : c.need + f = c.n) (hLn : c.L >>> c.n = 0) (hL : c.L < 4294967296) (hds : Chn.IsDec (Mt.blsP (Mt.stM c (Mt.ms0 c.n) cs).bl) (Mt.certL c (Mt.stM c (Mt.ms0 c.n) cs)) (Mt.stM c (Mt.ms0 c.n) cs).bl.length ds) (hbig : (paysB (Mt.stM c (Mt.ms0 c.n) cs).bl ds pays).length ≤ 60) (hok : Lg.OkL money (paysB (Mt.stM c (Mt.ms0 c.n) cs).bl ds pays).length) {ma : Option Addr} {mc : Nat} {more : List Lg.Py} (hmo : SlS Lg.FP 4 W (.slice ma more.length mc) more) (hms : more.length ≤ 1048576) :
    Calls Tryd.prog 4 #[.int .i64 ((c.n : Nat) : Int), .int .i64 ((f : Nat) : Int), .int .u32 ((c.L : Nat) : Int), sv, mv, pv, .slice ma more.length mc] W fun e w' => e = .returned (.bool true) ∧ Below W.heap.size W w' := by
  have ok : Mt.OkM c := ⟨h7n, by omega, hL⟩
  have bd := Mt.BdM.at_ ok cs
  have iv := Mt.InvM.run ok cs (Mt.BdM.start c) (Mt.InvM.start c)
  have hb40 := bd.b40
  have hpos := bd.pos
  have hdl : ds.length = (Mt.stM c (Mt.ms0 c.n) cs).bl.length := by rw [hds.1, List.length_map]
  have hcdl : (Mt.codesM c (Mt.ms0 c.n) cs).length = cs.length := Mt.codesM_len ..
  have hwl : (Mt.certL c (Mt.stM c (Mt.ms0 c.n) cs)).length = (Mt.stM c (Mt.ms0 c.n) cs).bl.length := by unfold Mt.certL; rw [List.length_map, List.length_range]
  have hacl : (Lg.accsL (Lg.start0 money) (paysB (Mt.stM c (Mt.ms0 c.n) cs).bl ds pays)).length = money.length := by rw [Lg.accsL_len, Lg.start_len]
  have hcol : (Lg.codesL (Lg.start0 money) (paysB (Mt.stM c (Mt.ms0 c.n) cs).bl ds pays)).length = (paysB (Mt.stM c (Mt.ms0 c.n) cs).bl ds pays).length := Lg.codesL_len ..
  have hhigh := hok.high
  have hlow := hok.low
  have hm9 := sls_bd hm
  have hp9 := sls_bd hp
  have hs9 := sls_bd hs
  have hmo9 := sls_bd hmo
  refine calls_pure (Gx.enter (l := []) Tryd.func4 rfl Tryd.ntmps4 rfl (Sat.start W) ?_)
  refine Gx.know (m' := [(0, .int .i64 ((c.n : Nat) : Int)), (1, .int .i64 ((f : Nat) : Int)), (2, .int .u32 ((c.L : Nat) : Int)), (3, sv), (4, mv), (5, pv), (6, .slice ma more.length mc)]) (.cons rfl (.cons rfl (.cons rfl (.cons rfl (.cons rfl (.cons rfl (.cons rfl .nil))))))) ?_
  refine Gx.seq ?_
  refine Gx.region ?_
  refine Gx.val rfl rfl rfl (val_assign rfl rfl) ?_
  refine Gx.done ?_
  refine Gx.thenN ?_
  refine Gx.seq ?_
  refine Gx.region ?_
  refine Gx.val rfl rfl rfl (val_move rfl rfl) ?_
  refine Gx.val rfl rfl rfl (val_move rfl rfl) ?_
  refine Gx.val rfl rfl rfl (val_move rfl rfl) ?_
  refine Gx.val rfl rfl rfl (val_move rfl rfl) ?_
  refine Gx.val rfl rfl rfl (val_move rfl rfl) ?_
  refine Gx.val rfl rfl rfl (val_move rfl rfl) ?_
  refine Gx.callB rfl rfl rfl (vs := [.int .i64 ((c.n : Nat) : Int), .int .i64 ((f : Nat) : Int), .int .u32 ((c.L : Nat) : Int), sv, mv, pv]) rfl Tryd.fn5 rfl (R := fun v w' => ∃ (cv bv wv dv qv zv av : Value), v = .tuple #[.agg #[cv, bv, wv, dv, qv, zv, av], .int .i64 0] ∧ SlS Mt.FZ 1 w' cv (Mt.codesM c (Mt.ms0 c.n) cs) ∧ SlS Mt.FK 2 w' bv (Mt.stM c (Mt.ms0 c.n) cs).bl ∧ SlS Mt.FB 1 w' wv (Mt.certL c (Mt.stM c (Mt.ms0 c.n) cs)) ∧ SlS Mt.FB 1 w' dv ds ∧ SlS Lg.FP 4 w' qv (paysB (Mt.stM c (Mt.ms0 c.n) cs).bl ds pays) ∧ SlS Lg.FZ 1 w' zv (Lg.codesL (Lg.start0 money) (paysB (Mt.stM c (Mt.ms0 c.n) cs).bl ds pays)) ∧ SlS Lg.FA 2 w' av (Lg.accsL (Lg.start0 money) (paysB (Mt.stM c (Mt.ms0 c.n) cs).bl ds pays))) (fun w H => book_yes (hg.below H.below) (hs.below H.below) h1n h7n hcl hf hfn hLn hL (hm.below H.below) (hp.below H.below) (fun r hr => (hrows r hr).below H.below) hsz hds hbig hok) ?_
  rintro _ W8 ⟨cv1, bv2, wv3, dv4, qv5, zv6, av7, rfl, hcv1, hbv2, hwv3, hdv4, hqv5, hzv6, hav7⟩ H9
  have hW10 := H9.below
  have hs11 := hs.below H9.below
  have hs12 := hm.below H9.below
  have hs13 := hp.below H9.below
  have hs14 := hmo.below H9.below
  have hg15 := hg.below H9.below
  have hrw16 := fun r hr => (hrows r hr).below H9.below
  refine Gx.val rfl rfl rfl (val_move rfl rfl) ?_
  obtain ⟨sa17, sn18, sc19, rfl⟩ := hcv1.isS
  obtain ⟨sa20, sn21, sc22, rfl⟩ := hbv2.isS
  obtain ⟨sa23, sn24, sc25, rfl⟩ := hwv3.isS
  obtain ⟨sa26, sn27, sc28, rfl⟩ := hdv4.isS
  obtain ⟨sa29, sn30, sc31, rfl⟩ := hqv5.isS
  obtain ⟨sa32, sn33, sc34, rfl⟩ := hzv6.isS
  obtain ⟨sa35, sn36, sc37, rfl⟩ := hav7.isS
  refine Gx.val rfl rfl rfl (val_extract rfl rfl rfl) ?_
  refine Gx.val rfl rfl rfl (val_extract rfl rfl rfl) ?_
  refine Gx.eff rfl rfl rfl (eff_alloc rfl Tryd.ty34 (vs := [.slice none 0 0, .slice none 0 0, .slice none 0 0, .slice none 0 0, .slice none 0 0, .slice none 0 0, .slice none 0 0]) rfl) ?_
  rintro _ _ ⟨b38, rfl, rfl⟩
  refine Gx.eff0 rfl rfl (eff_store rfl Tryd.ty34 rfl rfl (us := [.slice sa17 sn18 sc19, .slice sa20 sn21 sc22, .slice sa23 sn24 sc25, .slice sa26 sn27 sc28, .slice sa29 sn30 sc31, .slice sa32 sn33 sc34, .slice sa35 sn36 sc37]) rfl rfl rfl (k := 0) rfl (rfl) (vs' := [.slice sa17 sn18 sc19, .slice sa20 sn21 sc22, .slice sa23 sn24 sc25, .slice sa26 sn27 sc28, .slice sa29 sn30 sc31, .slice sa32 sn33 sc34, .slice sa35 sn36 sc37]) (rfl) (l' := [Hp.rec_ b38 [.slice sa17 sn18 sc19, .slice sa20 sn21 sc22, .slice sa23 sn24 sc25, .slice sa26 sn27 sc28, .slice sa29 sn30 sc31, .slice sa32 sn33 sc34, .slice sa35 sn36 sc37]]) rfl) ?_
  rintro _ _ rfl
  refine Gx.val rfl rfl rfl (val_assign rfl rfl) ?_
  refine Gx.done ?_
  refine Gx.thenN ?_
  refine Gx.seq ?_
  refine Gx.seq ?_
  refine Gx.region ?_
  refine Gx.val rfl rfl rfl (val_move rfl rfl) ?_
  refine Gx.val rfl rfl rfl (Val.cast (val_neq rfl rfl rfl) (v' := .bool false) rfl) ?_
  refine Gx.val rfl rfl rfl (val_move rfl rfl) ?_
  refine Gx.valg rfl rfl rfl rfl rfl (Val.cast (val_fieldAddr rfl Tryd.underlying34 rfl Tryd.ty32 rfl rfl) (v' := ptr b38 6) rfl) ?_
  refine Gx.valg rfl rfl rfl rfl rfl (val_load rfl Tryd.ty32 rfl rfl (cell_rec (k := 0) rfl rfl)) ?_
  refine Gx.valg rfl rfl rfl rfl rfl (val_len rfl Tryd.underlying32 rfl (len_base hav7)) ?_
  refine Gx.valg rfl rfl rfl rfl rfl (val_move rfl rfl) ?_
  refine Gx.valg rfl rfl rfl rfl rfl (val_len rfl Tryd.underlying24 rfl (len_base hs12)) ?_
  refine Gx.valg rfl rfl rfl rfl rfl (val_neq rfl rfl rfl) ?_
  refine Gx.val rfl rfl rfl (val_pickF rfl rfl rfl) ?_
  refine Gx.done ?_
  refine Gx.thenN ?_
  refine Gx.decF rfl (by omega) ?_
  refine Gx.skip ?_
  refine Gx.thenN ?_
  refine Gx.seq ?_
  refine Gx.region ?_
  refine Gx.val rfl rfl rfl (Val.cast (val_fieldAddr rfl Tryd.underlying34 rfl Tryd.ty30 rfl rfl) (v' := ptr b38 0) rfl) ?_
  refine Gx.val rfl rfl rfl (Val.cast (val_fieldAddr rfl Tryd.underlying30 rfl Tryd.ty27 rfl rfl) (v' := ptr b38 1) rfl) ?_
  refine Gx.val rfl rfl rfl (val_load rfl Tryd.ty27 rfl rfl (cell_rec (k := 0) rfl rfl)) ?_
  refine Gx.val rfl rfl rfl (val_len rfl Tryd.underlying27 rfl (len_base hbv2)) ?_
  refine Gx.val rfl rfl rfl (val_assign rfl rfl) ?_
  refine Gx.done ?_
  refine Gx.thenN ?_
  refine Gx.seq ?_
  refine Gx.seq ?_
  refine Gx.region ?_
  refine Gx.val rfl rfl rfl (Val.cast (val_fieldAddr rfl Tryd.underlying34 rfl Tryd.ty30 rfl rfl) (v' := ptr b38 0) rfl) ?_
  refine Gx.val rfl rfl rfl (Val.cast (val_fieldAddr rfl Tryd.underlying30 rfl Tryd.ty28 rfl rfl) (v' := ptr b38 2) rfl) ?_
  refine Gx.val rfl rfl rfl (val_load rfl Tryd.ty28 rfl rfl (cell_rec (k := 0) rfl rfl)) ?_
  refine Gx.val rfl rfl rfl (val_len rfl Tryd.underlying28 rfl (len_base hwv3)) ?_
  refine Gx.val rfl rfl rfl (val_move rfl rfl) ?_
  refine Gx.val rfl rfl rfl (val_neq rfl rfl rfl) ?_
  refine Gx.val rfl rfl rfl (val_move rfl rfl) ?_
  refine Gx.slot (t := 63) (v := .bool false) (look_decF rfl (by omega)) ?_
  refine Gx.valg rfl rfl rfl rfl rfl (val_move rfl rfl) ?_
  refine Gx.valg rfl rfl rfl rfl rfl (val_eql rfl rfl rfl) ?_
  refine Gx.val rfl rfl rfl (val_pickF rfl rfl rfl) ?_
  refine Gx.done ?_
  refine Gx.thenN ?_
  refine Gx.decF rfl (by omega) ?_
  refine Gx.skip ?_
  refine Gx.thenN ?_
  refine Gx.seq ?_
  refine Gx.seq ?_
  refine Gx.region ?_
  refine Gx.val rfl rfl rfl (val_move rfl rfl) ?_
  refine Gx.val rfl rfl rfl (val_move rfl rfl) ?_
  refine Gx.val rfl rfl rfl (val_move rfl rfl) ?_
  refine Gx.val rfl rfl rfl (val_call (vs := [.int .u32 ((c.L : Nat) : Int), .int .i64 ((c.n : Nat) : Int), .int .i64 ((f : Nat) : Int)]) rfl Tryd.fn6 rfl (fun w H => few_c hL (by omega) (by omega))) ?_
  refine Gx.val rfl rfl rfl (val_not rfl rfl) ?_
  refine Gx.val rfl rfl rfl (val_move rfl rfl) ?_
  refine Gx.casesB (t := 72) rfl (fun h39 => ?_) (fun h39 => ?_)
  · refine Gx.skipg rfl rfl rfl rfl rfl rfl ?_
    refine Gx.skipg rfl rfl rfl rfl rfl rfl ?_
    refine Gx.skipg rfl rfl rfl rfl rfl rfl ?_
    refine Gx.val rfl rfl rfl (val_pickT rfl rfl rfl) ?_
    refine Gx.val rfl rfl rfl (val_move rfl rfl) ?_
    refine Gx.skipg rfl rfl rfl rfl rfl rfl ?_
    refine Gx.skipg rfl rfl rfl rfl rfl rfl ?_
    refine Gx.skipg rfl rfl rfl rfl rfl rfl ?_
    refine Gx.skipg rfl rfl rfl rfl rfl rfl ?_
    refine Gx.skipg rfl rfl rfl rfl rfl rfl ?_
    refine Gx.skipg rfl rfl rfl rfl rfl rfl ?_
    refine Gx.skipg rfl rfl rfl rfl rfl rfl ?_
    refine Gx.val rfl rfl rfl (val_pickT rfl rfl rfl) ?_
    refine Gx.done ?_
    refine Gx.thenN ?_
    refine Gx.t rfl ?_
    refine Gx.seq ?_
    refine Gx.region ?_
    refine Gx.val rfl rfl rfl (val_assign rfl rfl) ?_
    refine Gx.done ?_
    refine Gx.thenN ?_
    refine Gx.ret ?_
    refine Gx.thenR ?_
    refine Gx.ret1B hW10 Tryd.results4 rfl ?_
    first | rfl | exact congrArg Value.bool (decide_eq_true (by omega))
  · refine Gx.valg rfl rfl rfl rfl rfl (val_move rfl rfl) ?_
    refine Gx.valg rfl rfl rfl rfl rfl (val_add rfl rfl rfl (r := (((Mt.stM c (Mt.ms0 c.n) cs).bl.length + 2 : Nat) : Int)) (w64 (by omega) (by omega))) ?_
    refine Gx.valg rfl rfl rfl rfl rfl (val_gtr rfl rfl rfl) ?_
    refine Gx.val rfl rfl rfl (val_pickF rfl rfl rfl) ?_
    refine Gx.val rfl rfl rfl (val_move rfl rfl) ?_
    refine Gx.cases (t := 77) rfl (fun h40 => ?_) (fun h40 => ?_)
    · refine Gx.skipg rfl rfl rfl rfl rfl rfl ?_
      refine Gx.skipg rfl rfl rfl rfl rfl rfl ?_
      refine Gx.skipg rfl rfl rfl rfl rfl rfl ?_
      refine Gx.skipg rfl rfl rfl rfl rfl rfl ?_
      refine Gx.skipg rfl rfl rfl rfl rfl rfl ?_
      refine Gx.skipg rfl rfl rfl rfl rfl rfl ?_
      refine Gx.skipg rfl rfl rfl rfl rfl rfl ?_
      refine Gx.val rfl rfl rfl (val_pickT rfl rfl rfl) ?_
      refine Gx.done ?_
      refine Gx.thenN ?_
      refine Gx.t rfl ?_
      refine Gx.seq ?_
      refine Gx.region ?_
      refine Gx.val rfl rfl rfl (val_assign rfl rfl) ?_
      refine Gx.done ?_
      refine Gx.thenN ?_
      refine Gx.ret ?_
      refine Gx.thenR ?_
      refine Gx.ret1B hW10 Tryd.results4 rfl ?_
      first | rfl | exact congrArg Value.bool (decide_eq_true (by omega))
    · refine Gx.valg rfl rfl rfl rfl rfl (val_move rfl rfl) ?_
      refine Gx.valg rfl rfl rfl rfl rfl (val_len rfl Tryd.underlying23 rfl (len_base hs11)) ?_
      refine Gx.valg rfl rfl rfl rfl rfl (val_move rfl rfl) ?_
      refine Gx.valg rfl rfl rfl rfl rfl (val_mul rfl rfl rfl (r := ((4 * c.n : Nat) : Int)) (w64 (by omega) (by omega))) ?_
      refine Gx.valg rfl rfl rfl rfl rfl (val_add rfl rfl rfl (r := ((cs.length + 4 * c.n : Nat) : Int)) (w64 (by omega) (by omega))) ?_
      refine Gx.valg rfl rfl rfl rfl rfl (val_add rfl rfl rfl (r := ((cs.length + 4 * c.n + 2 : Nat) : Int)) (w64 (by omega) (by omega))) ?_
      refine Gx.valg rfl rfl rfl rfl rfl (val_gtr rfl rfl rfl) ?_
      refine Gx.val rfl rfl rfl (val_pickF rfl rfl rfl) ?_
      refine Gx.done ?_
      refine Gx.thenN ?_
      refine Gx.dec rfl (fun h41 => ?_) (fun h41 => ?_)
      · refine Gx.seq ?_
        refine Gx.region ?_
        refine Gx.val rfl rfl rfl (val_assign rfl rfl) ?_
        refine Gx.done ?_
        refine Gx.thenN ?_
        refine Gx.ret ?_
        refine Gx.thenR ?_
        refine Gx.ret1B hW10 Tryd.results4 rfl ?_
        first | rfl | exact congrArg Value.bool (decide_eq_true (by omega))
      · refine Gx.skip ?_
        refine Gx.thenN ?_
        refine Gx.seq ?_
        have hfw : Mt.Few c f := few_of h1n hf hfn (by simpa using h39)
        refine Gx.region ?_
        refine Gx.val rfl rfl rfl (val_assign rfl rfl) ?_
        refine Gx.done ?_
        refine Gx.thenN ?_
        refine Gx.seq ?_
        refine Gx.region ?_
        refine Gx.val rfl rfl rfl (val_assign rfl rfl) ?_
        refine Gx.done ?_
        refine Gx.thenN ?_
        refine Gx.seq ?_
        refine Gx.seq ?_
        refine Gx.region ?_
        refine Gx.val rfl rfl rfl (val_assign rfl rfl) ?_
        refine Gx.done ?_
        refine Gx.thenN ?_
        refine Gx.block ?_
        refine Gx.loop (ι := Nat × Nat × Nat) (fun ξ => (ξ.1 ≤ (Mt.stM c (Mt.ms0 c.n) cs).bl.length) ∧ (ξ.2.1 ≤ 1000) ∧ (ξ.2.2 < (Mt.stM c (Mt.ms0 c.n) cs).bl.length) ∧ (∀ b, b < ξ.1 → Mt.rndM (Mt.stM c (Mt.ms0 c.n) cs) b ≤ ξ.2.1) ∧ (Mt.certM c (Mt.stM c (Mt.ms0 c.n) cs) ξ.2.2 = true) ∧ (∀ b, b < ξ.1 → Mt.certM c (Mt.stM c (Mt.ms0 c.n) cs) b = true → Mt.rndM (Mt.stM c (Mt.ms0 c.n) cs) b ≤ Mt.rndM (Mt.stM c (Mt.ms0 c.n) cs) ξ.2.2)) (fun ξ => [(0, .int .i64 ((c.n : Nat) : Int)), (1, .int .i64 ((f : Nat) : Int)), (2, .int .u32 ((c.L : Nat) : Int)), (3, sv), (4, mv), (5, pv), (6, .slice ma more.length mc), (15, ptr b38 0), (17, .int .i64 ((((Mt.stM c (Mt.ms0 c.n) cs).bl).length : Nat) : Int)), (20, .int .i64 ((ξ.1 : Nat) : Int)), (19, .int .i64 ((ξ.2.1 : Nat) : Int)), (18, .int .i64 ((ξ.2.2 : Nat) : Int))]) (fun ξ => [Hp.rec_ b38 [.slice sa17 sn18 sc19, .slice sa20 sn21 sc22, .slice sa23 sn24 sc25, .slice sa26 sn27 sc28, .slice sa29 sn30 sc31, .slice sa32 sn33 sc34, .slice sa35 sn36 sc37]]) (fun ξ => (Mt.stM c (Mt.ms0 c.n) cs).bl.length - ξ.1) (0, 0, 0) ⟨by first | omega | (dsimp only; omega), Nat.zero_le _, hpos, fun b h => absurd h (Nat.not_lt_zero _), decide_eq_true (.inl rfl), fun b h => absurd h (Nat.not_lt_zero _)⟩ ((.cons rfl (.cons rfl (.cons rfl (.cons rfl (.cons rfl (.cons rfl (.cons rfl (.cons rfl (.cons rfl (.cons rfl (.cons rfl (.cons rfl .nil))))))))))))) rfl ?_
        rintro ⟨i, tp, bs⟩ ⟨hi, htp1, hbl, htp, hbc, hbm⟩
        dsimp only at hi htp1 hbl htp hbc hbm
        refine Gx.know (m' := [(0, .int .i64 ((c.n : Nat) : Int)), (1, .int .i64 ((f : Nat) : Int)), (2, .int .u32 ((c.L : Nat) : Int)), (3, sv), (4, mv), (5, pv), (6, .slice ma more.length mc), (15, ptr b38 0), (17, .int .i64 ((((Mt.stM c (Mt.ms0 c.n) cs).bl).length : Nat) : Int)), (20, .int .i64 ((i : Nat) : Int)), (19, .int .i64 ((tp : Nat) : Int)), (18, .int .i64 ((bs : Nat) : Int))]) (.cons rfl (.cons rfl (.cons rfl (.cons rfl (.cons rfl (.cons rfl (.cons rfl (.cons rfl (.cons rfl (.cons rfl (.cons rfl (.cons rfl .nil)))))))))))) (Gx.norm (l' := [Hp.rec_ b38 [.slice sa17 sn18 sc19, .slice sa20 sn21 sc22, .slice sa23 sn24 sc25, .slice sa26 sn27 sc28, .slice sa29 sn30 sc31, .slice sa32 sn33 sc34, .slice sa35 sn36 sc37]]) rfl ?_)
        refine Gx.seq ?_
        refine Gx.seq ?_
        refine Gx.region ?_
        refine Gx.val rfl rfl rfl (val_move rfl rfl) ?_
        refine Gx.val rfl rfl rfl (val_move rfl rfl) ?_
        refine Gx.val rfl rfl rfl (val_lss rfl rfl rfl) ?_
        refine Gx.done ?_
        refine Gx.thenN ?_
        refine Gx.dec rfl (fun h42 => ?_) (fun h42 => ?_)
        · refine Gx.skip ?_
          refine Gx.thenN ?_
          refine Gx.seq ?_
          refine Gx.block ?_
          refine Gx.seq ?_
          refine Gx.seq ?_
          obtain ⟨x, hx⟩ := get_of_lt (xs := (Mt.stM c (Mt.ms0 c.n) cs).bl) (k := i) (by omega)
          obtain ⟨xb, hxb⟩ := get_of_lt (xs := (Mt.stM c (Mt.ms0 c.n) cs).bl) (k := bs) (by omega)
          obtain ⟨y, hy⟩ := get_of_lt (xs := Mt.certL c (Mt.stM c (Mt.ms0 c.n) cs)) (k := i) (by omega)
          have hx9 := bd.rnd _ _ hx
          refine Gx.region ?_
          refine Gx.val rfl rfl rfl (Val.cast (val_fieldAddr rfl Tryd.underlying34 rfl Tryd.ty30 rfl rfl) (v' := ptr b38 0) rfl) ?_
          refine Gx.val rfl rfl rfl (Val.cast (val_fieldAddr rfl Tryd.underlying30 rfl Tryd.ty27 rfl rfl) (v' := ptr b38 1) rfl) ?_
          refine Gx.val rfl rfl rfl (val_load rfl Tryd.ty27 rfl rfl (cell_rec (k := 0) rfl rfl)) ?_
          refine Gx.val rfl rfl rfl (val_move rfl rfl) ?_
          refine Gx.val rfl rfl rfl (val_ixa rfl Tryd.underlying27 Tryd.ty45 rfl rfl (j := i) (rfl) (reach_base hbv2 hx)) ?_
          refine Gx.val rfl rfl rfl (Val.cast (val_fieldAddr rfl Tryd.underlying45 rfl Tryd.ty3 rfl rfl) (v' := ptr (sB (.slice sa20 sn21 sc22)) (sO (.slice sa20 sn21 sc22) + i * 2 + 1)) rfl) ?_
          refine Gx.val rfl rfl rfl (val_load rfl Tryd.ty3 rfl rfl (cell_base (i := 1) hbv2 hx rfl)) ?_
          refine Gx.val rfl rfl rfl (val_move rfl rfl) ?_
          refine Gx.val rfl rfl rfl (val_gtr rfl rfl rfl) ?_
          refine Gx.done ?_
          refine Gx.thenN ?_
          refine Gx.dec rfl (fun h43 => ?_) (fun h43 => ?_)
          · refine Gx.region ?_
            refine Gx.val rfl rfl rfl (Val.cast (val_fieldAddr rfl Tryd.underlying34 rfl Tryd.ty30 rfl rfl) (v' := ptr b38 0) rfl) ?_
            refine Gx.val rfl rfl rfl (Val.cast (val_fieldAddr rfl Tryd.underlying30 rfl Tryd.ty27 rfl rfl) (v' := ptr b38 1) rfl) ?_
            refine Gx.val rfl rfl rfl (val_load rfl Tryd.ty27 rfl rfl (cell_rec (k := 0) rfl rfl)) ?_
            refine Gx.val rfl rfl rfl (val_move rfl rfl) ?_
            refine Gx.val rfl rfl rfl (val_ixa rfl Tryd.underlying27 Tryd.ty45 rfl rfl (j := i) (rfl) (reach_base hbv2 hx)) ?_
            refine Gx.val rfl rfl rfl (Val.cast (val_fieldAddr rfl Tryd.underlying45 rfl Tryd.ty3 rfl rfl) (v' := ptr (sB (.slice sa20 sn21 sc22)) (sO (.slice sa20 sn21 sc22) + i * 2 + 1)) rfl) ?_
            refine Gx.val rfl rfl rfl (val_load rfl Tryd.ty3 rfl rfl (cell_base (i := 1) hbv2 hx rfl)) ?_
            refine Gx.val rfl rfl rfl (val_assign rfl rfl) ?_
            refine Gx.done ?_
            refine Gx.thenN ?_
            refine Gx.seq ?_
            refine Gx.regionQ Tryd.mixed (by kernel_rfl) ?_
            refine Gq.val rfl rfl rfl (Val.cast (val_fieldAddr rfl Tryd.underlying34 rfl Tryd.ty30 rfl rfl) (v' := ptr b38 0) rfl) ?_
            refine Gq.val rfl rfl rfl (Val.cast (val_fieldAddr rfl Tryd.underlying30 rfl Tryd.ty28 rfl rfl) (v' := ptr b38 2) rfl) ?_
            refine Gq.val rfl rfl rfl (val_load rfl Tryd.ty28 rfl rfl (cell_rec (k := 0) rfl rfl)) ?_
            refine Gq.val rfl rfl rfl (val_move rfl rfl) ?_
            refine Gq.val rfl rfl rfl (val_ixa rfl Tryd.underlying28 Tryd.ty4 rfl rfl (j := i) (rfl) (reach_base hwv3 hy)) ?_
            refine Gq.val rfl rfl rfl (val_load rfl Tryd.ty4 rfl rfl (cell_base (i := 0) hwv3 hy rfl)) ?_
            refine Gq.val rfl rfl rfl (val_move rfl rfl) ?_
            refine Gq.casesB (t := 113) rfl (fun h44 => ?_) (fun h44 => ?_)
            · refine Gq.valg rfl rfl rfl rfl rfl (Val.cast (val_fieldAddr rfl Tryd.underlying34 rfl Tryd.ty30 rfl rfl) (v' := ptr b38 0) rfl) ?_
              refine Gq.valg rfl rfl rfl rfl rfl (Val.cast (val_fieldAddr rfl Tryd.underlying30 rfl Tryd.ty27 rfl rfl) (v' := ptr b38 1) rfl) ?_
              refine Gq.valg rfl rfl rfl rfl rfl (val_load rfl Tryd.ty27 rfl rfl (cell_rec (k := 0) rfl rfl)) ?_
              refine Gq.valg rfl rfl rfl rfl rfl (val_move rfl rfl) ?_
              refine Gq.valg rfl rfl rfl rfl rfl (val_ixa rfl Tryd.underlying27 Tryd.ty45 rfl rfl (j := i) (rfl) (reach_base hbv2 hx)) ?_
              refine Gq.valg rfl rfl rfl rfl rfl (Val.cast (val_fieldAddr rfl Tryd.underlying45 rfl Tryd.ty3 rfl rfl) (v' := ptr (sB (.slice sa20 sn21 sc22)) (sO (.slice sa20 sn21 sc22) + i * 2 + 1)) rfl) ?_
              refine Gq.valg rfl rfl rfl rfl rfl (val_load rfl Tryd.ty3 rfl rfl (cell_base (i := 1) hbv2 hx rfl)) ?_
              refine Gq.valg rfl rfl rfl rfl rfl (Val.cast (val_fieldAddr rfl Tryd.underlying34 rfl Tryd.ty30 rfl rfl) (v' := ptr b38 0) rfl) ?_
              refine Gq.valg rfl rfl rfl rfl rfl (Val.cast (val_fieldAddr rfl Tryd.underlying30 rfl Tryd.ty27 rfl rfl) (v' := ptr b38 1) rfl) ?_
              refine Gq.valg rfl rfl rfl rfl rfl (val_load rfl Tryd.ty27 rfl rfl (cell_rec (k := 0) rfl rfl)) ?_
              refine Gq.valg rfl rfl rfl rfl rfl (val_move rfl rfl) ?_
              refine Gq.valg rfl rfl rfl rfl rfl (val_ixa rfl Tryd.underlying27 Tryd.ty45 rfl rfl (j := bs) (rfl) (reach_base hbv2 hxb)) ?_
              refine Gq.valg rfl rfl rfl rfl rfl (Val.cast (val_fieldAddr rfl Tryd.underlying45 rfl Tryd.ty3 rfl rfl) (v' := ptr (sB (.slice sa20 sn21 sc22)) (sO (.slice sa20 sn21 sc22) + bs * 2 + 1)) rfl) ?_
              refine Gq.valg rfl rfl rfl rfl rfl (val_load rfl Tryd.ty3 rfl rfl (cell_base (i := 1) hbv2 hxb rfl)) ?_
              refine Gq.valg rfl rfl rfl rfl rfl (val_gtr rfl rfl rfl) ?_
              refine Gq.val rfl rfl rfl (val_pickT rfl rfl rfl) ?_
              refine Gq.done ?_
              refine Gx.thenN ?_
              refine Gx.dec rfl (fun h45 => ?_) (fun h45 => ?_)
              · refine Gx.region ?_
                refine Gx.val rfl rfl rfl (val_move rfl rfl) ?_
                refine Gx.val rfl rfl rfl (val_assign rfl rfl) ?_
                refine Gx.done ?_
                refine Gx.blkN ?_
                refine Gx.thenN ?_
                refine Gx.region ?_
                refine Gx.val rfl rfl rfl (val_move rfl rfl) ?_
                refine Gx.val rfl rfl rfl (val_add rfl rfl rfl (r := ((i + 1 : Nat) : Int)) (w64 (by omega) (by omega))) ?_
                refine Gx.val rfl rfl rfl (val_assign rfl rfl) ?_
                refine Gx.done ?_
                refine Gx.thenN ?_
                exact Gx.round (i + 1, x.rnd, i) ⟨by first | omega | (dsimp only; omega), by first | omega | (dsimp only; omega), by first | omega | (dsimp only; omega), fun b hb => by
                  rcases Nat.lt_or_ge b i with q | q
                  · have := htp b q; (try dsimp only); omega
                  · obtain rfl : b = i := by (try dsimp only at hb); omega
                    rw [Mt.rndM_of hx]; (try dsimp only); omega, cert_at hy h44, fun b hb hc => by
                  rw [Mt.rndM_of hx]
                  rcases Nat.lt_or_ge b i with q | q
                  · have := hbm b q hc; rw [Mt.rndM_of hxb] at this; omega
                  · obtain rfl : b = i := by (try dsimp only at hb); omega
                    rw [Mt.rndM_of hx]; exact Nat.le_refl _⟩ (by first | omega | (dsimp only; omega)) ((.cons rfl (.cons rfl (.cons rfl (.cons rfl (.cons rfl (.cons rfl (.cons rfl (.cons rfl (.cons rfl (.cons rfl (.cons rfl (.cons rfl .nil))))))))))))) rfl
              · refine Gx.skip ?_
                refine Gx.blkN ?_
                refine Gx.thenN ?_
                refine Gx.region ?_
                refine Gx.val rfl rfl rfl (val_move rfl rfl) ?_
                refine Gx.val rfl rfl rfl (val_add rfl rfl rfl (r := ((i + 1 : Nat) : Int)) (w64 (by omega) (by omega))) ?_
                refine Gx.val rfl rfl rfl (val_assign rfl rfl) ?_
                refine Gx.done ?_
                refine Gx.thenN ?_
                exact Gx.round (i + 1, x.rnd, bs) ⟨by first | omega | (dsimp only; omega), by first | omega | (dsimp only; omega), by first | omega | (dsimp only; omega), fun b hb => by
                  rcases Nat.lt_or_ge b i with q | q
                  · have := htp b q; (try dsimp only); omega
                  · obtain rfl : b = i := by (try dsimp only at hb); omega
                    rw [Mt.rndM_of hx]; (try dsimp only); omega, hbc, fun b hb hc => by
                  rcases Nat.lt_or_ge b i with q | q
                  · exact hbm b q hc
                  · obtain rfl : b = i := by (try dsimp only at hb); omega
                    rw [Mt.rndM_of hx, Mt.rndM_of hxb]; omega⟩ (by first | omega | (dsimp only; omega)) ((.cons rfl (.cons rfl (.cons rfl (.cons rfl (.cons rfl (.cons rfl (.cons rfl (.cons rfl (.cons rfl (.cons rfl (.cons rfl (.cons rfl .nil))))))))))))) rfl
            · refine Gq.skipg rfl rfl rfl rfl rfl rfl ?_
              refine Gq.skipg rfl rfl rfl rfl rfl rfl ?_
              refine Gq.skipg rfl rfl rfl rfl rfl rfl ?_
              refine Gq.skipg rfl rfl rfl rfl rfl rfl ?_
              refine Gq.skipg rfl rfl rfl rfl rfl rfl ?_
              refine Gq.skipg rfl rfl rfl rfl rfl rfl ?_
              refine Gq.skipg rfl rfl rfl rfl rfl rfl ?_
              refine Gq.skipg rfl rfl rfl rfl rfl rfl ?_
              refine Gq.skipg rfl rfl rfl rfl rfl rfl ?_
              refine Gq.skipg rfl rfl rfl rfl rfl rfl ?_
              refine Gq.skipg rfl rfl rfl rfl rfl rfl ?_
              refine Gq.skipg rfl rfl rfl rfl rfl rfl ?_
              refine Gq.skipg rfl rfl rfl rfl rfl rfl ?_
              refine Gq.skipg rfl rfl rfl rfl rfl rfl ?_
              refine Gq.skipg rfl rfl rfl rfl rfl rfl ?_
              refine Gq.val rfl rfl rfl (val_pickF rfl rfl rfl) ?_
              refine Gq.done ?_
              refine Gx.thenN ?_
              refine Gx.f rfl ?_
              refine Gx.skip ?_
              refine Gx.blkN ?_
              refine Gx.thenN ?_
              refine Gx.region ?_
              refine Gx.val rfl rfl rfl (val_move rfl rfl) ?_
              refine Gx.val rfl rfl rfl (val_add rfl rfl rfl (r := ((i + 1 : Nat) : Int)) (w64 (by omega) (by omega))) ?_
              refine Gx.val rfl rfl rfl (val_assign rfl rfl) ?_
              refine Gx.done ?_
              refine Gx.thenN ?_
              exact Gx.round (i + 1, x.rnd, bs) ⟨by first | omega | (dsimp only; omega), by first | omega | (dsimp only; omega), by first | omega | (dsimp only; omega), fun b hb => by
                rcases Nat.lt_or_ge b i with q | q
                · have := htp b q; (try dsimp only); omega
                · obtain rfl : b = i := by (try dsimp only at hb); omega
                  rw [Mt.rndM_of hx]; (try dsimp only); omega, hbc, fun b hb hc => by
                rcases Nat.lt_or_ge b i with q | q
                · exact hbm b q hc
                · obtain rfl : b = i := by (try dsimp only at hb); omega
                  exact absurd (cert_on hy hc) (by rw [h44]; simp)⟩ (by first | omega | (dsimp only; omega)) ((.cons rfl (.cons rfl (.cons rfl (.cons rfl (.cons rfl (.cons rfl (.cons rfl (.cons rfl (.cons rfl (.cons rfl (.cons rfl (.cons rfl .nil))))))))))))) rfl
          · refine Gx.skip ?_
            refine Gx.thenN ?_
            refine Gx.seq ?_
            refine Gx.regionQ Tryd.mixed (by kernel_rfl) ?_
            refine Gq.val rfl rfl rfl (Val.cast (val_fieldAddr rfl Tryd.underlying34 rfl Tryd.ty30 rfl rfl) (v' := ptr b38 0) rfl) ?_
            refine Gq.val rfl rfl rfl (Val.cast (val_fieldAddr rfl Tryd.underlying30 rfl Tryd.ty28 rfl rfl) (v' := ptr b38 2) rfl) ?_
            refine Gq.val rfl rfl rfl (val_load rfl Tryd.ty28 rfl rfl (cell_rec (k := 0) rfl rfl)) ?_
            refine Gq.val rfl rfl rfl (val_move rfl rfl) ?_
            refine Gq.val rfl rfl rfl (val_ixa rfl Tryd.underlying28 Tryd.ty4 rfl rfl (j := i) (rfl) (reach_base hwv3 hy)) ?_
            refine Gq.val rfl rfl rfl (val_load rfl Tryd.ty4 rfl rfl (cell_base (i := 0) hwv3 hy rfl)) ?_
            refine Gq.val rfl rfl rfl (val_move rfl rfl) ?_
            refine Gq.casesB (t := 113) rfl (fun h46 => ?_) (fun h46 => ?_)
            · refine Gq.valg rfl rfl rfl rfl rfl (Val.cast (val_fieldAddr rfl Tryd.underlying34 rfl Tryd.ty30 rfl rfl) (v' := ptr b38 0) rfl) ?_
              refine Gq.valg rfl rfl rfl rfl rfl (Val.cast (val_fieldAddr rfl Tryd.underlying30 rfl Tryd.ty27 rfl rfl) (v' := ptr b38 1) rfl) ?_
              refine Gq.valg rfl rfl rfl rfl rfl (val_load rfl Tryd.ty27 rfl rfl (cell_rec (k := 0) rfl rfl)) ?_
              refine Gq.valg rfl rfl rfl rfl rfl (val_move rfl rfl) ?_
              refine Gq.valg rfl rfl rfl rfl rfl (val_ixa rfl Tryd.underlying27 Tryd.ty45 rfl rfl (j := i) (rfl) (reach_base hbv2 hx)) ?_
              refine Gq.valg rfl rfl rfl rfl rfl (Val.cast (val_fieldAddr rfl Tryd.underlying45 rfl Tryd.ty3 rfl rfl) (v' := ptr (sB (.slice sa20 sn21 sc22)) (sO (.slice sa20 sn21 sc22) + i * 2 + 1)) rfl) ?_
              refine Gq.valg rfl rfl rfl rfl rfl (val_load rfl Tryd.ty3 rfl rfl (cell_base (i := 1) hbv2 hx rfl)) ?_
              refine Gq.valg rfl rfl rfl rfl rfl (Val.cast (val_fieldAddr rfl Tryd.underlying34 rfl Tryd.ty30 rfl rfl) (v' := ptr b38 0) rfl) ?_
              refine Gq.valg rfl rfl rfl rfl rfl (Val.cast (val_fieldAddr rfl Tryd.underlying30 rfl Tryd.ty27 rfl rfl) (v' := ptr b38 1) rfl) ?_
              refine Gq.valg rfl rfl rfl rfl rfl (val_load rfl Tryd.ty27 rfl rfl (cell_rec (k := 0) rfl rfl)) ?_
              refine Gq.valg rfl rfl rfl rfl rfl (val_move rfl rfl) ?_
              refine Gq.valg rfl rfl rfl rfl rfl (val_ixa rfl Tryd.underlying27 Tryd.ty45 rfl rfl (j := bs) (rfl) (reach_base hbv2 hxb)) ?_
              refine Gq.valg rfl rfl rfl rfl rfl (Val.cast (val_fieldAddr rfl Tryd.underlying45 rfl Tryd.ty3 rfl rfl) (v' := ptr (sB (.slice sa20 sn21 sc22)) (sO (.slice sa20 sn21 sc22) + bs * 2 + 1)) rfl) ?_
              refine Gq.valg rfl rfl rfl rfl rfl (val_load rfl Tryd.ty3 rfl rfl (cell_base (i := 1) hbv2 hxb rfl)) ?_
              refine Gq.valg rfl rfl rfl rfl rfl (val_gtr rfl rfl rfl) ?_
              refine Gq.val rfl rfl rfl (val_pickT rfl rfl rfl) ?_
              refine Gq.done ?_
              refine Gx.thenN ?_
              refine Gx.dec rfl (fun h47 => ?_) (fun h47 => ?_)
              · refine Gx.region ?_
                refine Gx.val rfl rfl rfl (val_move rfl rfl) ?_
                refine Gx.val rfl rfl rfl (val_assign rfl rfl) ?_
                refine Gx.done ?_
                refine Gx.blkN ?_
                refine Gx.thenN ?_
                refine Gx.region ?_
                refine Gx.val rfl rfl rfl (val_move rfl rfl) ?_
                refine Gx.val rfl rfl rfl (val_add rfl rfl rfl (r := ((i + 1 : Nat) : Int)) (w64 (by omega) (by omega))) ?_
                refine Gx.val rfl rfl rfl (val_assign rfl rfl) ?_
                refine Gx.done ?_
                refine Gx.thenN ?_
                exact Gx.round (i + 1, tp, i) ⟨by first | omega | (dsimp only; omega), by first | omega | (dsimp only; omega), by first | omega | (dsimp only; omega), fun b hb => by
                  rcases Nat.lt_or_ge b i with q | q
                  · have := htp b q; (try dsimp only); omega
                  · obtain rfl : b = i := by (try dsimp only at hb); omega
                    rw [Mt.rndM_of hx]; (try dsimp only); omega, cert_at hy h46, fun b hb hc => by
                  rw [Mt.rndM_of hx]
                  rcases Nat.lt_or_ge b i with q | q
                  · have := hbm b q hc; rw [Mt.rndM_of hxb] at this; omega
                  · obtain rfl : b = i := by (try dsimp only at hb); omega
                    rw [Mt.rndM_of hx]; exact Nat.le_refl _⟩ (by first | omega | (dsimp only; omega)) ((.cons rfl (.cons rfl (.cons rfl (.cons rfl (.cons rfl (.cons rfl (.cons rfl (.cons rfl (.cons rfl (.cons rfl (.cons rfl (.cons rfl .nil))))))))))))) rfl
              · refine Gx.skip ?_
                refine Gx.blkN ?_
                refine Gx.thenN ?_
                refine Gx.region ?_
                refine Gx.val rfl rfl rfl (val_move rfl rfl) ?_
                refine Gx.val rfl rfl rfl (val_add rfl rfl rfl (r := ((i + 1 : Nat) : Int)) (w64 (by omega) (by omega))) ?_
                refine Gx.val rfl rfl rfl (val_assign rfl rfl) ?_
                refine Gx.done ?_
                refine Gx.thenN ?_
                exact Gx.round (i + 1, tp, bs) ⟨by first | omega | (dsimp only; omega), by first | omega | (dsimp only; omega), by first | omega | (dsimp only; omega), fun b hb => by
                  rcases Nat.lt_or_ge b i with q | q
                  · have := htp b q; (try dsimp only); omega
                  · obtain rfl : b = i := by (try dsimp only at hb); omega
                    rw [Mt.rndM_of hx]; (try dsimp only); omega, hbc, fun b hb hc => by
                  rcases Nat.lt_or_ge b i with q | q
                  · exact hbm b q hc
                  · obtain rfl : b = i := by (try dsimp only at hb); omega
                    rw [Mt.rndM_of hx, Mt.rndM_of hxb]; omega⟩ (by first | omega | (dsimp only; omega)) ((.cons rfl (.cons rfl (.cons rfl (.cons rfl (.cons rfl (.cons rfl (.cons rfl (.cons rfl (.cons rfl (.cons rfl (.cons rfl (.cons rfl .nil))))))))))))) rfl
            · refine Gq.skipg rfl rfl rfl rfl rfl rfl ?_
              refine Gq.skipg rfl rfl rfl rfl rfl rfl ?_
              refine Gq.skipg rfl rfl rfl rfl rfl rfl ?_
              refine Gq.skipg rfl rfl rfl rfl rfl rfl ?_
              refine Gq.skipg rfl rfl rfl rfl rfl rfl ?_
              refine Gq.skipg rfl rfl rfl rfl rfl rfl ?_
              refine Gq.skipg rfl rfl rfl rfl rfl rfl ?_
              refine Gq.skipg rfl rfl rfl rfl rfl rfl ?_
              refine Gq.skipg rfl rfl rfl rfl rfl rfl ?_
              refine Gq.skipg rfl rfl rfl rfl rfl rfl ?_
              refine Gq.skipg rfl rfl rfl rfl rfl rfl ?_
              refine Gq.skipg rfl rfl rfl rfl rfl rfl ?_
              refine Gq.skipg rfl rfl rfl rfl rfl rfl ?_
              refine Gq.skipg rfl rfl rfl rfl rfl rfl ?_
              refine Gq.skipg rfl rfl rfl rfl rfl rfl ?_
              refine Gq.val rfl rfl rfl (val_pickF rfl rfl rfl) ?_
              refine Gq.done ?_
              refine Gx.thenN ?_
              refine Gx.f rfl ?_
              refine Gx.skip ?_
              refine Gx.blkN ?_
              refine Gx.thenN ?_
              refine Gx.region ?_
              refine Gx.val rfl rfl rfl (val_move rfl rfl) ?_
              refine Gx.val rfl rfl rfl (val_add rfl rfl rfl (r := ((i + 1 : Nat) : Int)) (w64 (by omega) (by omega))) ?_
              refine Gx.val rfl rfl rfl (val_assign rfl rfl) ?_
              refine Gx.done ?_
              refine Gx.thenN ?_
              exact Gx.round (i + 1, tp, bs) ⟨by first | omega | (dsimp only; omega), by first | omega | (dsimp only; omega), by first | omega | (dsimp only; omega), fun b hb => by
                rcases Nat.lt_or_ge b i with q | q
                · have := htp b q; (try dsimp only); omega
                · obtain rfl : b = i := by (try dsimp only at hb); omega
                  rw [Mt.rndM_of hx]; (try dsimp only); omega, hbc, fun b hb hc => by
                rcases Nat.lt_or_ge b i with q | q
                · exact hbm b q hc
                · obtain rfl : b = i := by (try dsimp only at hb); omega
                  exact absurd (cert_on hy hc) (by rw [h46]; simp)⟩ (by first | omega | (dsimp only; omega)) ((.cons rfl (.cons rfl (.cons rfl (.cons rfl (.cons rfl (.cons rfl (.cons rfl (.cons rfl (.cons rfl (.cons rfl (.cons rfl (.cons rfl .nil))))))))))))) rfl
        · refine Gx.exit ?_
          refine Gx.thenE ?_
          refine Gx.thenE ?_
          refine Gx.blkE ?_
          refine Gx.thenN ?_
          refine Gx.seq ?_
          refine Gx.seq ?_
          obtain rfl : i = (Mt.stM c (Mt.ms0 c.n) cs).bl.length := by omega
          refine Gx.region ?_
          refine Gx.val rfl rfl rfl (val_move rfl rfl) ?_
          refine Gx.val rfl rfl rfl (val_len rfl Tryd.underlying23 rfl (len_base hs11)) ?_
          refine Gx.val rfl rfl rfl (val_move rfl rfl) ?_
          refine Gx.done ?_
          refine Gx.thenN ?_
          refine Gx.block ?_
          refine Gx.loop (ι := Nat × Nat) (fun ξ => (ξ.1 ≤ cs.length) ∧ (ξ.2 ≤ 1000) ∧ (∀ b, b < (Mt.stM c (Mt.ms0 c.n) cs).bl.length → Mt.rndM (Mt.stM c (Mt.ms0 c.n) cs) b ≤ ξ.2) ∧ (∀ z ∈ cs.take ξ.1, z.kind = 3 → z.rnd ≤ 1000 → z.rnd ≤ ξ.2)) (fun ξ => [(0, .int .i64 ((c.n : Nat) : Int)), (1, .int .i64 ((f : Nat) : Int)), (2, .int .u32 ((c.L : Nat) : Int)), (3, sv), (4, mv), (5, pv), (6, .slice ma more.length mc), (15, ptr b38 0), (17, .int .i64 ((((Mt.stM c (Mt.ms0 c.n) cs).bl).length : Nat) : Int)), (18, .int .i64 ((bs : Nat) : Int)), (131, sv), (132, .int .i64 ((cs.length : Nat) : Int)), (133, .int .i64 ((ξ.1 : Nat) : Int)), (19, .int .i64 ((ξ.2 : Nat) : Int))]) (fun ξ => [Hp.rec_ b38 [.slice sa17 sn18 sc19, .slice sa20 sn21 sc22, .slice sa23 sn24 sc25, .slice sa26 sn27 sc28, .slice sa29 sn30 sc31, .slice sa32 sn33 sc34, .slice sa35 sn36 sc37]]) (fun ξ => cs.length - ξ.1) (0, tp) ⟨by first | omega | (dsimp only; omega), htp1, htp, fun z hz => by simp at hz⟩ ((.cons rfl (.cons rfl (.cons rfl (.cons rfl (.cons rfl (.cons rfl (.cons rfl (.cons rfl (.cons rfl (.cons rfl (.cons rfl (.cons rfl (.cons rfl (.cons rfl .nil))))))))))))))) rfl ?_
          rintro ⟨j, tq⟩ ⟨hj, hq1, hq, hc⟩
          dsimp only at hj hq1 hq hc
          refine Gx.know (m' := [(0, .int .i64 ((c.n : Nat) : Int)), (1, .int .i64 ((f : Nat) : Int)), (2, .int .u32 ((c.L : Nat) : Int)), (3, sv), (4, mv), (5, pv), (6, .slice ma more.length mc), (15, ptr b38 0), (17, .int .i64 ((((Mt.stM c (Mt.ms0 c.n) cs).bl).length : Nat) : Int)), (18, .int .i64 ((bs : Nat) : Int)), (131, sv), (132, .int .i64 ((cs.length : Nat) : Int)), (133, .int .i64 ((j : Nat) : Int)), (19, .int .i64 ((tq : Nat) : Int))]) (.cons rfl (.cons rfl (.cons rfl (.cons rfl (.cons rfl (.cons rfl (.cons rfl (.cons rfl (.cons rfl (.cons rfl (.cons rfl (.cons rfl (.cons rfl (.cons rfl .nil)))))))))))))) (Gx.norm (l' := [Hp.rec_ b38 [.slice sa17 sn18 sc19, .slice sa20 sn21 sc22, .slice sa23 sn24 sc25, .slice sa26 sn27 sc28, .slice sa29 sn30 sc31, .slice sa32 sn33 sc34, .slice sa35 sn36 sc37]]) rfl ?_)
          refine Gx.seq ?_
          refine Gx.region ?_
          refine Gx.val rfl rfl rfl (val_lss rfl rfl rfl) ?_
          refine Gx.done ?_
          refine Gx.thenN ?_
          refine Gx.seq ?_
          refine Gx.dec rfl (fun h48 => ?_) (fun h48 => ?_)
          · refine Gx.skip ?_
            refine Gx.thenN ?_
            refine Gx.seq ?_
            refine Gx.block ?_
            refine Gx.seq ?_
            refine Gx.region ?_
            obtain ⟨x49, hx49⟩ := get_of_lt (xs := cs) (k := j) (by first | omega | (simp; omega))
            refine Gx.val rfl rfl rfl (val_ixa rfl Tryd.underlying23 Tryd.ty47 rfl rfl (j := j) (rfl) (reach_base hs11 hx49)) ?_
            refine Gx.val rfl rfl rfl (Val.cast (val_loadA rfl Tryd.ty47 rfl rfl rfl (cells_base hs11 hx49)) (v' := .agg #[.int .i64 x49.kind, .int .i64 x49.who, .int .i64 x49.blk, .int .i64 x49.rnd, .int .i64 x49.hi]) rfl) ?_
            refine Gx.eff rfl rfl rfl (eff_alloc rfl Tryd.ty47 (vs := [.int .i64 0, .int .i64 0, .int .i64 0, .int .i64 0, .int .i64 0]) rfl) ?_
            rintro _ _ ⟨b50, rfl, rfl⟩
            refine Gx.eff0 rfl rfl (eff_store rfl Tryd.ty47 rfl rfl (us := [.int .i64 x49.kind, .int .i64 x49.who, .int .i64 x49.blk, .int .i64 x49.rnd, .int .i64 x49.hi]) rfl rfl rfl (k := 0) rfl (rfl) (vs' := [.int .i64 x49.kind, .int .i64 x49.who, .int .i64 x49.blk, .int .i64 x49.rnd, .int .i64 x49.hi]) (rfl) (l' := [Hp.rec_ b50 [.int .i64 x49.kind, .int .i64 x49.who, .int .i64 x49.blk, .int .i64 x49.rnd, .int .i64 x49.hi], Hp.rec_ b38 [.slice sa17 sn18 sc19, .slice sa20 sn21 sc22, .slice sa23 sn24 sc25, .slice sa26 sn27 sc28, .slice sa29 sn30 sc31, .slice sa32 sn33 sc34, .slice sa35 sn36 sc37]]) rfl) ?_
            rintro _ _ rfl
            refine Gx.done ?_
            refine Gx.thenN ?_
            refine Gx.seq ?_
            refine Gx.region ?_
            refine Gx.val rfl rfl rfl (Val.cast (val_fieldAddr rfl Tryd.underlying47 rfl Tryd.ty3 rfl rfl) (v' := ptr b50 0) rfl) ?_
            refine Gx.val rfl rfl rfl (val_load rfl Tryd.ty3 rfl rfl (cell_rec (k := 0) rfl rfl)) ?_
            refine Gx.val rfl rfl rfl (val_eql rfl rfl rfl) ?_
            refine Gx.val rfl rfl rfl (val_move rfl rfl) ?_
            refine Gx.cases (t := 140) rfl (fun h51 => ?_) (fun h51 => ?_)
            · refine Gx.valg rfl rfl rfl rfl rfl (Val.cast (val_fieldAddr rfl Tryd.underlying47 rfl Tryd.ty3 rfl rfl) (v' := ptr b50 3) rfl) ?_
              refine Gx.valg rfl rfl rfl rfl rfl (val_load rfl Tryd.ty3 rfl rfl (cell_rec (k := 0) rfl rfl)) ?_
              refine Gx.valg rfl rfl rfl rfl rfl (val_move rfl rfl) ?_
              refine Gx.valg rfl rfl rfl rfl rfl (val_gtr rfl rfl rfl) ?_
              refine Gx.val rfl rfl rfl (val_pickT rfl rfl rfl) ?_
              refine Gx.val rfl rfl rfl (val_move rfl rfl) ?_
              refine Gx.cases (t := 146) rfl (fun h52 => ?_) (fun h52 => ?_)
              · refine Gx.valg rfl rfl rfl rfl rfl (Val.cast (val_fieldAddr rfl Tryd.underlying47 rfl Tryd.ty3 rfl rfl) (v' := ptr b50 3) rfl) ?_
                refine Gx.valg rfl rfl rfl rfl rfl (val_load rfl Tryd.ty3 rfl rfl (cell_rec (k := 0) rfl rfl)) ?_
                refine Gx.valg rfl rfl rfl rfl rfl (val_leq rfl rfl rfl) ?_
                refine Gx.val rfl rfl rfl (val_pickT rfl rfl rfl) ?_
                refine Gx.done ?_
                refine Gx.thenN ?_
                refine Gx.dec rfl (fun h53 => ?_) (fun h53 => ?_)
                · refine Gx.region ?_
                  refine Gx.val rfl rfl rfl (Val.cast (val_fieldAddr rfl Tryd.underlying47 rfl Tryd.ty3 rfl rfl) (v' := ptr b50 3) rfl) ?_
                  refine Gx.val rfl rfl rfl (val_load rfl Tryd.ty3 rfl rfl (cell_rec (k := 0) rfl rfl)) ?_
                  obtain ⟨rr, hrr⟩ := Int.eq_ofNat_of_zero_le (a := x49.rnd) (by omega)
                  refine Gx.slot (t := 152) (v := .int .i64 ((rr : Nat) : Int)) (by rw [← hrr]; rfl) ?_
                  refine Gx.val rfl rfl rfl (val_assign rfl rfl) ?_
                  refine Gx.done ?_
                  refine Gx.blkN ?_
                  refine Gx.thenN ?_
                  refine Gx.region ?_
                  refine Gx.val rfl rfl rfl (val_add rfl rfl rfl (r := ((j + 1 : Nat) : Int)) (w64 (by omega) (by omega))) ?_
                  refine Gx.val rfl rfl rfl (val_move rfl rfl) ?_
                  refine Gx.done ?_
                  refine Gx.thenN ?_
                  refine Gx.drop 0 rfl ?_
                  exact Gx.round (j + 1, rr) ⟨by first | omega | (dsimp only; omega), by first | omega | (dsimp only; omega), fun b hb => by have := hq b hb; (try dsimp only); omega, fun z hz hk hr => by
                    rw [Mt.take_snoc' hx49] at hz
                    rcases List.mem_append.1 hz with q | q
                    · have := hc z q hk hr; (try dsimp only); omega
                    · rw [List.mem_singleton] at q; subst q; (try dsimp only); omega⟩ (by first | omega | (dsimp only; omega)) ((.cons rfl (.cons rfl (.cons rfl (.cons rfl (.cons rfl (.cons rfl (.cons rfl (.cons rfl (.cons rfl (.cons rfl (.cons rfl (.cons rfl (.cons rfl (.cons rfl .nil))))))))))))))) rfl
                · refine Gx.skip ?_
                  refine Gx.blkN ?_
                  refine Gx.thenN ?_
                  refine Gx.region ?_
                  refine Gx.val rfl rfl rfl (val_add rfl rfl rfl (r := ((j + 1 : Nat) : Int)) (w64 (by omega) (by omega))) ?_
                  refine Gx.val rfl rfl rfl (val_move rfl rfl) ?_
                  refine Gx.done ?_
                  refine Gx.thenN ?_
                  refine Gx.drop 0 rfl ?_
                  exact Gx.round (j + 1, tq) ⟨by first | omega | (dsimp only; omega), by first | omega | (dsimp only; omega), fun b hb => by have := hq b hb; (try dsimp only); omega, fun z hz hk hr => by
                    rw [Mt.take_snoc' hx49] at hz
                    rcases List.mem_append.1 hz with q | q
                    · have := hc z q hk hr; (try dsimp only); omega
                    · rw [List.mem_singleton] at q; subst q; (try dsimp only); omega⟩ (by first | omega | (dsimp only; omega)) ((.cons rfl (.cons rfl (.cons rfl (.cons rfl (.cons rfl (.cons rfl (.cons rfl (.cons rfl (.cons rfl (.cons rfl (.cons rfl (.cons rfl (.cons rfl (.cons rfl .nil))))))))))))))) rfl
              · refine Gx.skipg rfl rfl rfl rfl rfl rfl ?_
                refine Gx.skipg rfl rfl rfl rfl rfl rfl ?_
                refine Gx.skipg rfl rfl rfl rfl rfl rfl ?_
                refine Gx.val rfl rfl rfl (val_pickF rfl rfl rfl) ?_
                refine Gx.done ?_
                refine Gx.thenN ?_
                refine Gx.f rfl ?_
                refine Gx.skip ?_
                refine Gx.blkN ?_
                refine Gx.thenN ?_
                refine Gx.region ?_
                refine Gx.val rfl rfl rfl (val_add rfl rfl rfl (r := ((j + 1 : Nat) : Int)) (w64 (by omega) (by omega))) ?_
                refine Gx.val rfl rfl rfl (val_move rfl rfl) ?_
                refine Gx.done ?_
                refine Gx.thenN ?_
                refine Gx.drop 0 rfl ?_
                exact Gx.round (j + 1, tq) ⟨by first | omega | (dsimp only; omega), by first | omega | (dsimp only; omega), fun b hb => by have := hq b hb; (try dsimp only); omega, fun z hz hk hr => by
                  rw [Mt.take_snoc' hx49] at hz
                  rcases List.mem_append.1 hz with q | q
                  · have := hc z q hk hr; (try dsimp only); omega
                  · rw [List.mem_singleton] at q; subst q; (try dsimp only); omega⟩ (by first | omega | (dsimp only; omega)) ((.cons rfl (.cons rfl (.cons rfl (.cons rfl (.cons rfl (.cons rfl (.cons rfl (.cons rfl (.cons rfl (.cons rfl (.cons rfl (.cons rfl (.cons rfl (.cons rfl .nil))))))))))))))) rfl
            · refine Gx.skipg rfl rfl rfl rfl rfl rfl ?_
              refine Gx.skipg rfl rfl rfl rfl rfl rfl ?_
              refine Gx.skipg rfl rfl rfl rfl rfl rfl ?_
              refine Gx.skipg rfl rfl rfl rfl rfl rfl ?_
              refine Gx.val rfl rfl rfl (val_pickF rfl rfl rfl) ?_
              refine Gx.val rfl rfl rfl (val_move rfl rfl) ?_
              refine Gx.skipg rfl rfl rfl rfl rfl rfl ?_
              refine Gx.skipg rfl rfl rfl rfl rfl rfl ?_
              refine Gx.skipg rfl rfl rfl rfl rfl rfl ?_
              refine Gx.val rfl rfl rfl (val_pickF rfl rfl rfl) ?_
              refine Gx.done ?_
              refine Gx.thenN ?_
              refine Gx.f rfl ?_
              refine Gx.skip ?_
              refine Gx.blkN ?_
              refine Gx.thenN ?_
              refine Gx.region ?_
              refine Gx.val rfl rfl rfl (val_add rfl rfl rfl (r := ((j + 1 : Nat) : Int)) (w64 (by omega) (by omega))) ?_
              refine Gx.val rfl rfl rfl (val_move rfl rfl) ?_
              refine Gx.done ?_
              refine Gx.thenN ?_
              refine Gx.drop 0 rfl ?_
              exact Gx.round (j + 1, tq) ⟨by first | omega | (dsimp only; omega), by first | omega | (dsimp only; omega), fun b hb => by have := hq b hb; (try dsimp only); omega, fun z hz hk hr => by
                rw [Mt.take_snoc' hx49] at hz
                rcases List.mem_append.1 hz with q | q
                · have := hc z q hk hr; (try dsimp only); omega
                · rw [List.mem_singleton] at q; subst q; (try dsimp only); omega⟩ (by first | omega | (dsimp only; omega)) ((.cons rfl (.cons rfl (.cons rfl (.cons rfl (.cons rfl (.cons rfl (.cons rfl (.cons rfl (.cons rfl (.cons rfl (.cons rfl (.cons rfl (.cons rfl (.cons rfl .nil))))))))))))))) rfl
          · refine Gx.exit ?_
            refine Gx.thenE ?_
            refine Gx.thenE ?_
            refine Gx.blkE ?_
            refine Gx.thenN ?_
            refine Gx.seq ?_
            refine Gx.seq ?_
            obtain rfl : j = cs.length := by omega
            rw [List.take_length] at hc
            refine Gx.region ?_
            refine Gx.val rfl rfl rfl (val_move rfl rfl) ?_
            refine Gx.val rfl rfl rfl (val_add rfl rfl rfl (r := ((tq + 3 : Nat) : Int)) (w64 (by omega) (by omega))) ?_
            refine Gx.val rfl rfl rfl (val_gtr rfl rfl rfl) ?_
            refine Gx.done ?_
            refine Gx.thenN ?_
            refine Gx.dec rfl (fun h54 => ?_) (fun h54 => ?_)
            · refine Gx.seq ?_
              refine Gx.region ?_
              refine Gx.val rfl rfl rfl (val_assign rfl rfl) ?_
              refine Gx.done ?_
              refine Gx.thenN ?_
              refine Gx.ret ?_
              refine Gx.thenR ?_
              refine Gx.ret1B hW10 Tryd.results4 rfl ?_
              first | rfl | exact congrArg Value.bool (decide_eq_true (by omega))
            · refine Gx.skip ?_
              refine Gx.thenN ?_
              refine Gx.seq ?_
              refine Gx.region ?_
              refine Gx.eff rfl rfl rfl (eff_buildNil (f := Mt.FM) (sz := 5) (e := 47) rfl Tryd.underlying23 (fun w => by first | (go_simp; done) | (go_simp; rfl))) ?_
              rintro v55 _ ⟨hiv55, rfl⟩
              refine Gx.val rfl rfl rfl (val_move rfl rfl) ?_
              refine Gx.eff rfl rfl rfl (eff_pushAll (k := 0) (ys := cs) rfl Mt.Tryd.eM Mt.FM_len Mt.FM_one rfl rfl (fun w H => hs11.below H.below) rfl (by simp; omega) (by simp; omega)) ?_
              rintro v56 _ ⟨hiv56, rfl⟩
              refine Gx.norm (l' := [Hp.own Mt.FM 5 v56 cs, Hp.rec_ b38 [.slice sa17 sn18 sc19, .slice sa20 sn21 sc22, .slice sa23 sn24 sc25, .slice sa26 sn27 sc28, .slice sa29 sn30 sc31, .slice sa32 sn33 sc34, .slice sa35 sn36 sc37]]) rfl ?_
              refine Gx.val rfl rfl rfl (val_assign rfl rfl) ?_
              refine Gx.done ?_
              refine Gx.thenN ?_
              refine Gx.seq ?_
              refine Gx.seq ?_
              obtain ⟨aN, haN⟩ : ∃ aN, aN = (Mt.stM c (Mt.ms0 c.n) cs).bl.length := ⟨_, rfl⟩
              refine Gx.slot (t := 17) (v := .int .i64 ((aN : Nat) : Int)) (by rw [haN]; rfl) ?_
              refine Gx.region ?_
              refine Gx.val rfl rfl rfl (val_assign rfl rfl) ?_
              refine Gx.done ?_
              refine Gx.thenN ?_
              refine Gx.block ?_
              refine Gx.norm (l' := [Hp.own Mt.FM 5 v56 (cs ++ Mt.pairsL bs (tq + 1) 0), Hp.rec_ b38 [.slice sa17 sn18 sc19, .slice sa20 sn21 sc22, .slice sa23 sn24 sc25, .slice sa26 sn27 sc28, .slice sa29 sn30 sc31, .slice sa32 sn33 sc34, .slice sa35 sn36 sc37]]) (by rw [show Mt.pairsL bs (tq + 1) 0 = [] from rfl, List.append_nil] <;> rfl) ?_
              refine Gx.loop (ι := Nat × Value) (fun ξ => (ξ.1 ≤ c.n) ∧ (IsS ξ.2)) (fun ξ => [(0, .int .i64 ((c.n : Nat) : Int)), (1, .int .i64 ((f : Nat) : Int)), (2, .int .u32 ((c.L : Nat) : Int)), (3, sv), (4, mv), (5, pv), (6, .slice ma more.length mc), (15, ptr b38 0), (17, .int .i64 ((aN : Nat) : Int)), (18, .int .i64 ((bs : Nat) : Int)), (19, .int .i64 ((tq : Nat) : Int)), (24, .int .i64 ((ξ.1 : Nat) : Int)), (23, ξ.2)]) (fun ξ => [Hp.own Mt.FM 5 ξ.2 (cs ++ Mt.pairsL bs (tq + 1) ξ.1), Hp.rec_ b38 [.slice sa17 sn18 sc19, .slice sa20 sn21 sc22, .slice sa23 sn24 sc25, .slice sa26 sn27 sc28, .slice sa29 sn30 sc31, .slice sa32 sn33 sc34, .slice sa35 sn36 sc37]]) (fun ξ => c.n - ξ.1) (0, v56) ⟨by first | omega | (dsimp only; omega), hiv56⟩ ((.cons rfl (.cons rfl (.cons rfl (.cons rfl (.cons rfl (.cons rfl (.cons rfl (.cons rfl (.cons rfl (.cons rfl (.cons rfl (.cons rfl (.cons rfl .nil)))))))))))))) rfl ?_
              rintro ⟨m, av⟩ ⟨hm, hia⟩
              dsimp only at hm hia
              refine Gx.know (m' := [(0, .int .i64 ((c.n : Nat) : Int)), (1, .int .i64 ((f : Nat) : Int)), (2, .int .u32 ((c.L : Nat) : Int)), (3, sv), (4, mv), (5, pv), (6, .slice ma more.length mc), (15, ptr b38 0), (17, .int .i64 ((aN : Nat) : Int)), (18, .int .i64 ((bs : Nat) : Int)), (19, .int .i64 ((tq : Nat) : Int)), (24, .int .i64 ((m : Nat) : Int)), (23, av)]) (.cons rfl (.cons rfl (.cons rfl (.cons rfl (.cons rfl (.cons rfl (.cons rfl (.cons rfl (.cons rfl (.cons rfl (.cons rfl (.cons rfl (.cons rfl .nil))))))))))))) (Gx.norm (l' := [Hp.own Mt.FM 5 av (cs ++ Mt.pairsL bs (tq + 1) m), Hp.rec_ b38 [.slice sa17 sn18 sc19, .slice sa20 sn21 sc22, .slice sa23 sn24 sc25, .slice sa26 sn27 sc28, .slice sa29 sn30 sc31, .slice sa32 sn33 sc34, .slice sa35 sn36 sc37]]) rfl ?_)
              have hpl := Mt.pairsL_len bs (tq + 1) m
              have hpn := Mt.pairsL_len bs (tq + 1) c.n
              have hv1 := Mt.votesL_len aN m
              have hv1n := Mt.votesL_len aN c.n
              have hv2 := Mt.votesL_len (aN + 1) m
              refine Gx.seq ?_
              refine Gx.seq ?_
              refine Gx.region ?_
              refine Gx.val rfl rfl rfl (val_move rfl rfl) ?_
              refine Gx.val rfl rfl rfl (val_move rfl rfl) ?_
              refine Gx.val rfl rfl rfl (val_lss rfl rfl rfl) ?_
              refine Gx.done ?_
              refine Gx.thenN ?_
              refine Gx.dec rfl (fun h57 => ?_) (fun h57 => ?_)
              · refine Gx.skip ?_
                refine Gx.thenN ?_
                refine Gx.seq ?_
                refine Gx.block ?_
                refine Gx.region ?_
                refine Gx.val rfl rfl rfl (val_move rfl rfl) ?_
                refine Gx.val rfl rfl rfl (val_move rfl rfl) ?_
                refine Gx.val rfl rfl rfl (val_move rfl rfl) ?_
                refine Gx.val rfl rfl rfl (val_build rfl (qs := [(0, .int .i64 4), (1, .int .i64 ((m : Nat) : Int)), (2, .int .i64 ((bs : Nat) : Int))]) rfl rfl (fun w => by go_simp) (v := .agg #[.int .i64 4, .int .i64 ((m : Nat) : Int), .int .i64 ((bs : Nat) : Int), .int .i64 0, .int .i64 0])) ?_
                refine Gx.val rfl rfl rfl (val_move rfl rfl) ?_
                refine Gx.val rfl rfl rfl (val_move rfl rfl) ?_
                refine Gx.val rfl rfl rfl (val_add rfl rfl rfl (r := ((tq + 1 : Nat) : Int)) (w64 (by omega) (by omega))) ?_
                refine Gx.val rfl rfl rfl (val_build rfl (qs := [(0, .int .i64 3), (1, .int .i64 ((m : Nat) : Int)), (3, .int .i64 ((tq + 1 : Nat) : Int))]) rfl rfl (fun w => by go_simp) (v := .agg #[.int .i64 3, .int .i64 ((m : Nat) : Int), .int .i64 0, .int .i64 ((tq + 1 : Nat) : Int), .int .i64 0])) ?_
                refine Gx.eff rfl rfl rfl (eff_buildSlice rfl (qs := [(0, .agg #[.int .i64 4, .int .i64 ((m : Nat) : Int), .int .i64 ((bs : Nat) : Int), .int .i64 0, .int .i64 0]), (1, .agg #[.int .i64 3, .int .i64 ((m : Nat) : Int), .int .i64 0, .int .i64 ((tq + 1 : Nat) : Int), .int .i64 0])]) rfl rfl (cs := #[.int .i64 4, .int .i64 ((m : Nat) : Int), .int .i64 ((bs : Nat) : Int), .int .i64 0, .int .i64 0, .int .i64 3, .int .i64 ((m : Nat) : Int), .int .i64 0, .int .i64 ((tq + 1 : Nat) : Int), .int .i64 0]) (vs := [.int .i64 4, .int .i64 ((m : Nat) : Int), .int .i64 ((bs : Nat) : Int), .int .i64 0, .int .i64 0, .int .i64 3, .int .i64 ((m : Nat) : Int), .int .i64 0, .int .i64 ((tq + 1 : Nat) : Int), .int .i64 0]) (E := 47) rfl (fun w => by first | (go_simp; done) | (go_simp; rfl))) ?_
                rintro _ _ ⟨b58, rfl, rfl⟩
                refine Gx.part (k := 0) rfl (q := Hp.own Mt.FM 5 (.slice (some ⟨b58, 0, none⟩) 2 2) ([(⟨4, ((m : Nat) : Int), ((bs : Nat) : Int), 0, 0⟩ : Mt.Sy), (⟨3, ((m : Nat) : Int), 0, ((tq + 1 : Nat) : Int), 0⟩ : Mt.Sy)])) (own_of_rec (f := Mt.FM) (xs := [(⟨4, ((m : Nat) : Int), ((bs : Nat) : Int), 0, 0⟩ : Mt.Sy), (⟨3, ((m : Nat) : Int), 0, ((tq + 1 : Nat) : Int), 0⟩ : Mt.Sy)]) Mt.FM_len rfl) ?_
                refine Gx.norm (l' := [Hp.own Mt.FM 5 (.slice (some ⟨b58, 0, none⟩) 2 2) ([(⟨4, ((m : Nat) : Int), ((bs : Nat) : Int), 0, 0⟩ : Mt.Sy), (⟨3, ((m : Nat) : Int), 0, ((tq + 1 : Nat) : Int), 0⟩ : Mt.Sy)]), Hp.own Mt.FM 5 av (cs ++ Mt.pairsL bs (tq + 1) m), Hp.rec_ b38 [.slice sa17 sn18 sc19, .slice sa20 sn21 sc22, .slice sa23 sn24 sc25, .slice sa26 sn27 sc28, .slice sa29 sn30 sc31, .slice sa32 sn33 sc34, .slice sa35 sn36 sc37]]) rfl ?_
                refine Gx.eff rfl rfl rfl (eff_pushAll (k := 1) (ys := [(⟨4, ((m : Nat) : Int), ((bs : Nat) : Int), 0, 0⟩ : Mt.Sy), (⟨3, ((m : Nat) : Int), 0, ((tq + 1 : Nat) : Int), 0⟩ : Mt.Sy)]) rfl Mt.Tryd.eM Mt.FM_len Mt.FM_one rfl rfl (fun w H => (H.at_ (k := 0) rfl).sls (by simp)) rfl (by simp only [List.length_append, List.length_cons, List.length_nil]; omega) (by simp only [List.length_append, List.length_cons, List.length_nil]; omega)) ?_
                rintro v59 _ ⟨hiv59, rfl⟩
                refine Gx.norm (l' := [Hp.own Mt.FM 5 (.slice (some ⟨b58, 0, none⟩) 2 2) ([(⟨4, ((m : Nat) : Int), ((bs : Nat) : Int), 0, 0⟩ : Mt.Sy), (⟨3, ((m : Nat) : Int), 0, ((tq + 1 : Nat) : Int), 0⟩ : Mt.Sy)]), Hp.own Mt.FM 5 v59 ((cs ++ Mt.pairsL bs (tq + 1) m) ++ ([(⟨4, ((m : Nat) : Int), ((bs : Nat) : Int), 0, 0⟩ : Mt.Sy), (⟨3, ((m : Nat) : Int), 0, ((tq + 1 : Nat) : Int), 0⟩ : Mt.Sy)])), Hp.rec_ b38 [.slice sa17 sn18 sc19, .slice sa20 sn21 sc22, .slice sa23 sn24 sc25, .slice sa26 sn27 sc28, .slice sa29 sn30 sc31, .slice sa32 sn33 sc34, .slice sa35 sn36 sc37]]) rfl ?_
                refine Gx.drop 0 rfl ?_
                refine Gx.norm (l' := [Hp.own Mt.FM 5 v59 ((cs ++ Mt.pairsL bs (tq + 1) m) ++ ([(⟨4, ((m : Nat) : Int), ((bs : Nat) : Int), 0, 0⟩ : Mt.Sy), (⟨3, ((m : Nat) : Int), 0, ((tq + 1 : Nat) : Int), 0⟩ : Mt.Sy)])), Hp.rec_ b38 [.slice sa17 sn18 sc19, .slice sa20 sn21 sc22, .slice sa23 sn24 sc25, .slice sa26 sn27 sc28, .slice sa29 sn30 sc31, .slice sa32 sn33 sc34, .slice sa35 sn36 sc37]]) rfl ?_
                refine Gx.val rfl rfl rfl (val_assign rfl rfl) ?_
                refine Gx.done ?_
                refine Gx.blkN ?_
                refine Gx.thenN ?_
                refine Gx.region ?_
                refine Gx.val rfl rfl rfl (val_move rfl rfl) ?_
                refine Gx.val rfl rfl rfl (val_add rfl rfl rfl (r := ((m + 1 : Nat) : Int)) (w64 (by omega) (by omega))) ?_
                refine Gx.val rfl rfl rfl (val_assign rfl rfl) ?_
                refine Gx.done ?_
                refine Gx.thenN ?_
                refine Gx.norm (l' := [Hp.own Mt.FM 5 v59 (cs ++ Mt.pairsL bs (tq + 1) (m + 1)), Hp.rec_ b38 [.slice sa17 sn18 sc19, .slice sa20 sn21 sc22, .slice sa23 sn24 sc25, .slice sa26 sn27 sc28, .slice sa29 sn30 sc31, .slice sa32 sn33 sc34, .slice sa35 sn36 sc37]]) (by rw [Mt.pairsL_succ, ← List.append_assoc] <;> rfl) ?_
                exact Gx.round (m + 1, v59) ⟨by first | omega | (dsimp only; omega), hiv59⟩ (by first | omega | (dsimp only; omega)) ((.cons rfl (.cons rfl (.cons rfl (.cons rfl (.cons rfl (.cons rfl (.cons rfl (.cons rfl (.cons rfl (.cons rfl (.cons rfl (.cons rfl (.cons rfl .nil)))))))))))))) rfl
              · refine Gx.exit ?_
                refine Gx.thenE ?_
                refine Gx.thenE ?_
                refine Gx.blkE ?_
                refine Gx.thenN ?_
                refine Gx.seq ?_
                obtain rfl : m = c.n := by omega
                refine Gx.region ?_
                refine Gx.val rfl rfl rfl (val_move rfl rfl) ?_
                refine Gx.val rfl rfl rfl (val_move rfl rfl) ?_
                refine Gx.val rfl rfl rfl (val_move rfl rfl) ?_
                refine Gx.val rfl rfl rfl (val_add rfl rfl rfl (r := ((tq + 2 : Nat) : Int)) (w64 (by omega) (by omega))) ?_
                refine Gx.val rfl rfl rfl (val_build rfl (qs := [(0, .int .i64 1), (2, .int .i64 ((bs : Nat) : Int)), (3, .int .i64 ((tq + 2 : Nat) : Int))]) rfl rfl (fun w => by go_simp) (v := .agg #[.int .i64 1, .int .i64 0, .int .i64 ((bs : Nat) : Int), .int .i64 ((tq + 2 : Nat) : Int), .int .i64 0])) ?_
                refine Gx.eff rfl rfl rfl (eff_buildSlice rfl (qs := [(0, .agg #[.int .i64 1, .int .i64 0, .int .i64 ((bs : Nat) : Int), .int .i64 ((tq + 2 : Nat) : Int), .int .i64 0])]) rfl rfl (cs := #[.int .i64 1, .int .i64 0, .int .i64 ((bs : Nat) : Int), .int .i64 ((tq + 2 : Nat) : Int), .int .i64 0]) (vs := [.int .i64 1, .int .i64 0, .int .i64 ((bs : Nat) : Int), .int .i64 ((tq + 2 : Nat) : Int), .int .i64 0]) (E := 47) rfl (fun w => by first | (go_simp; done) | (go_simp; rfl))) ?_
                rintro _ _ ⟨b60, rfl, rfl⟩
                refine Gx.eff rfl rfl rfl (eff_push (r := (⟨1, 0, ((bs : Nat) : Int), ((tq + 2 : Nat) : Int), 0⟩ : Mt.Sy)) rfl Mt.Tryd.eM Mt.FM_len Mt.FM_one rfl rfl (k := 0) rfl rfl (k' := 0) rfl (by rw [List.length_append]; omega) (by rw [List.length_append]; omega)) ?_
                rintro v61 _ ⟨hiv61, rfl⟩
                refine Gx.norm (l' := [Hp.own Mt.FM 5 v61 ((cs ++ Mt.pairsL bs (tq + 1) c.n) ++ [(⟨1, 0, ((bs : Nat) : Int), ((tq + 2 : Nat) : Int), 0⟩ : Mt.Sy)]), Hp.rec_ b38 [.slice sa17 sn18 sc19, .slice sa20 sn21 sc22, .slice sa23 sn24 sc25, .slice sa26 sn27 sc28, .slice sa29 sn30 sc31, .slice sa32 sn33 sc34, .slice sa35 sn36 sc37]]) rfl ?_
                refine Gx.val rfl rfl rfl (val_assign rfl rfl) ?_
                refine Gx.done ?_
                refine Gx.thenN ?_
                refine Gx.seq ?_
                refine Gx.seq ?_
                refine Gx.region ?_
                refine Gx.val rfl rfl rfl (val_assign rfl rfl) ?_
                refine Gx.done ?_
                refine Gx.thenN ?_
                refine Gx.block ?_
                refine Gx.norm (l' := [Hp.own Mt.FM 5 v61 ((cs ++ Mt.pairsL bs (tq + 1) c.n ++ [Mt.blockS bs (tq + 2)]) ++ Mt.votesL aN 0), Hp.rec_ b38 [.slice sa17 sn18 sc19, .slice sa20 sn21 sc22, .slice sa23 sn24 sc25, .slice sa26 sn27 sc28, .slice sa29 sn30 sc31, .slice sa32 sn33 sc34, .slice sa35 sn36 sc37]]) (by rw [show Mt.votesL aN 0 = [] from rfl, List.append_nil] <;> rfl) ?_
                refine Gx.loop (ι := Nat × Value) (fun ξ => (ξ.1 ≤ c.n) ∧ (IsS ξ.2)) (fun ξ => [(0, .int .i64 ((c.n : Nat) : Int)), (1, .int .i64 ((f : Nat) : Int)), (2, .int .u32 ((c.L : Nat) : Int)), (3, sv), (4, mv), (5, pv), (6, .slice ma more.length mc), (15, ptr b38 0), (17, .int .i64 ((aN : Nat) : Int)), (18, .int .i64 ((bs : Nat) : Int)), (19, .int .i64 ((tq : Nat) : Int)), (25, .int .i64 ((ξ.1 : Nat) : Int)), (23, ξ.2)]) (fun ξ => [Hp.own Mt.FM 5 ξ.2 ((cs ++ Mt.pairsL bs (tq + 1) c.n ++ [Mt.blockS bs (tq + 2)]) ++ Mt.votesL aN ξ.1), Hp.rec_ b38 [.slice sa17 sn18 sc19, .slice sa20 sn21 sc22, .slice sa23 sn24 sc25, .slice sa26 sn27 sc28, .slice sa29 sn30 sc31, .slice sa32 sn33 sc34, .slice sa35 sn36 sc37]]) (fun ξ => c.n - ξ.1) (0, v61) ⟨by first | omega | (dsimp only; omega), hiv61⟩ ((.cons rfl (.cons rfl (.cons rfl (.cons rfl (.cons rfl (.cons rfl (.cons rfl (.cons rfl (.cons rfl (.cons rfl (.cons rfl (.cons rfl (.cons rfl .nil)))))))))))))) rfl ?_
                rintro ⟨m, av⟩ ⟨hm, hia⟩
                dsimp only at hm hia
                refine Gx.know (m' := [(0, .int .i64 ((c.n : Nat) : Int)), (1, .int .i64 ((f : Nat) : Int)), (2, .int .u32 ((c.L : Nat) : Int)), (3, sv), (4, mv), (5, pv), (6, .slice ma more.length mc), (15, ptr b38 0), (17, .int .i64 ((aN : Nat) : Int)), (18, .int .i64 ((bs : Nat) : Int)), (19, .int .i64 ((tq : Nat) : Int)), (25, .int .i64 ((m : Nat) : Int)), (23, av)]) (.cons rfl (.cons rfl (.cons rfl (.cons rfl (.cons rfl (.cons rfl (.cons rfl (.cons rfl (.cons rfl (.cons rfl (.cons rfl (.cons rfl (.cons rfl .nil))))))))))))) (Gx.norm (l' := [Hp.own Mt.FM 5 av ((cs ++ Mt.pairsL bs (tq + 1) c.n ++ [Mt.blockS bs (tq + 2)]) ++ Mt.votesL aN m), Hp.rec_ b38 [.slice sa17 sn18 sc19, .slice sa20 sn21 sc22, .slice sa23 sn24 sc25, .slice sa26 sn27 sc28, .slice sa29 sn30 sc31, .slice sa32 sn33 sc34, .slice sa35 sn36 sc37]]) rfl ?_)
                have hpl := Mt.pairsL_len bs (tq + 1) m
                have hpn := Mt.pairsL_len bs (tq + 1) c.n
                have hv1 := Mt.votesL_len aN m
                have hv1n := Mt.votesL_len aN c.n
                have hv2 := Mt.votesL_len (aN + 1) m
                refine Gx.seq ?_
                refine Gx.seq ?_
                refine Gx.region ?_
                refine Gx.val rfl rfl rfl (val_move rfl rfl) ?_
                refine Gx.val rfl rfl rfl (val_move rfl rfl) ?_
                refine Gx.val rfl rfl rfl (val_lss rfl rfl rfl) ?_
                refine Gx.done ?_
                refine Gx.thenN ?_
                refine Gx.dec rfl (fun h62 => ?_) (fun h62 => ?_)
                · refine Gx.skip ?_
                  refine Gx.thenN ?_
                  refine Gx.seq ?_
                  refine Gx.block ?_
                  refine Gx.region ?_
                  refine Gx.val rfl rfl rfl (val_move rfl rfl) ?_
                  refine Gx.val rfl rfl rfl (val_move rfl rfl) ?_
                  refine Gx.val rfl rfl rfl (val_move rfl rfl) ?_
                  refine Gx.val rfl rfl rfl (val_build rfl (qs := [(0, .int .i64 2), (1, .int .i64 ((m : Nat) : Int)), (2, .int .i64 ((aN : Nat) : Int))]) rfl rfl (fun w => by go_simp) (v := .agg #[.int .i64 2, .int .i64 ((m : Nat) : Int), .int .i64 ((aN : Nat) : Int), .int .i64 0, .int .i64 0])) ?_
                  refine Gx.eff rfl rfl rfl (eff_buildSlice rfl (qs := [(0, .agg #[.int .i64 2, .int .i64 ((m : Nat) : Int), .int .i64 ((aN : Nat) : Int), .int .i64 0, .int .i64 0])]) rfl rfl (cs := #[.int .i64 2, .int .i64 ((m : Nat) : Int), .int .i64 ((aN : Nat) : Int), .int .i64 0, .int .i64 0]) (vs := [.int .i64 2, .int .i64 ((m : Nat) : Int), .int .i64 ((aN : Nat) : Int), .int .i64 0, .int .i64 0]) (E := 47) rfl (fun w => by first | (go_simp; done) | (go_simp; rfl))) ?_
                  rintro _ _ ⟨b63, rfl, rfl⟩
                  refine Gx.eff rfl rfl rfl (eff_push (r := (⟨2, ((m : Nat) : Int), ((aN : Nat) : Int), 0, 0⟩ : Mt.Sy)) rfl Mt.Tryd.eM Mt.FM_len Mt.FM_one rfl rfl (k := 0) rfl rfl (k' := 0) rfl (by simp only [List.length_append, List.length_singleton]; omega) (by simp only [List.length_append, List.length_singleton]; omega)) ?_
                  rintro v64 _ ⟨hiv64, rfl⟩
                  refine Gx.norm (l' := [Hp.own Mt.FM 5 v64 (((cs ++ Mt.pairsL bs (tq + 1) c.n ++ [Mt.blockS bs (tq + 2)]) ++ Mt.votesL aN m) ++ [(⟨2, ((m : Nat) : Int), ((aN : Nat) : Int), 0, 0⟩ : Mt.Sy)]), Hp.rec_ b38 [.slice sa17 sn18 sc19, .slice sa20 sn21 sc22, .slice sa23 sn24 sc25, .slice sa26 sn27 sc28, .slice sa29 sn30 sc31, .slice sa32 sn33 sc34, .slice sa35 sn36 sc37]]) rfl ?_
                  refine Gx.val rfl rfl rfl (val_assign rfl rfl) ?_
                  refine Gx.done ?_
                  refine Gx.blkN ?_
                  refine Gx.thenN ?_
                  refine Gx.region ?_
                  refine Gx.val rfl rfl rfl (val_move rfl rfl) ?_
                  refine Gx.val rfl rfl rfl (val_add rfl rfl rfl (r := ((m + 1 : Nat) : Int)) (w64 (by omega) (by omega))) ?_
                  refine Gx.val rfl rfl rfl (val_assign rfl rfl) ?_
                  refine Gx.done ?_
                  refine Gx.thenN ?_
                  refine Gx.norm (l' := [Hp.own Mt.FM 5 v64 ((cs ++ Mt.pairsL bs (tq + 1) c.n ++ [Mt.blockS bs (tq + 2)]) ++ Mt.votesL aN (m + 1)), Hp.rec_ b38 [.slice sa17 sn18 sc19, .slice sa20 sn21 sc22, .slice sa23 sn24 sc25, .slice sa26 sn27 sc28, .slice sa29 sn30 sc31, .slice sa32 sn33 sc34, .slice sa35 sn36 sc37]]) (by rw [Mt.votesL_succ, ← List.append_assoc] <;> rfl) ?_
                  exact Gx.round (m + 1, v64) ⟨by first | omega | (dsimp only; omega), hiv64⟩ (by first | omega | (dsimp only; omega)) ((.cons rfl (.cons rfl (.cons rfl (.cons rfl (.cons rfl (.cons rfl (.cons rfl (.cons rfl (.cons rfl (.cons rfl (.cons rfl (.cons rfl (.cons rfl .nil)))))))))))))) rfl
                · refine Gx.exit ?_
                  refine Gx.thenE ?_
                  refine Gx.thenE ?_
                  refine Gx.blkE ?_
                  refine Gx.thenN ?_
                  refine Gx.seq ?_
                  obtain rfl : m = c.n := by omega
                  refine Gx.region ?_
                  refine Gx.val rfl rfl rfl (val_move rfl rfl) ?_
                  refine Gx.val rfl rfl rfl (val_move rfl rfl) ?_
                  refine Gx.val rfl rfl rfl (val_move rfl rfl) ?_
                  refine Gx.val rfl rfl rfl (val_add rfl rfl rfl (r := ((tq + 3 : Nat) : Int)) (w64 (by omega) (by omega))) ?_
                  refine Gx.val rfl rfl rfl (val_build rfl (qs := [(0, .int .i64 1), (2, .int .i64 ((aN : Nat) : Int)), (3, .int .i64 ((tq + 3 : Nat) : Int))]) rfl rfl (fun w => by go_simp) (v := .agg #[.int .i64 1, .int .i64 0, .int .i64 ((aN : Nat) : Int), .int .i64 ((tq + 3 : Nat) : Int), .int .i64 0])) ?_
                  refine Gx.eff rfl rfl rfl (eff_buildSlice rfl (qs := [(0, .agg #[.int .i64 1, .int .i64 0, .int .i64 ((aN : Nat) : Int), .int .i64 ((tq + 3 : Nat) : Int), .int .i64 0])]) rfl rfl (cs := #[.int .i64 1, .int .i64 0, .int .i64 ((aN : Nat) : Int), .int .i64 ((tq + 3 : Nat) : Int), .int .i64 0]) (vs := [.int .i64 1, .int .i64 0, .int .i64 ((aN : Nat) : Int), .int .i64 ((tq + 3 : Nat) : Int), .int .i64 0]) (E := 47) rfl (fun w => by first | (go_simp; done) | (go_simp; rfl))) ?_
                  rintro _ _ ⟨b65, rfl, rfl⟩
                  refine Gx.eff rfl rfl rfl (eff_push (r := (⟨1, 0, ((aN : Nat) : Int), ((tq + 3 : Nat) : Int), 0⟩ : Mt.Sy)) rfl Mt.Tryd.eM Mt.FM_len Mt.FM_one rfl rfl (k := 0) rfl rfl (k' := 0) rfl (by simp only [List.length_append, List.length_singleton]; omega) (by simp only [List.length_append, List.length_singleton]; omega)) ?_
                  rintro v66 _ ⟨hiv66, rfl⟩
                  refine Gx.norm (l' := [Hp.own Mt.FM 5 v66 (((cs ++ Mt.pairsL bs (tq + 1) c.n ++ [Mt.blockS bs (tq + 2)]) ++ Mt.votesL aN c.n) ++ [(⟨1, 0, ((aN : Nat) : Int), ((tq + 3 : Nat) : Int), 0⟩ : Mt.Sy)]), Hp.rec_ b38 [.slice sa17 sn18 sc19, .slice sa20 sn21 sc22, .slice sa23 sn24 sc25, .slice sa26 sn27 sc28, .slice sa29 sn30 sc31, .slice sa32 sn33 sc34, .slice sa35 sn36 sc37]]) rfl ?_
                  refine Gx.val rfl rfl rfl (val_assign rfl rfl) ?_
                  refine Gx.done ?_
                  refine Gx.thenN ?_
                  refine Gx.seq ?_
                  refine Gx.seq ?_
                  refine Gx.region ?_
                  refine Gx.val rfl rfl rfl (val_assign rfl rfl) ?_
                  refine Gx.done ?_
                  refine Gx.thenN ?_
                  refine Gx.block ?_
                  refine Gx.norm (l' := [Hp.own Mt.FM 5 v66 (((cs ++ Mt.pairsL bs (tq + 1) c.n ++ [Mt.blockS bs (tq + 2)]) ++ Mt.votesL aN c.n ++ [Mt.blockS aN (tq + 3)]) ++ Mt.votesL (aN + 1) 0), Hp.rec_ b38 [.slice sa17 sn18 sc19, .slice sa20 sn21 sc22, .slice sa23 sn24 sc25, .slice sa26 sn27 sc28, .slice sa29 sn30 sc31, .slice sa32 sn33 sc34, .slice sa35 sn36 sc37]]) (by rw [show Mt.votesL (aN + 1) 0 = [] from rfl, List.append_nil] <;> rfl) ?_
                  refine Gx.loop (ι := Nat × Value) (fun ξ => (ξ.1 ≤ c.n) ∧ (IsS ξ.2)) (fun ξ => [(0, .int .i64 ((c.n : Nat) : Int)), (1, .int .i64 ((f : Nat) : Int)), (2, .int .u32 ((c.L : Nat) : Int)), (3, sv), (4, mv), (5, pv), (6, .slice ma more.length mc), (15, ptr b38 0), (17, .int .i64 ((aN : Nat) : Int)), (18, .int .i64 ((bs : Nat) : Int)), (19, .int .i64 ((tq : Nat) : Int)), (26, .int .i64 ((ξ.1 : Nat) : Int)), (23, ξ.2)]) (fun ξ => [Hp.own Mt.FM 5 ξ.2 (((cs ++ Mt.pairsL bs (tq + 1) c.n ++ [Mt.blockS bs (tq + 2)]) ++ Mt.votesL aN c.n ++ [Mt.blockS aN (tq + 3)]) ++ Mt.votesL (aN + 1) ξ.1), Hp.rec_ b38 [.slice sa17 sn18 sc19, .slice sa20 sn21 sc22, .slice sa23 sn24 sc25, .slice sa26 sn27 sc28, .slice sa29 sn30 sc31, .slice sa32 sn33 sc34, .slice sa35 sn36 sc37]]) (fun ξ => c.n - ξ.1) (0, v66) ⟨by first | omega | (dsimp only; omega), hiv66⟩ ((.cons rfl (.cons rfl (.cons rfl (.cons rfl (.cons rfl (.cons rfl (.cons rfl (.cons rfl (.cons rfl (.cons rfl (.cons rfl (.cons rfl (.cons rfl .nil)))))))))))))) rfl ?_
                  rintro ⟨m, av⟩ ⟨hm, hia⟩
                  dsimp only at hm hia
                  refine Gx.know (m' := [(0, .int .i64 ((c.n : Nat) : Int)), (1, .int .i64 ((f : Nat) : Int)), (2, .int .u32 ((c.L : Nat) : Int)), (3, sv), (4, mv), (5, pv), (6, .slice ma more.length mc), (15, ptr b38 0), (17, .int .i64 ((aN : Nat) : Int)), (18, .int .i64 ((bs : Nat) : Int)), (19, .int .i64 ((tq : Nat) : Int)), (26, .int .i64 ((m : Nat) : Int)), (23, av)]) (.cons rfl (.cons rfl (.cons rfl (.cons rfl (.cons rfl (.cons rfl (.cons rfl (.cons rfl (.cons rfl (.cons rfl (.cons rfl (.cons rfl (.cons rfl .nil))))))))))))) (Gx.norm (l' := [Hp.own Mt.FM 5 av (((cs ++ Mt.pairsL bs (tq + 1) c.n ++ [Mt.blockS bs (tq + 2)]) ++ Mt.votesL aN c.n ++ [Mt.blockS aN (tq + 3)]) ++ Mt.votesL (aN + 1) m), Hp.rec_ b38 [.slice sa17 sn18 sc19, .slice sa20 sn21 sc22, .slice sa23 sn24 sc25, .slice sa26 sn27 sc28, .slice sa29 sn30 sc31, .slice sa32 sn33 sc34, .slice sa35 sn36 sc37]]) rfl ?_)
                  have hpl := Mt.pairsL_len bs (tq + 1) m
                  have hpn := Mt.pairsL_len bs (tq + 1) c.n
                  have hv1 := Mt.votesL_len aN m
                  have hv1n := Mt.votesL_len aN c.n
                  have hv2 := Mt.votesL_len (aN + 1) m
                  refine Gx.seq ?_
                  refine Gx.seq ?_
                  refine Gx.region ?_
                  refine Gx.val rfl rfl rfl (val_move rfl rfl) ?_
                  refine Gx.val rfl rfl rfl (val_move rfl rfl) ?_
                  refine Gx.val rfl rfl rfl (val_lss rfl rfl rfl) ?_
                  refine Gx.done ?_
                  refine Gx.thenN ?_
                  refine Gx.dec rfl (fun h67 => ?_) (fun h67 => ?_)
                  · refine Gx.skip ?_
                    refine Gx.thenN ?_
                    refine Gx.seq ?_
                    refine Gx.block ?_
                    refine Gx.region ?_
                    refine Gx.val rfl rfl rfl (val_move rfl rfl) ?_
                    refine Gx.val rfl rfl rfl (val_move rfl rfl) ?_
                    refine Gx.val rfl rfl rfl (val_move rfl rfl) ?_
                    refine Gx.val rfl rfl rfl (val_add rfl rfl rfl (r := ((aN + 1 : Nat) : Int)) (w64 (by omega) (by omega))) ?_
                    refine Gx.val rfl rfl rfl (val_build rfl (qs := [(0, .int .i64 2), (1, .int .i64 ((m : Nat) : Int)), (2, .int .i64 ((aN + 1 : Nat) : Int))]) rfl rfl (fun w => by go_simp) (v := .agg #[.int .i64 2, .int .i64 ((m : Nat) : Int), .int .i64 ((aN + 1 : Nat) : Int), .int .i64 0, .int .i64 0])) ?_
                    refine Gx.eff rfl rfl rfl (eff_buildSlice rfl (qs := [(0, .agg #[.int .i64 2, .int .i64 ((m : Nat) : Int), .int .i64 ((aN + 1 : Nat) : Int), .int .i64 0, .int .i64 0])]) rfl rfl (cs := #[.int .i64 2, .int .i64 ((m : Nat) : Int), .int .i64 ((aN + 1 : Nat) : Int), .int .i64 0, .int .i64 0]) (vs := [.int .i64 2, .int .i64 ((m : Nat) : Int), .int .i64 ((aN + 1 : Nat) : Int), .int .i64 0, .int .i64 0]) (E := 47) rfl (fun w => by first | (go_simp; done) | (go_simp; rfl))) ?_
                    rintro _ _ ⟨b68, rfl, rfl⟩
                    refine Gx.eff rfl rfl rfl (eff_push (r := (⟨2, ((m : Nat) : Int), ((aN + 1 : Nat) : Int), 0, 0⟩ : Mt.Sy)) rfl Mt.Tryd.eM Mt.FM_len Mt.FM_one rfl rfl (k := 0) rfl rfl (k' := 0) rfl (by simp only [List.length_append, List.length_singleton]; omega) (by simp only [List.length_append, List.length_singleton]; omega)) ?_
                    rintro v69 _ ⟨hiv69, rfl⟩
                    refine Gx.norm (l' := [Hp.own Mt.FM 5 v69 ((((cs ++ Mt.pairsL bs (tq + 1) c.n ++ [Mt.blockS bs (tq + 2)]) ++ Mt.votesL aN c.n ++ [Mt.blockS aN (tq + 3)]) ++ Mt.votesL (aN + 1) m) ++ [(⟨2, ((m : Nat) : Int), ((aN + 1 : Nat) : Int), 0, 0⟩ : Mt.Sy)]), Hp.rec_ b38 [.slice sa17 sn18 sc19, .slice sa20 sn21 sc22, .slice sa23 sn24 sc25, .slice sa26 sn27 sc28, .slice sa29 sn30 sc31, .slice sa32 sn33 sc34, .slice sa35 sn36 sc37]]) rfl ?_
                    refine Gx.val rfl rfl rfl (val_assign rfl rfl) ?_
                    refine Gx.done ?_
                    refine Gx.blkN ?_
                    refine Gx.thenN ?_
                    refine Gx.region ?_
                    refine Gx.val rfl rfl rfl (val_move rfl rfl) ?_
                    refine Gx.val rfl rfl rfl (val_add rfl rfl rfl (r := ((m + 1 : Nat) : Int)) (w64 (by omega) (by omega))) ?_
                    refine Gx.val rfl rfl rfl (val_assign rfl rfl) ?_
                    refine Gx.done ?_
                    refine Gx.thenN ?_
                    refine Gx.norm (l' := [Hp.own Mt.FM 5 v69 (((cs ++ Mt.pairsL bs (tq + 1) c.n ++ [Mt.blockS bs (tq + 2)]) ++ Mt.votesL aN c.n ++ [Mt.blockS aN (tq + 3)]) ++ Mt.votesL (aN + 1) (m + 1)), Hp.rec_ b38 [.slice sa17 sn18 sc19, .slice sa20 sn21 sc22, .slice sa23 sn24 sc25, .slice sa26 sn27 sc28, .slice sa29 sn30 sc31, .slice sa32 sn33 sc34, .slice sa35 sn36 sc37]]) (by rw [Mt.votesL_succ, ← List.append_assoc] <;> rfl) ?_
                    exact Gx.round (m + 1, v69) ⟨by first | omega | (dsimp only; omega), hiv69⟩ (by first | omega | (dsimp only; omega)) ((.cons rfl (.cons rfl (.cons rfl (.cons rfl (.cons rfl (.cons rfl (.cons rfl (.cons rfl (.cons rfl (.cons rfl (.cons rfl (.cons rfl (.cons rfl .nil)))))))))))))) rfl
                  · refine Gx.exit ?_
                    refine Gx.thenE ?_
                    refine Gx.thenE ?_
                    refine Gx.blkE ?_
                    refine Gx.thenN ?_
                    refine Gx.seq ?_
                    obtain rfl : m = c.n := by omega
                    refine Gx.norm (l' := [Hp.own Mt.FM 5 av (cs ++ Mt.goesL c.n bs tq aN), Hp.rec_ b38 [.slice sa17 sn18 sc19, .slice sa20 sn21 sc22, .slice sa23 sn24 sc25, .slice sa26 sn27 sc28, .slice sa29 sn30 sc31, .slice sa32 sn33 sc34, .slice sa35 sn36 sc37]]) (by rw [goesL_eq] <;> rfl) ?_
                    obtain ⟨al, hal⟩ : ∃ al, al = (cs ++ Mt.goesL c.n bs tq aN) := ⟨_, rfl⟩
                    have hall : al.length ≤ 120 := by rw [hal, ← goesL_eq]; simp only [List.length_append, List.length_singleton]; omega
                    have hst : Mt.stM c (Mt.ms0 c.n) al = Mt.stM c (Mt.stM c (Mt.ms0 c.n) cs) (Mt.goesL c.n bs tq aN) := by rw [hal, Mt.stM_app]
                    have bd2 := Mt.BdM.at_ ok al
                    obtain ⟨ds2, hds2⟩ := Mt.dec_here bd2
                    have htpd := fun r => top_paid (pays := pays) (m := (⟨ma, more, mc⟩ : Row)) (ds := ds) (ds2 := ds2) bd ok iv hfw (Mt.KnI.run ok cs (Mt.KnI.start c) (Mt.BdM.start c) (Mt.InvM.start c)) (Mt.top_run ok (by omega) cs (Mt.TopI.start tq c) (Mt.BdM.start c) hq hc) hq hbl hbc hbm (by omega) (by omega) hds (by rw [← haN, ← hst]; exact hds2) (T2 := r)
                    rw [← haN, ← hst] at htpd
                    obtain ⟨rr, hpd⟩ := htpd _ bd2
                    obtain ⟨ow, how⟩ : ∃ ow, ow = ownL pays aN ++ [(⟨ma, more, mc⟩ : Row)] := ⟨_, rfl⟩
                    have howl : ow.length = aN + 1 := by rw [how, List.length_append, ownL_len]; rfl
                    have hsz2 : ∀ r ∈ ow, r.xs.length ≤ 1048576 := by rw [how]; exact own_size hsz hms
                    rw [← how] at hpd
                    obtain ⟨p2, hp2⟩ : ∃ p2, p2 = paysB (Mt.stM c (Mt.ms0 c.n) al).bl ds2 ow := ⟨_, rfl⟩
                    rw [← hp2] at hpd
                    obtain ⟨p1, hp1⟩ : ∃ p1, p1 = (paysB (Mt.stM c (Mt.ms0 c.n) cs).bl ds pays) := ⟨_, rfl⟩
                    rw [← hp1] at hpd
                    have hp2l : p2.length = p1.length + rr.length + more.length := by rw [hpd, List.length_append, List.length_append]
                    have hok0 : Lg.OkL money 0 := ⟨hok.low, hok.high, by omega, hok.all⟩
                    refine Gx.norm (l' := [Hp.own Mt.FM 5 av al, Hp.rec_ b38 [.slice sa17 sn18 sc19, .slice sa20 sn21 sc22, .slice sa23 sn24 sc25, .slice sa26 sn27 sc28, .slice sa29 sn30 sc31, .slice sa32 sn33 sc34, .slice sa35 sn36 sc37]]) (by rw [← hal] <;> rfl) ?_
                    refine Gx.ownNil FW 1 ?_
                    refine Gx.region ?_
                    refine Gx.val rfl rfl rfl (val_assign rfl rfl) ?_
                    refine Gx.done ?_
                    refine Gx.thenN ?_
                    refine Gx.seq ?_
                    refine Gx.seq ?_
                    refine Gx.region ?_
                    refine Gx.val rfl rfl rfl (val_assign rfl rfl) ?_
                    refine Gx.done ?_
                    refine Gx.thenN ?_
                    refine Gx.block ?_
                    refine Gx.norm (l' := [Hp.own FW 1 (.slice none 0 0) (ownL pays 0), Hp.own Mt.FM 5 av al, Hp.rec_ b38 [.slice sa17 sn18 sc19, .slice sa20 sn21 sc22, .slice sa23 sn24 sc25, .slice sa26 sn27 sc28, .slice sa29 sn30 sc31, .slice sa32 sn33 sc34, .slice sa35 sn36 sc37]]) (by rfl <;> rfl) ?_
                    refine Gx.loop (ι := Nat × Value) (fun ξ => (ξ.1 ≤ aN) ∧ (IsS ξ.2)) (fun ξ => [(0, .int .i64 ((c.n : Nat) : Int)), (1, .int .i64 ((f : Nat) : Int)), (2, .int .u32 ((c.L : Nat) : Int)), (3, sv), (4, mv), (5, pv), (6, .slice ma more.length mc), (15, ptr b38 0), (17, .int .i64 ((aN : Nat) : Int)), (23, av), (28, .int .i64 ((ξ.1 : Nat) : Int)), (27, ξ.2)]) (fun ξ => [Hp.own FW 1 ξ.2 (ownL pays ξ.1), Hp.own Mt.FM 5 av al, Hp.rec_ b38 [.slice sa17 sn18 sc19, .slice sa20 sn21 sc22, .slice sa23 sn24 sc25, .slice sa26 sn27 sc28, .slice sa29 sn30 sc31, .slice sa32 sn33 sc34, .slice sa35 sn36 sc37]]) (fun ξ => aN - ξ.1) (0, .slice none 0 0) ⟨by first | omega | (dsimp only; omega), ⟨none, 0, 0, rfl⟩⟩ ((.cons rfl (.cons rfl (.cons rfl (.cons rfl (.cons rfl (.cons rfl (.cons rfl (.cons rfl (.cons rfl (.cons rfl (.cons rfl (.cons rfl .nil))))))))))))) rfl ?_
                    rintro ⟨m, aw⟩ ⟨hm, hiw⟩
                    dsimp only at hm hiw
                    refine Gx.know (m' := [(0, .int .i64 ((c.n : Nat) : Int)), (1, .int .i64 ((f : Nat) : Int)), (2, .int .u32 ((c.L : Nat) : Int)), (3, sv), (4, mv), (5, pv), (6, .slice ma more.length mc), (15, ptr b38 0), (17, .int .i64 ((aN : Nat) : Int)), (23, av), (28, .int .i64 ((m : Nat) : Int)), (27, aw)]) (.cons rfl (.cons rfl (.cons rfl (.cons rfl (.cons rfl (.cons rfl (.cons rfl (.cons rfl (.cons rfl (.cons rfl (.cons rfl (.cons rfl .nil)))))))))))) (Gx.norm (l' := [Hp.own FW 1 aw (ownL pays m), Hp.own Mt.FM 5 av al, Hp.rec_ b38 [.slice sa17 sn18 sc19, .slice sa20 sn21 sc22, .slice sa23 sn24 sc25, .slice sa26 sn27 sc28, .slice sa29 sn30 sc31, .slice sa32 sn33 sc34, .slice sa35 sn36 sc37]]) rfl ?_)
                    have hol := ownL_len pays m
                    refine Gx.seq ?_
                    refine Gx.seq ?_
                    refine Gx.region ?_
                    refine Gx.val rfl rfl rfl (val_move rfl rfl) ?_
                    refine Gx.val rfl rfl rfl (val_move rfl rfl) ?_
                    refine Gx.val rfl rfl rfl (val_lss rfl rfl rfl) ?_
                    refine Gx.done ?_
                    refine Gx.thenN ?_
                    refine Gx.dec rfl (fun h70 => ?_) (fun h70 => ?_)
                    · refine Gx.skip ?_
                      refine Gx.thenN ?_
                      refine Gx.seq ?_
                      refine Gx.block ?_
                      refine Gx.seq ?_
                      refine Gx.region ?_
                      refine Gx.val rfl rfl rfl (val_move rfl rfl) ?_
                      refine Gx.val rfl rfl rfl (val_move rfl rfl) ?_
                      refine Gx.val rfl rfl rfl (val_len rfl Tryd.underlying25 rfl (len_base hs13)) ?_
                      refine Gx.val rfl rfl rfl (val_lss rfl rfl rfl) ?_
                      refine Gx.done ?_
                      refine Gx.thenN ?_
                      refine Gx.dec rfl (fun h71 => ?_) (fun h71 => ?_)
                      · obtain ⟨x5, hx5⟩ := get_of_lt (xs := pays) (k := m) (by omega)
                        refine Gx.region ?_
                        refine Gx.val rfl rfl rfl (val_move rfl rfl) ?_
                        refine Gx.val rfl rfl rfl (val_move rfl rfl) ?_
                        refine Gx.val rfl rfl rfl (val_move rfl rfl) ?_
                        refine Gx.val rfl rfl rfl (val_ixa rfl Tryd.underlying25 Tryd.ty31 rfl rfl (j := m) (rfl) (reach_base hs13 hx5)) ?_
                        refine Gx.val rfl rfl rfl (val_load rfl Tryd.ty31 rfl rfl (cell_base (i := 0) hs13 hx5 rfl)) ?_
                        have hr72 := hrw16 _ (List.mem_of_getElem? hx5)
                        refine Gx.eff rfl rfl rfl (eff_buildSlice rfl (qs := [(0, .slice x5.a x5.xs.length x5.c)]) rfl rfl (cs := #[.slice x5.a x5.xs.length x5.c]) (vs := [.slice x5.a x5.xs.length x5.c]) (E := 31) rfl (fun w => by first | (go_simp; done) | (go_simp; rfl))) ?_
                        rintro _ _ ⟨b73, rfl, rfl⟩
                        refine Gx.eff rfl rfl rfl (eff_push (r := x5) rfl Tryd.eW FW_len FW_one rfl rfl (k := 0) rfl rfl (k' := 0) rfl (by (try simp only [List.length_append, List.length_singleton]); omega) (by (try simp only [List.length_append, List.length_singleton]); omega)) ?_
                        rintro v74 _ ⟨hiv74, rfl⟩
                        refine Gx.norm (l' := [Hp.own FW 1 v74 ((ownL pays m) ++ [x5]), Hp.own Mt.FM 5 av al, Hp.rec_ b38 [.slice sa17 sn18 sc19, .slice sa20 sn21 sc22, .slice sa23 sn24 sc25, .slice sa26 sn27 sc28, .slice sa29 sn30 sc31, .slice sa32 sn33 sc34, .slice sa35 sn36 sc37]]) rfl ?_
                        refine Gx.val rfl rfl rfl (val_assign rfl rfl) ?_
                        refine Gx.done ?_
                        refine Gx.blkN ?_
                        refine Gx.thenN ?_
                        refine Gx.region ?_
                        refine Gx.val rfl rfl rfl (val_move rfl rfl) ?_
                        refine Gx.val rfl rfl rfl (val_add rfl rfl rfl (r := ((m + 1 : Nat) : Int)) (w64 (by omega) (by omega))) ?_
                        refine Gx.val rfl rfl rfl (val_assign rfl rfl) ?_
                        refine Gx.done ?_
                        refine Gx.thenN ?_
                        refine Gx.norm (l' := [Hp.own FW 1 v74 (ownL pays (m + 1)), Hp.own Mt.FM 5 av al, Hp.rec_ b38 [.slice sa17 sn18 sc19, .slice sa20 sn21 sc22, .slice sa23 sn24 sc25, .slice sa26 sn27 sc28, .slice sa29 sn30 sc31, .slice sa32 sn33 sc34, .slice sa35 sn36 sc37]]) (by rw [ownL_succ, rowAt_in hx5] <;> rfl) ?_
                        exact Gx.round (m + 1, v74) ⟨by first | omega | (dsimp only; omega), hiv74⟩ (by first | omega | (dsimp only; omega)) ((.cons rfl (.cons rfl (.cons rfl (.cons rfl (.cons rfl (.cons rfl (.cons rfl (.cons rfl (.cons rfl (.cons rfl (.cons rfl (.cons rfl .nil))))))))))))) rfl
                      · refine Gx.region ?_
                        refine Gx.val rfl rfl rfl (val_move rfl rfl) ?_
                        refine Gx.eff rfl rfl rfl (eff_buildSlice rfl (qs := [(0, .slice none 0 0)]) rfl rfl (cs := #[.slice none 0 0]) (vs := [.slice none 0 0]) (E := 31) rfl (fun w => by first | (go_simp; done) | (go_simp; rfl))) ?_
                        rintro _ _ ⟨b75, rfl, rfl⟩
                        refine Gx.eff rfl rfl rfl (eff_push (r := (⟨none, [], 0⟩ : Row)) rfl Tryd.eW FW_len FW_one rfl rfl (k := 0) rfl rfl (k' := 0) rfl (by (try simp only [List.length_append, List.length_singleton]); omega) (by (try simp only [List.length_append, List.length_singleton]); omega)) ?_
                        rintro v76 _ ⟨hiv76, rfl⟩
                        refine Gx.norm (l' := [Hp.own FW 1 v76 ((ownL pays m) ++ [(⟨none, [], 0⟩ : Row)]), Hp.own Mt.FM 5 av al, Hp.rec_ b38 [.slice sa17 sn18 sc19, .slice sa20 sn21 sc22, .slice sa23 sn24 sc25, .slice sa26 sn27 sc28, .slice sa29 sn30 sc31, .slice sa32 sn33 sc34, .slice sa35 sn36 sc37]]) rfl ?_
                        refine Gx.val rfl rfl rfl (val_assign rfl rfl) ?_
                        refine Gx.done ?_
                        refine Gx.blkN ?_
                        refine Gx.thenN ?_
                        refine Gx.region ?_
                        refine Gx.val rfl rfl rfl (val_move rfl rfl) ?_
                        refine Gx.val rfl rfl rfl (val_add rfl rfl rfl (r := ((m + 1 : Nat) : Int)) (w64 (by omega) (by omega))) ?_
                        refine Gx.val rfl rfl rfl (val_assign rfl rfl) ?_
                        refine Gx.done ?_
                        refine Gx.thenN ?_
                        refine Gx.norm (l' := [Hp.own FW 1 v76 (ownL pays (m + 1)), Hp.own Mt.FM 5 av al, Hp.rec_ b38 [.slice sa17 sn18 sc19, .slice sa20 sn21 sc22, .slice sa23 sn24 sc25, .slice sa26 sn27 sc28, .slice sa29 sn30 sc31, .slice sa32 sn33 sc34, .slice sa35 sn36 sc37]]) (by rw [ownL_succ, rowAt_out (by omega)] <;> rfl) ?_
                        exact Gx.round (m + 1, v76) ⟨by first | omega | (dsimp only; omega), hiv76⟩ (by first | omega | (dsimp only; omega)) ((.cons rfl (.cons rfl (.cons rfl (.cons rfl (.cons rfl (.cons rfl (.cons rfl (.cons rfl (.cons rfl (.cons rfl (.cons rfl (.cons rfl .nil))))))))))))) rfl
                    · refine Gx.exit ?_
                      refine Gx.thenE ?_
                      refine Gx.thenE ?_
                      refine Gx.blkE ?_
                      refine Gx.thenN ?_
                      refine Gx.seq ?_
                      obtain rfl : aN = m := by omega
                      refine Gx.region ?_
                      refine Gx.val rfl rfl rfl (val_move rfl rfl) ?_
                      refine Gx.val rfl rfl rfl (val_move rfl rfl) ?_
                      refine Gx.eff rfl rfl rfl (eff_buildSlice rfl (qs := [(0, .slice ma more.length mc)]) rfl rfl (cs := #[.slice ma more.length mc]) (vs := [.slice ma more.length mc]) (E := 31) rfl (fun w => by first | (go_simp; done) | (go_simp; rfl))) ?_
                      rintro _ _ ⟨b77, rfl, rfl⟩
                      refine Gx.eff rfl rfl rfl (eff_push (r := (⟨ma, more, mc⟩ : Row)) rfl Tryd.eW FW_len FW_one rfl rfl (k := 0) rfl rfl (k' := 0) rfl (by (try simp only [List.length_append, List.length_singleton]); omega) (by (try simp only [List.length_append, List.length_singleton]); omega)) ?_
                      rintro v78 _ ⟨hiv78, rfl⟩
                      refine Gx.norm (l' := [Hp.own FW 1 v78 ((ownL pays aN) ++ [(⟨ma, more, mc⟩ : Row)]), Hp.own Mt.FM 5 av al, Hp.rec_ b38 [.slice sa17 sn18 sc19, .slice sa20 sn21 sc22, .slice sa23 sn24 sc25, .slice sa26 sn27 sc28, .slice sa29 sn30 sc31, .slice sa32 sn33 sc34, .slice sa35 sn36 sc37]]) rfl ?_
                      refine Gx.val rfl rfl rfl (val_assign rfl rfl) ?_
                      refine Gx.done ?_
                      refine Gx.thenN ?_
                      refine Gx.seq ?_
                      refine Gx.norm (l' := [Hp.own FW 1 v78 ow, Hp.own Mt.FM 5 av al, Hp.rec_ b38 [.slice sa17 sn18 sc19, .slice sa20 sn21 sc22, .slice sa23 sn24 sc25, .slice sa26 sn27 sc28, .slice sa29 sn30 sc31, .slice sa32 sn33 sc34, .slice sa35 sn36 sc37]]) (by rw [← how] <;> rfl) ?_
                      have hro : ∀ r ∈ ow, SlS Lg.FP 4 W8 (.slice r.a r.xs.length r.c) r.xs := by rw [how]; exact own_rows hrw16 hs14
                      refine Gx.region ?_
                      refine Gx.val rfl rfl rfl (val_move rfl rfl) ?_
                      refine Gx.val rfl rfl rfl (val_move rfl rfl) ?_
                      refine Gx.val rfl rfl rfl (val_move rfl rfl) ?_
                      refine Gx.val rfl rfl rfl (val_move rfl rfl) ?_
                      refine Gx.val rfl rfl rfl (val_move rfl rfl) ?_
                      refine Gx.val rfl rfl rfl (val_move rfl rfl) ?_
                      refine Gx.callB rfl rfl rfl (vs := [.int .i64 ((c.n : Nat) : Int), .int .i64 ((f : Nat) : Int), .int .u32 ((c.L : Nat) : Int), av, mv, v78]) rfl Tryd.fn5 rfl (R := fun v w' => ∃ (c0 c1 c2 c3 c4 c5 c6 : Value) (z : Int), v = .tuple #[.agg #[c0, c1, c2, c3, c4, c5, c6], .int .i64 z] ∧ (IsS c0 ∧ IsS c1 ∧ IsS c2 ∧ IsS c3 ∧ IsS c4 ∧ IsS c5 ∧ IsS c6) ∧ (z = 7 ∨ z = 0 ∧ SlS Mt.FZ 1 w' c0 (Mt.codesM c (Mt.ms0 c.n) al) ∧ SlS Mt.FK 2 w' c1 (Mt.stM c (Mt.ms0 c.n) al).bl ∧ SlS Mt.FB 1 w' c2 (Mt.certL c (Mt.stM c (Mt.ms0 c.n) al)) ∧ SlS Mt.FB 1 w' c3 ds2 ∧ SlS Lg.FP 4 w' c4 (paysB (Mt.stM c (Mt.ms0 c.n) al).bl ds2 ow) ∧ SlS Lg.FZ 1 w' c5 (Lg.codesL (Lg.start0 money) (paysB (Mt.stM c (Mt.ms0 c.n) al).bl ds2 ow)) ∧ SlS Lg.FA 2 w' c6 (Lg.accsL (Lg.start0 money) (paysB (Mt.stM c (Mt.ms0 c.n) al).bl ds2 ow)))) (fun w H => book_two (hg15.below H.below) ((H.at_ (k := 1) rfl).sls (by first | omega | (simp; omega))) (hs12.below H.below) ((H.at_ (k := 0) rfl).sls (by first | omega | (simp; omega))) (fun r hr => (hro r hr).below H.below) hsz2 h1n h7n hall hf hfn hLn hL hds2 hok0) ?_
                      rintro _ W79 ⟨c0, c1, c2, c3, c4, c5, c6, zq, rfl, ⟨i0, i1, i2, i3, i4, i5, i6⟩, hzq⟩ H80
                      have hW81 := hW10.trans (H80.below.mono hW10.size)
                      have hs82 := hs11.below H80.below
                      have hs83 := hs12.below H80.below
                      have hs84 := hs13.below H80.below
                      have hs85 := hs14.below H80.below
                      have hs86 := hcv1.below H80.below
                      have hs87 := hbv2.below H80.below
                      have hs88 := hwv3.below H80.below
                      have hs89 := hdv4.below H80.below
                      have hs90 := hqv5.below H80.below
                      have hs91 := hzv6.below H80.below
                      have hs92 := hav7.below H80.below
                      have hs93 := (H80.at_ (k := 0) rfl).sls (by first | omega | (simp; done) | (simp; omega))
                      have hs94 := (H80.at_ (k := 1) rfl).sls (by first | omega | (simp; done) | (simp; omega))
                      have hb95 := (H80.at_ (k := 2) rfl).rec_.1
                      have hc96 := (H80.at_ (k := 2) rfl).cell 0 (u := .slice sa17 sn18 sc19) rfl
                      have hc97 := (H80.at_ (k := 2) rfl).cell 1 (u := .slice sa20 sn21 sc22) rfl
                      have hc98 := (H80.at_ (k := 2) rfl).cell 2 (u := .slice sa23 sn24 sc25) rfl
                      have hc99 := (H80.at_ (k := 2) rfl).cell 3 (u := .slice sa26 sn27 sc28) rfl
                      have hc100 := (H80.at_ (k := 2) rfl).cell 4 (u := .slice sa29 sn30 sc31) rfl
                      have hc101 := (H80.at_ (k := 2) rfl).cell 5 (u := .slice sa32 sn33 sc34) rfl
                      have hc102 := (H80.at_ (k := 2) rfl).cell 6 (u := .slice sa35 sn36 sc37) rfl
                      have hg103 := hg15.below H80.below
                      have hrw104 := fun r hr => (hrw16 r hr).below H80.below
                      have hrw105 := fun r hr => (hro r hr).below H80.below
                      refine Gx.val rfl rfl rfl (val_move rfl rfl) ?_
                      obtain ⟨sa106, sn107, sc108, rfl⟩ := i0
                      obtain ⟨sa109, sn110, sc111, rfl⟩ := i1
                      obtain ⟨sa112, sn113, sc114, rfl⟩ := i2
                      obtain ⟨sa115, sn116, sc117, rfl⟩ := i3
                      obtain ⟨sa118, sn119, sc120, rfl⟩ := i4
                      obtain ⟨sa121, sn122, sc123, rfl⟩ := i5
                      obtain ⟨sa124, sn125, sc126, rfl⟩ := i6
                      refine Gx.val rfl rfl rfl (val_extract rfl rfl rfl) ?_
                      refine Gx.val rfl rfl rfl (val_extract rfl rfl rfl) ?_
                      refine Gx.eff rfl rfl rfl (eff_alloc rfl Tryd.ty34 (vs := [.slice none 0 0, .slice none 0 0, .slice none 0 0, .slice none 0 0, .slice none 0 0, .slice none 0 0, .slice none 0 0]) rfl) ?_
                      rintro _ _ ⟨b127, rfl, rfl⟩
                      refine Gx.eff0 rfl rfl (eff_store rfl Tryd.ty34 rfl rfl (us := [.slice sa106 sn107 sc108, .slice sa109 sn110 sc111, .slice sa112 sn113 sc114, .slice sa115 sn116 sc117, .slice sa118 sn119 sc120, .slice sa121 sn122 sc123, .slice sa124 sn125 sc126]) rfl rfl rfl (k := 0) rfl (rfl) (vs' := [.slice sa106 sn107 sc108, .slice sa109 sn110 sc111, .slice sa112 sn113 sc114, .slice sa115 sn116 sc117, .slice sa118 sn119 sc120, .slice sa121 sn122 sc123, .slice sa124 sn125 sc126]) (rfl) (l' := [Hp.rec_ b127 [.slice sa106 sn107 sc108, .slice sa109 sn110 sc111, .slice sa112 sn113 sc114, .slice sa115 sn116 sc117, .slice sa118 sn119 sc120, .slice sa121 sn122 sc123, .slice sa124 sn125 sc126]]) rfl) ?_
                      rintro _ _ rfl
                      refine Gx.val rfl rfl rfl (val_assign rfl rfl) ?_
                      refine Gx.done ?_
                      refine Gx.thenN ?_
                      refine Gx.seq ?_
                      refine Gx.seq ?_
                      refine Gx.region ?_
                      refine Gx.val rfl rfl rfl (val_move rfl rfl) ?_
                      refine Gx.val rfl rfl rfl (val_neq rfl rfl rfl) ?_
                      refine Gx.done ?_
                      refine Gx.thenN ?_
                      refine Gx.dec rfl (fun h128 => ?_) (fun h128 => ?_)
                      · refine Gx.seq ?_
                        have hz7 : zq = 7 := by
                          rcases hzq with h | ⟨h, _⟩
                          · exact h
                          · omega
                        refine Gx.region ?_
                        refine Gx.val rfl rfl rfl (val_move rfl rfl) ?_
                        refine Gx.val rfl rfl rfl (val_eql rfl rfl rfl) ?_
                        refine Gx.val rfl rfl rfl (val_assign rfl rfl) ?_
                        refine Gx.done ?_
                        refine Gx.thenN ?_
                        refine Gx.ret ?_
                        refine Gx.thenR ?_
                        refine Gx.ret1B hW81 Tryd.results4 rfl ?_
                        first | rfl | exact congrArg Value.bool (decide_eq_true (by omega))
                      · refine Gx.skip ?_
                        refine Gx.thenN ?_
                        refine Gx.seq ?_
                        obtain ⟨_, k0, k1, k2, k3, k4, k5, k6⟩ := hzq.resolve_left (by omega)
                        rw [← hp2] at k4 k5 k6
                        have hc5 : (Lg.codesL (Lg.start0 money) p2).length = p2.length := Lg.codesL_len ..
                        rw [← hp1] at hs90
                        have hk4 := sls_bd k4
                        have hcA : SlS Lg.FP 4 W79 (sCut 4 (p2.length - more.length) p2.length (.slice sa118 sn119 sc120)) more := by
                          have q := k4.cut (lo := p2.length - more.length) (hi := p2.length) (by omega) (Nat.le_refl _)
                          rwa [List.take_length, show p2.drop (p2.length - more.length) = more from by rw [hp2l]; conv => lhs; arg 2; rw [hpd]
                                                                                                       rw [List.drop_left' (by rw [List.length_append]; omega)]] at q
                        have hcB : SlS Lg.FP 4 W79 (sCut 4 0 p1.length (.slice sa118 sn119 sc120)) p1 := by
                          have q := k4.cut (lo := 0) (hi := p1.length) (by omega) (by omega)
                          rwa [List.drop_zero, show p2.take p1.length = p1 from by rw [hpd, List.append_assoc, List.take_left' rfl]] at q
                        refine Gx.region ?_
                        refine Gx.val rfl rfl rfl (Val.cast (val_fieldAddr rfl Tryd.underlying34 rfl Tryd.ty31 rfl rfl) (v' := ptr b127 4) rfl) ?_
                        refine Gx.val rfl rfl rfl (val_load rfl Tryd.ty31 rfl rfl (cell_rec (k := 0) rfl rfl)) ?_
                        refine Gx.val rfl rfl rfl (val_len rfl Tryd.underlying31 rfl (len_base k4)) ?_
                        refine Gx.val rfl rfl rfl (val_move rfl rfl) ?_
                        refine Gx.val rfl rfl rfl (val_len rfl Tryd.underlying31 rfl (len_base hs85)) ?_
                        refine Gx.val rfl rfl rfl (val_sub rfl rfl rfl (r := ((p2.length - more.length : Nat) : Int)) (w64 (by omega) (by omega))) ?_
                        refine Gx.val rfl rfl rfl (val_assign rfl rfl) ?_
                        refine Gx.done ?_
                        refine Gx.thenN ?_
                        refine Gx.seq ?_
                        refine Gx.regionQ Tryd.mixed (by kernel_rfl) ?_
                        refine Gq.val rfl rfl rfl (val_move rfl rfl) ?_
                        refine Gq.val rfl rfl rfl (Val.cast (val_fieldAddr rfl Tryd.underlying34 rfl Tryd.ty31 rfl rfl) (v' := ptr b38 4) rfl) ?_
                        refine Gq.val rfl rfl rfl (val_load rfl Tryd.ty31 rfl rfl (cell_old hb95 hc100)) ?_
                        refine Gq.val rfl rfl rfl (val_len rfl Tryd.underlying31 rfl (len_base hs90)) ?_
                        refine Gq.val rfl rfl rfl (val_geq rfl rfl rfl) ?_
                        refine Gq.val rfl rfl rfl (val_move rfl rfl) ?_
                        refine Gq.slot (t := 260) (v := .bool true) (look_decT rfl (by omega)) ?_
                        refine Gq.valg rfl rfl rfl rfl rfl (Val.cast (val_fieldAddr rfl Tryd.underlying34 rfl Tryd.ty31 rfl rfl) (v' := ptr b127 4) rfl) ?_
                        refine Gq.valg rfl rfl rfl rfl rfl (val_load rfl Tryd.ty31 rfl rfl (cell_rec (k := 0) rfl rfl)) ?_
                        refine Gq.valg rfl rfl rfl rfl rfl (val_move rfl rfl) ?_
                        have hcut129 : SlS Lg.FP 4 W79 (sCut 4 (p2.length - more.length) p2.length (.slice sa118 sn119 sc120)) (p2.drop (p2.length - more.length)) := by have q := (k4).cut (lo := p2.length - more.length) (hi := p2.length) (by omega) (by omega); rwa [List.take_length] at q
                        refine Gq.valg rfl rfl rfl rfl rfl (val_cutFrom (lo := p2.length - more.length) rfl Tryd.underlying31 Tryd.ty41 rfl k4 rfl (rfl) (by omega)) ?_
                        refine Gq.valg rfl rfl rfl rfl rfl (val_move rfl rfl) ?_
                        refine Gq.valg rfl rfl rfl rfl rfl (val_call (vs := [sCut 4 (p2.length - more.length) p2.length (.slice sa118 sn119 sc120), .slice ma more.length mc]) rfl Tryd.fn7 rfl (fun w H => pays_yes (hcA.below H.below) (hs85.below H.below))) ?_
                        refine Gq.val rfl rfl rfl (val_pickT rfl rfl rfl) ?_
                        refine Gq.val rfl rfl rfl (val_move rfl rfl) ?_
                        refine Gq.valg rfl rfl rfl rfl rfl (Val.cast (val_fieldAddr rfl Tryd.underlying34 rfl Tryd.ty31 rfl rfl) (v' := ptr b127 4) rfl) ?_
                        refine Gq.valg rfl rfl rfl rfl rfl (val_load rfl Tryd.ty31 rfl rfl (cell_rec (k := 0) rfl rfl)) ?_
                        refine Gq.valg rfl rfl rfl rfl rfl (Val.cast (val_fieldAddr rfl Tryd.underlying34 rfl Tryd.ty31 rfl rfl) (v' := ptr b38 4) rfl) ?_
                        refine Gq.valg rfl rfl rfl rfl rfl (val_load rfl Tryd.ty31 rfl rfl (cell_old hb95 hc100)) ?_
                        refine Gq.valg rfl rfl rfl rfl rfl (val_len rfl Tryd.underlying31 rfl (len_base hs90)) ?_
                        have hcut130 : SlS Lg.FP 4 W79 (sCut 4 0 p1.length (.slice sa118 sn119 sc120)) (p2.take p1.length) := (k4).cut (lo := 0) (hi := p1.length) (by omega) (by omega)
                        refine Gq.valg rfl rfl rfl rfl rfl (val_cutTo (up := p1.length) rfl Tryd.underlying31 Tryd.ty41 rfl k4 rfl (rfl) (by omega)) ?_
                        refine Gq.valg rfl rfl rfl rfl rfl (Val.cast (val_fieldAddr rfl Tryd.underlying34 rfl Tryd.ty31 rfl rfl) (v' := ptr b38 4) rfl) ?_
                        refine Gq.valg rfl rfl rfl rfl rfl (val_load rfl Tryd.ty31 rfl rfl (cell_old hb95 hc100)) ?_
                        refine Gq.valg rfl rfl rfl rfl rfl (val_call (vs := [sCut 4 0 p1.length (.slice sa118 sn119 sc120), .slice sa29 sn30 sc31]) rfl Tryd.fn7 rfl (fun w H => pays_yes (hcB.below H.below) (hs90.below H.below))) ?_
                        refine Gq.val rfl rfl rfl (val_pickT rfl rfl rfl) ?_
                        refine Gq.val rfl rfl rfl (val_move rfl rfl) ?_
                        refine Gq.valg rfl rfl rfl rfl rfl (Val.cast (val_fieldAddr rfl Tryd.underlying34 rfl Tryd.ty26 rfl rfl) (v' := ptr b127 5) rfl) ?_
                        refine Gq.valg rfl rfl rfl rfl rfl (val_load rfl Tryd.ty26 rfl rfl (cell_rec (k := 0) rfl rfl)) ?_
                        refine Gq.valg rfl rfl rfl rfl rfl (val_len rfl Tryd.underlying26 rfl (len_base k5)) ?_
                        refine Gq.valg rfl rfl rfl rfl rfl (Val.cast (val_fieldAddr rfl Tryd.underlying34 rfl Tryd.ty31 rfl rfl) (v' := ptr b127 4) rfl) ?_
                        refine Gq.valg rfl rfl rfl rfl rfl (val_load rfl Tryd.ty31 rfl rfl (cell_rec (k := 0) rfl rfl)) ?_
                        refine Gq.valg rfl rfl rfl rfl rfl (val_len rfl Tryd.underlying31 rfl (len_base k4)) ?_
                        refine Gq.valg rfl rfl rfl rfl rfl (val_eql rfl rfl rfl) ?_
                        refine Gq.val rfl rfl rfl (val_pickT rfl rfl rfl) ?_
                        refine Gq.val rfl rfl rfl (val_assign rfl rfl) ?_
                        refine Gq.done ?_
                        refine Gx.thenN ?_
                        refine Gx.ret ?_
                        refine Gx.ret1B hW81 Tryd.results4 rfl ?_
                        first | rfl | exact congrArg Value.bool (decide_eq_true (by omega))

theorem goes_any {W : World} {k f z : Int} {sv mv pv : Value} {cs : List Mt.Sy} {money : List Int} {pays : List Row} (hz0 : 0 ≤ z) (hz1 : z < 4294967296) (hg : Lg.HG W) (hs : SlS Mt.FM 5 W sv cs) (hm : SlS Lg.FM 1 W mv money) (hp : SlS FW 1 W pv pays) (hrows : ∀ r ∈ pays, SlS Lg.FP 4 W (.slice r.a r.xs.length r.c) r.xs) (hsz : ∀ r ∈ pays, r.xs.length ≤ 1048576) {ma : Option Addr} {mc : Nat} {more : List Lg.Py} (hmo : SlS Lg.FP 4 W (.slice ma more.length mc) more) (hms : more.length ≤ 1048576) :
    Calls Tryd.prog 4 #[.int .i64 k, .int .i64 f, .int .u32 z, sv, mv, pv, .slice ma more.length mc] W fun e w' => e = .returned (.bool true) ∧ Below W.heap.size W w' := by
  obtain ⟨L, rfl⟩ : ∃ L : Nat, z = (L : Int) := ⟨z.toNat, by omega⟩
  have hL : L < 4294967296 := by omega
  by_cases h : Good k f L cs money pays
  · obtain ⟨⟨h1, h2, h3, h4, h5, h6⟩, ds, h7, h8, h9⟩ := h
    obtain ⟨n, rfl⟩ : ∃ n : Nat, k = (n : Int) := ⟨k.toNat, by omega⟩
    obtain ⟨f', rfl⟩ : ∃ f' : Nat, f = (f' : Int) := ⟨f.toNat, by omega⟩
    simp only [Int.toNat_natCast] at h5 h6 h7 h8 h9
    exact goes_yes (c := ⟨n, n - f', L⟩) hg hs hm hp hrows hsz (by dsimp only; omega) (by dsimp only; omega) h3 (by dsimp only; omega) (by dsimp only; omega) h6 hL h7 h8 h9 hmo hms
  · exact goes_bad hg hs hm hp hrows hsz hL h hmo hms
end Go.Proofs.YtkbggdocfklkkaaDoor
