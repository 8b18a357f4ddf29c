/- The last decided block; what is paid by then. The walk. No condition. -/
import Derived.Test.YtfeeociajllbhaaDoorMM5
import Derived.Test.YtfeeociajllbhaaDoorLM1
import Derived.Test.YtfeeociajllbhaaDoorCA7
namespace Go.Proofs.YtfeeociajllbhaaDoor
open Go.RowKit
set_option linter.unusedVariables false
set_option linter.unusedSimpArgs false
set_option maxRecDepth 100000

/-- the last decided block with the greatest round, of the first n -/
def lastB (bl : List Mt.Bk) (ds : List Bool) : Nat → Option Nat
  | 0 => none
  | n + 1 => if ds[n]? = some true ∧ (∀ b, lastB bl ds n = some b → ((bl[b]?).map Mt.Bk.rnd).getD 0 ≤ ((bl[n]?).map Mt.Bk.rnd).getD 0) then some n else lastB bl ds n
def bI : Option Nat → Int
  | none => -1
  | some b => (b : Int)
theorem lastB_lt {bl : List Mt.Bk} {ds : List Bool} : ∀ {n b : Nat}, lastB bl ds n = some b → b < n ∧ ds[b]? = some true
  | 0, b, h => by cases h
  | n + 1, b, h => by
    unfold lastB at h
    split at h
    · rename_i q; cases h; exact ⟨Nat.lt_succ_self _, q.1⟩
    · have := lastB_lt h; exact ⟨by omega, this.2⟩
theorem last_no {bl : List Mt.Bk} {ds : List Bool} {n : Nat} (h : ds[n]? = some false) : lastB bl ds (n + 1) = lastB bl ds n := by
  show (if _ then _ else _) = _
  rw [if_neg (by rw [h]; rintro ⟨q, _⟩; cases q)]
theorem last_first {bl : List Mt.Bk} {ds : List Bool} {n : Nat} (h : ds[n]? = some true) (h0 : lastB bl ds n = none) : lastB bl ds (n + 1) = some n := by
  show (if _ then _ else _) = _
  rw [if_pos ⟨h, fun b q => by rw [h0] at q; cases q⟩]
theorem last_up {bl : List Mt.Bk} {ds : List Bool} {n b : Nat} {x y : Mt.Bk} (h : ds[n]? = some true) (h0 : lastB bl ds n = some b) (hx : bl[n]? = some x) (hy : bl[b]? = some y) (hr : y.rnd ≤ x.rnd) : lastB bl ds (n + 1) = some n := by
  show (if _ then _ else _) = _
  rw [if_pos ⟨h, fun b' q => by rw [h0] at q; cases q; rw [hx, hy]; exact hr⟩]
theorem last_stay {bl : List Mt.Bk} {ds : List Bool} {n b : Nat} {x y : Mt.Bk} (h0 : lastB bl ds n = some b) (hx : bl[n]? = some x) (hy : bl[b]? = some y) (hr : ¬ y.rnd ≤ x.rnd) : lastB bl ds (n + 1) = some b := by
  show (if _ then _ else _) = _
  rw [if_neg (by rintro ⟨_, q⟩; have := q b h0; rw [hx, hy] at this; exact hr this), h0]
theorem last_any {W : World} {a0 a1 a2 a3 : Option Addr} {m0 c0 m1 c1 m2 c2 m3 c3 : Nat} {bl : List Mt.Bk} {ds : List Bool} (h1 : SlS Mt.FK 2 W (.slice a1 m1 c1) bl) (h3 : SlS Mt.FB 1 W (.slice a3 m3 c3) ds) (hl : ds.length = bl.length) :
    Calls Tryd.prog 11 #[.agg #[.slice a0 m0 c0, .slice a1 m1 c1, .slice a2 m2 c2, .slice a3 m3 c3]] W fun e w' => e = .returned (.int .i64 (bI (lastB bl ds ds.length))) ∧ Below W.heap.size W w' := by
  have hm9 := sls_bd h3
  refine calls_pure (Gx.enter (l := []) Tryd.func11 rfl Tryd.ntmps11 rfl (Sat.start W) ?_)
  refine Gx.know (m' := [(0, .agg #[.slice a0 m0 c0, .slice a1 m1 c1, .slice a2 m2 c2, .slice a3 m3 c3])]) (.cons rfl .nil) ?_
  refine Gx.seq ?_
  refine Gx.region ?_
  refine Gx.eff rfl rfl rfl (eff_box rfl rfl (vs := [.slice a0 m0 c0, .slice a1 m1 c1, .slice a2 m2 c2, .slice a3 m3 c3]) rfl) ?_
  rintro _ _ ⟨b1, rfl, rfl⟩
  refine Gx.val rfl rfl rfl (val_assign rfl rfl) ?_
  refine Gx.done ?_
  refine Gx.thenN ?_
  refine Gx.seq ?_
  refine Gx.region ?_
  refine Gx.val rfl rfl rfl (val_assign rfl rfl) ?_
  refine Gx.done ?_
  refine Gx.thenN ?_
  refine Gx.seq ?_
  refine Gx.seq ?_
  refine Gx.region ?_
  refine Gx.val rfl rfl rfl (Val.cast (val_fieldAddr rfl Tryd.underlying61 rfl Tryd.ty30 rfl rfl) (v' := ptr b1 0) rfl) ?_
  refine Gx.val rfl rfl rfl (Val.cast (val_fieldAddr rfl Tryd.underlying30 rfl Tryd.ty28 rfl rfl) (v' := ptr b1 3) rfl) ?_
  refine Gx.val rfl rfl rfl (val_load rfl Tryd.ty28 rfl rfl (cell_rec (k := 0) rfl rfl)) ?_
  refine Gx.val rfl rfl rfl (val_len rfl Tryd.underlying28 rfl (len_base h3)) ?_
  refine Gx.val rfl rfl rfl (val_move rfl rfl) ?_
  refine Gx.done ?_
  refine Gx.thenN ?_
  refine Gx.block ?_
  refine Gx.loop (ι := Nat × (Option Nat)) (fun ξ => (ξ.1 ≤ ds.length) ∧ (lastB bl ds ξ.1 = ξ.2)) (fun ξ => [(1, ptr b1 0), (3, .int .i64 (bI ξ.2)), (8, .slice a3 m3 c3), (9, .int .i64 ((ds.length : Nat) : Int)), (10, .int .i64 ((ξ.1 : Nat) : Int))]) (fun ξ => [Hp.rec_ b1 [.slice a0 m0 c0, .slice a1 m1 c1, .slice a2 m2 c2, .slice a3 m3 c3]]) (fun ξ => ds.length - ξ.1) (0, none) ⟨by first | omega | (dsimp only; omega), rfl⟩ ((.cons rfl (.cons rfl (.cons rfl (.cons rfl (.cons rfl .nil)))))) rfl ?_
  rintro ⟨i, o⟩ ⟨hi, ho⟩
  dsimp only at hi ho
  refine Gx.know (m' := [(1, ptr b1 0), (3, .int .i64 (bI o)), (8, .slice a3 m3 c3), (9, .int .i64 ((ds.length : Nat) : Int)), (10, .int .i64 ((i : Nat) : Int))]) (.cons rfl (.cons rfl (.cons rfl (.cons rfl (.cons rfl .nil))))) (Gx.norm (l' := [Hp.rec_ b1 [.slice a0 m0 c0, .slice a1 m1 c1, .slice a2 m2 c2, .slice a3 m3 c3]]) rfl ?_)
  rcases o with _ | b
  · refine Gx.know (m' := [(1, ptr b1 0), (3, .int .i64 (-1)), (8, .slice a3 m3 c3), (9, .int .i64 ((ds.length : Nat) : Int)), (10, .int .i64 ((i : Nat) : Int))]) (.cons rfl (.cons rfl (.cons rfl (.cons rfl (.cons rfl .nil))))) (Gx.norm (l' := [Hp.rec_ b1 [.slice a0 m0 c0, .slice a1 m1 c1, .slice a2 m2 c2, .slice a3 m3 c3]]) rfl ?_)
    refine Gx.seq ?_
    refine Gx.region ?_
    refine Gx.val rfl rfl rfl (val_lss rfl rfl rfl) ?_
    refine Gx.done ?_
    refine Gx.thenN ?_
    refine Gx.seq ?_
    refine Gx.dec rfl (fun h2 => ?_) (fun h2 => ?_)
    · refine Gx.skip ?_
      refine Gx.thenN ?_
      refine Gx.seq ?_
      refine Gx.block ?_
      refine Gx.seq ?_
      refine Gx.region ?_
      refine Gx.val rfl rfl rfl (val_move rfl rfl) ?_
      obtain ⟨x3, hx3⟩ := get_of_lt (xs := ds) (k := i) (by omega)
      refine Gx.val rfl rfl rfl (val_ixa rfl Tryd.underlying28 Tryd.ty4 rfl rfl (j := i) (rfl) (reach_base h3 hx3)) ?_
      refine Gx.val rfl rfl rfl (val_load rfl Tryd.ty4 rfl rfl (cell_base (i := 0) h3 hx3 rfl)) ?_
      refine Gx.val rfl rfl rfl (val_assign rfl rfl) ?_
      refine Gx.val rfl rfl rfl (val_assign rfl rfl) ?_
      refine Gx.done ?_
      refine Gx.thenN ?_
      refine Gx.seq ?_
      refine Gx.regionQ Tryd.mixed (by kernel_rfl) ?_
      refine Gq.val rfl rfl rfl (val_move rfl rfl) ?_
      refine Gq.val rfl rfl rfl (val_move rfl rfl) ?_
      refine Gq.casesB (t := 16) rfl (fun h4 => ?_) (fun h4 => ?_)
      · refine Gq.valg rfl rfl rfl rfl rfl (val_move rfl rfl) ?_
        refine Gq.valg rfl rfl rfl rfl rfl (Val.cast (val_lss rfl rfl rfl) (v' := .bool true) rfl) ?_
        refine Gq.valg rfl rfl rfl rfl rfl (val_move rfl rfl) ?_
        refine Gq.skipg rfl rfl rfl rfl rfl rfl ?_
        refine Gq.skipg rfl rfl rfl rfl rfl rfl ?_
        refine Gq.skipg rfl rfl rfl rfl rfl rfl ?_
        refine Gq.skipg rfl rfl rfl rfl rfl rfl ?_
        refine Gq.skipg rfl rfl rfl rfl rfl rfl ?_
        refine Gq.skipg rfl rfl rfl rfl rfl rfl ?_
        refine Gq.skipg rfl rfl rfl rfl rfl rfl ?_
        refine Gq.skipg rfl rfl rfl rfl rfl rfl ?_
        refine Gq.skipg rfl rfl rfl rfl rfl rfl ?_
        refine Gq.skipg rfl rfl rfl rfl rfl rfl ?_
        refine Gq.skipg rfl rfl rfl rfl rfl rfl ?_
        refine Gq.skipg rfl rfl rfl rfl rfl rfl ?_
        refine Gq.skipg rfl rfl rfl rfl rfl rfl ?_
        refine Gq.skipg rfl rfl rfl rfl rfl rfl ?_
        refine Gq.skipg rfl rfl rfl rfl rfl rfl ?_
        refine Gq.valg rfl rfl rfl rfl rfl (val_pickT rfl rfl rfl) ?_
        refine Gq.val rfl rfl rfl (val_pickT rfl rfl rfl) ?_
        refine Gq.done ?_
        refine Gx.thenN ?_
        refine Gx.t rfl ?_
        refine Gx.region ?_
        refine Gx.val rfl rfl rfl (val_move rfl rfl) ?_
        refine Gx.val rfl rfl rfl (val_assign rfl rfl) ?_
        refine Gx.done ?_
        refine Gx.blkN ?_
        refine Gx.thenN ?_
        refine Gx.region ?_
        refine Gx.val rfl rfl rfl (val_add rfl rfl rfl (r := ((i + 1 : Nat) : Int)) (w64 (by omega) (by omega))) ?_
        refine Gx.val rfl rfl rfl (val_move rfl rfl) ?_
        refine Gx.done ?_
        refine Gx.thenN ?_
        exact Gx.round (i + 1, (some i)) ⟨by first | omega | (dsimp only; omega), last_first (by rw [hx3, h4]) ho⟩ (by first | omega | (dsimp only; omega)) ((.cons rfl (.cons rfl (.cons rfl (.cons rfl (.cons rfl .nil)))))) rfl
      · refine Gq.skipg rfl rfl rfl rfl rfl rfl ?_
        refine Gq.skipg rfl rfl rfl rfl rfl rfl ?_
        refine Gq.skipg rfl rfl rfl rfl rfl rfl ?_
        refine Gq.skipu rfl rfl rfl rfl rfl ?_
        refine Gq.skipu rfl rfl rfl rfl rfl ?_
        refine Gq.skipu rfl rfl rfl rfl rfl ?_
        refine Gq.skipu rfl rfl rfl rfl rfl ?_
        refine Gq.skipu rfl rfl rfl rfl rfl ?_
        refine Gq.skipu rfl rfl rfl rfl rfl ?_
        refine Gq.skipu rfl rfl rfl rfl rfl ?_
        refine Gq.skipu rfl rfl rfl rfl rfl ?_
        refine Gq.skipu rfl rfl rfl rfl rfl ?_
        refine Gq.skipu rfl rfl rfl rfl rfl ?_
        refine Gq.skipu rfl rfl rfl rfl rfl ?_
        refine Gq.skipu rfl rfl rfl rfl rfl ?_
        refine Gq.skipu rfl rfl rfl rfl rfl ?_
        refine Gq.skipu rfl rfl rfl rfl rfl ?_
        refine Gq.skipu rfl rfl rfl rfl rfl ?_
        refine Gq.skipg rfl rfl rfl rfl rfl rfl ?_
        refine Gq.val rfl rfl rfl (val_pickF rfl rfl rfl) ?_
        refine Gq.done ?_
        refine Gx.thenN ?_
        refine Gx.f rfl ?_
        refine Gx.skip ?_
        refine Gx.blkN ?_
        refine Gx.thenN ?_
        refine Gx.region ?_
        refine Gx.val rfl rfl rfl (val_add rfl rfl rfl (r := ((i + 1 : Nat) : Int)) (w64 (by omega) (by omega))) ?_
        refine Gx.val rfl rfl rfl (val_move rfl rfl) ?_
        refine Gx.done ?_
        refine Gx.thenN ?_
        exact Gx.round (i + 1, none) ⟨by first | omega | (dsimp only; omega), by rw [last_no (by rw [hx3, h4]), ho]⟩ (by first | omega | (dsimp only; omega)) ((.cons rfl (.cons rfl (.cons rfl (.cons rfl (.cons rfl .nil)))))) rfl
    · refine Gx.exit ?_
      refine Gx.thenE ?_
      refine Gx.thenE ?_
      refine Gx.blkE ?_
      refine Gx.thenN ?_
      refine Gx.seq ?_
      refine Gx.region ?_
      refine Gx.val rfl rfl rfl (val_move rfl rfl) ?_
      refine Gx.val rfl rfl rfl (val_assign rfl rfl) ?_
      refine Gx.done ?_
      refine Gx.thenN ?_
      refine Gx.ret ?_
      obtain rfl : i = ds.length := by omega
      refine Gx.ret1 Tryd.results11 rfl ?_
      rw [ho]; rfl
  · refine Gx.know (m' := [(1, ptr b1 0), (3, .int .i64 ((b : Nat) : Int)), (8, .slice a3 m3 c3), (9, .int .i64 ((ds.length : Nat) : Int)), (10, .int .i64 ((i : Nat) : Int))]) (.cons rfl (.cons rfl (.cons rfl (.cons rfl (.cons rfl .nil))))) (Gx.norm (l' := [Hp.rec_ b1 [.slice a0 m0 c0, .slice a1 m1 c1, .slice a2 m2 c2, .slice a3 m3 c3]]) rfl ?_)
    refine Gx.seq ?_
    refine Gx.region ?_
    refine Gx.val rfl rfl rfl (val_lss rfl rfl rfl) ?_
    refine Gx.done ?_
    refine Gx.thenN ?_
    refine Gx.seq ?_
    refine Gx.dec rfl (fun h5 => ?_) (fun h5 => ?_)
    · refine Gx.skip ?_
      refine Gx.thenN ?_
      refine Gx.seq ?_
      refine Gx.block ?_
      refine Gx.seq ?_
      have hbl := (lastB_lt ho).1
      obtain ⟨x, hx⟩ := get_of_lt (xs := bl) (k := i) (by omega)
      obtain ⟨y, hy⟩ := get_of_lt (xs := bl) (k := b) (by omega)
      refine Gx.region ?_
      refine Gx.val rfl rfl rfl (val_move rfl rfl) ?_
      obtain ⟨x6, hx6⟩ := get_of_lt (xs := ds) (k := i) (by omega)
      refine Gx.val rfl rfl rfl (val_ixa rfl Tryd.underlying28 Tryd.ty4 rfl rfl (j := i) (rfl) (reach_base h3 hx6)) ?_
      refine Gx.val rfl rfl rfl (val_load rfl Tryd.ty4 rfl rfl (cell_base (i := 0) h3 hx6 rfl)) ?_
      refine Gx.val rfl rfl rfl (val_assign rfl rfl) ?_
      refine Gx.val rfl rfl rfl (val_assign rfl rfl) ?_
      refine Gx.done ?_
      refine Gx.thenN ?_
      refine Gx.seq ?_
      refine Gx.regionQ Tryd.mixed (by kernel_rfl) ?_
      refine Gq.val rfl rfl rfl (val_move rfl rfl) ?_
      refine Gq.val rfl rfl rfl (val_move rfl rfl) ?_
      refine Gq.casesB (t := 16) rfl (fun h7 => ?_) (fun h7 => ?_)
      · refine Gq.valg rfl rfl rfl rfl rfl (val_move rfl rfl) ?_
        refine Gq.valg rfl rfl rfl rfl rfl (val_lss rfl rfl rfl) ?_
        refine Gq.valg rfl rfl rfl rfl rfl (val_move rfl rfl) ?_
        refine Gq.slot (t := 19) (v := .bool false) (look_decF rfl (by omega)) ?_
        refine Gq.valg rfl rfl rfl rfl rfl (Val.cast (val_fieldAddr rfl Tryd.underlying61 rfl Tryd.ty30 rfl rfl) (v' := ptr b1 0) rfl) ?_
        refine Gq.valg rfl rfl rfl rfl rfl (Val.cast (val_fieldAddr rfl Tryd.underlying30 rfl Tryd.ty27 rfl rfl) (v' := ptr b1 1) rfl) ?_
        refine Gq.valg rfl rfl rfl rfl rfl (val_load rfl Tryd.ty27 rfl rfl (cell_rec (k := 0) rfl rfl)) ?_
        refine Gq.valg rfl rfl rfl rfl rfl (val_move rfl rfl) ?_
        refine Gq.valg rfl rfl rfl rfl rfl (val_ixa rfl Tryd.underlying27 Tryd.ty47 rfl rfl (j := i) (rfl) (reach_base h1 hx)) ?_
        refine Gq.valg rfl rfl rfl rfl rfl (Val.cast (val_fieldAddr rfl Tryd.underlying47 rfl Tryd.ty3 rfl rfl) (v' := ptr (sB (.slice a1 m1 c1)) (sO (.slice a1 m1 c1) + i * 2 + 1)) rfl) ?_
        refine Gq.valg rfl rfl rfl rfl rfl (val_load rfl Tryd.ty3 rfl rfl (cell_base (i := 1) h1 hx rfl)) ?_
        refine Gq.valg rfl rfl rfl rfl rfl (Val.cast (val_fieldAddr rfl Tryd.underlying61 rfl Tryd.ty30 rfl rfl) (v' := ptr b1 0) rfl) ?_
        refine Gq.valg rfl rfl rfl rfl rfl (Val.cast (val_fieldAddr rfl Tryd.underlying30 rfl Tryd.ty27 rfl rfl) (v' := ptr b1 1) rfl) ?_
        refine Gq.valg rfl rfl rfl rfl rfl (val_load rfl Tryd.ty27 rfl rfl (cell_rec (k := 0) rfl rfl)) ?_
        refine Gq.valg rfl rfl rfl rfl rfl (val_move rfl rfl) ?_
        refine Gq.valg rfl rfl rfl rfl rfl (val_ixa rfl Tryd.underlying27 Tryd.ty47 rfl rfl (j := b) (rfl) (reach_base h1 hy)) ?_
        refine Gq.valg rfl rfl rfl rfl rfl (Val.cast (val_fieldAddr rfl Tryd.underlying47 rfl Tryd.ty3 rfl rfl) (v' := ptr (sB (.slice a1 m1 c1)) (sO (.slice a1 m1 c1) + b * 2 + 1)) rfl) ?_
        refine Gq.valg rfl rfl rfl rfl rfl (val_load rfl Tryd.ty3 rfl rfl (cell_base (i := 1) h1 hy rfl)) ?_
        refine Gq.valg rfl rfl rfl rfl rfl (val_geq rfl rfl rfl) ?_
        refine Gq.valg rfl rfl rfl rfl rfl (val_pickF rfl rfl rfl) ?_
        refine Gq.val rfl rfl rfl (val_pickT rfl rfl rfl) ?_
        refine Gq.done ?_
        refine Gx.thenN ?_
        refine Gx.dec rfl (fun h8 => ?_) (fun h8 => ?_)
        · refine Gx.region ?_
          refine Gx.val rfl rfl rfl (val_move rfl rfl) ?_
          refine Gx.val rfl rfl rfl (val_assign rfl rfl) ?_
          refine Gx.done ?_
          refine Gx.blkN ?_
          refine Gx.thenN ?_
          refine Gx.region ?_
          refine Gx.val rfl rfl rfl (val_add rfl rfl rfl (r := ((i + 1 : Nat) : Int)) (w64 (by omega) (by omega))) ?_
          refine Gx.val rfl rfl rfl (val_move rfl rfl) ?_
          refine Gx.done ?_
          refine Gx.thenN ?_
          exact Gx.round (i + 1, (some i)) ⟨by first | omega | (dsimp only; omega), last_up (by rw [hx6, h7]) ho hx hy (by omega)⟩ (by first | omega | (dsimp only; omega)) ((.cons rfl (.cons rfl (.cons rfl (.cons rfl (.cons rfl .nil)))))) rfl
        · refine Gx.skip ?_
          refine Gx.blkN ?_
          refine Gx.thenN ?_
          refine Gx.region ?_
          refine Gx.val rfl rfl rfl (val_add rfl rfl rfl (r := ((i + 1 : Nat) : Int)) (w64 (by omega) (by omega))) ?_
          refine Gx.val rfl rfl rfl (val_move rfl rfl) ?_
          refine Gx.done ?_
          refine Gx.thenN ?_
          exact Gx.round (i + 1, (some b)) ⟨by first | omega | (dsimp only; omega), last_stay ho hx hy (by omega)⟩ (by first | omega | (dsimp only; omega)) ((.cons rfl (.cons rfl (.cons rfl (.cons rfl (.cons rfl .nil)))))) rfl
      · refine Gq.skipg rfl rfl rfl rfl rfl rfl ?_
        refine Gq.skipg rfl rfl rfl rfl rfl rfl ?_
        refine Gq.skipg rfl rfl rfl rfl rfl rfl ?_
        refine Gq.skipu rfl rfl rfl rfl rfl ?_
        refine Gq.skipu rfl rfl rfl rfl rfl ?_
        refine Gq.skipu rfl rfl rfl rfl rfl ?_
        refine Gq.skipu rfl rfl rfl rfl rfl ?_
        refine Gq.skipu rfl rfl rfl rfl rfl ?_
        refine Gq.skipu rfl rfl rfl rfl rfl ?_
        refine Gq.skipu rfl rfl rfl rfl rfl ?_
        refine Gq.skipu rfl rfl rfl rfl rfl ?_
        refine Gq.skipu rfl rfl rfl rfl rfl ?_
        refine Gq.skipu rfl rfl rfl rfl rfl ?_
        refine Gq.skipu rfl rfl rfl rfl rfl ?_
        refine Gq.skipu rfl rfl rfl rfl rfl ?_
        refine Gq.skipu rfl rfl rfl rfl rfl ?_
        refine Gq.skipu rfl rfl rfl rfl rfl ?_
        refine Gq.skipu rfl rfl rfl rfl rfl ?_
        refine Gq.skipg rfl rfl rfl rfl rfl rfl ?_
        refine Gq.val rfl rfl rfl (val_pickF rfl rfl rfl) ?_
        refine Gq.done ?_
        refine Gx.thenN ?_
        refine Gx.f rfl ?_
        refine Gx.skip ?_
        refine Gx.blkN ?_
        refine Gx.thenN ?_
        refine Gx.region ?_
        refine Gx.val rfl rfl rfl (val_add rfl rfl rfl (r := ((i + 1 : Nat) : Int)) (w64 (by omega) (by omega))) ?_
        refine Gx.val rfl rfl rfl (val_move rfl rfl) ?_
        refine Gx.done ?_
        refine Gx.thenN ?_
        exact Gx.round (i + 1, (some b)) ⟨by first | omega | (dsimp only; omega), by rw [last_no (by rw [hx6, h7]), ho]⟩ (by first | omega | (dsimp only; omega)) ((.cons rfl (.cons rfl (.cons rfl (.cons rfl (.cons rfl .nil)))))) rfl
    · refine Gx.exit ?_
      refine Gx.thenE ?_
      refine Gx.thenE ?_
      refine Gx.blkE ?_
      refine Gx.thenN ?_
      refine Gx.seq ?_
      refine Gx.region ?_
      refine Gx.val rfl rfl rfl (val_move rfl rfl) ?_
      refine Gx.val rfl rfl rfl (val_assign rfl rfl) ?_
      refine Gx.done ?_
      refine Gx.thenN ?_
      refine Gx.ret ?_
      obtain rfl : i = ds.length := by omega
      refine Gx.ret1 Tryd.results11 rfl ?_
      rw [ho]; rfl

end Go.Proofs.YtfeeociajllbhaaDoor
