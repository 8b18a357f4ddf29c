/- A cut grows, or shrinks, until it is whole; is one? The walks. No condition. -/
import Derived.Test.YtffnjojdjbdfcaaD2
namespace Go.Proofs.Ytffnjojdjbdfcaa
open Go.RowKit
set_option linter.unusedVariables false
set_option linter.unusedSimpArgs false
set_option maxRecDepth 100000

theorem settle24 {W : World} {n : Nat} {l : List En} {c : List Nat} {hv cv : Value} (hE : OkE n (l.map En.raw)) (hok : OkC n l) (hcut : Cut n l c) (hs : SlS FEn 3 W hv l) (hc : SlS FN 1 W cv c) :
    Calls Try.prog 23 #[.int .i64 ((n : Nat) : Int), hv, cv, .func (.func 24) #[] #[]] W (Ret W fun v l9 => ∃ u d, v = .tuple #[u, .int .i64 0] ∧ l9 = [Hp.own FN 1 u d] ∧ JG n l c d ∧ Whole l d ∧ IsS u) := by
  refine Gx.enter (l := []) Try.func23 rfl Try.ntmps23 rfl (Sat.start W) ?_
  refine Gx.know (m' := [(0, .int .i64 ((n : Nat) : Int)), (1, hv), (2, cv), (3, .func (.func 24) #[] #[])]) (.cons rfl (.cons rfl (.cons rfl (.cons rfl .nil)))) ?_
  refine Gx.seq ?_
  refine Gx.region ?_
  refine Gx.val rfl rfl rfl (val_assign rfl rfl) ?_
  refine Gx.val rfl rfl rfl (val_assign rfl rfl) ?_
  refine Gx.done ?_
  refine Gx.thenN ?_
  refine Gx.seq ?_
  refine Gx.region ?_
  refine Gx.val rfl rfl rfl (val_move rfl rfl) ?_
  refine Gx.val rfl rfl rfl (val_move rfl rfl) ?_
  refine Gx.val rfl rfl rfl (val_move rfl rfl) ?_
  refine Gx.callB rfl rfl rfl (vs := [.int .i64 ((n : Nat) : Int), hv, cv]) rfl Try.fn21 rfl (R := fun v w' => ∃ wb ofv rows, v = .tuple #[ptr wb 0, .int .i64 0] ∧ WOk w' n l wb hv ofv rows) (fun w H => open_yes hE hcut (hs.below H.below) (hc.below H.below)) ?_
  rintro _ W5 ⟨wb1, ofv2, rows3, rfl, hw4⟩ H6
  have hW7 := H6.below
  have hs8 := hs.below H6.below
  have hs9 := hc.below H6.below
  refine Gx.val rfl rfl rfl (val_move rfl rfl) ?_
  refine Gx.val rfl rfl rfl (val_extract rfl rfl rfl) ?_
  refine Gx.val rfl rfl rfl (val_extract rfl rfl rfl) ?_
  refine Gx.val rfl rfl rfl (val_assign rfl rfl) ?_
  refine Gx.val rfl rfl rfl (val_assign rfl rfl) ?_
  refine Gx.done ?_
  refine Gx.thenN ?_
  refine Gx.seq ?_
  refine Gx.seq ?_
  refine Gx.region ?_
  refine Gx.val rfl rfl rfl (val_move rfl rfl) ?_
  refine Gx.val rfl rfl rfl (Val.cast (val_neq rfl rfl rfl) (v' := .bool false) rfl) ?_
  refine Gx.done ?_
  refine Gx.thenN ?_
  refine Gx.f rfl ?_
  refine Gx.skip ?_
  refine Gx.thenN ?_
  refine Gx.seq ?_
  refine Gx.region ?_
  refine Gx.val rfl rfl rfl (val_move rfl rfl) ?_
  refine Gx.eff rfl rfl rfl (eff_call (vs := [cv]) rfl Try.fn30 rfl (fun w H => clone_any (hs9) (by have := hcut.len; have := hok.low; omega) (by have := hcut.len; have := hok.high; omega) H)) ?_
  rintro _ l11 ⟨u10, hiu10, rfl, hl11⟩
  refine Gx.sepEq (l' := [Hp.own FN 1 u10 c]) hl11 ?_
  refine Gx.val rfl rfl rfl (val_assign rfl rfl) ?_
  refine Gx.done ?_
  refine Gx.thenN ?_
  refine Gx.seq ?_
  refine Gx.seq ?_
  refine Gx.region ?_
  refine Gx.val rfl rfl rfl (val_move rfl rfl) ?_
  refine Gx.val rfl rfl rfl (val_move rfl rfl) ?_
  refine Gx.eff rfl rfl rfl (eff_callE (vs := [ptr wb1 0, u10]) rfl Try.fn22 rfl (R := fun v => ∃ z : Int, v = .int .i64 z ∧ MisR l c z) (fun w H => missing_any hok (hw4.below H.below) (hcut) ((H.at_ (k := 0) rfl).sls (by have h91 := (hcut).len; have h92 := hok.high; first | omega | (simp at h91 ⊢; omega))))) ?_
  rintro _ _ ⟨⟨z12, rfl, hz12⟩, rfl⟩
  refine Gx.val rfl rfl rfl (val_assign rfl rfl) ?_
  refine Gx.done ?_
  refine Gx.thenN ?_
  refine Gx.block ?_
  refine Gx.loop (ι := Value × (List Nat) × Int) (fun ξ => (IsS ξ.1) ∧ (JG n l c ξ.2.1) ∧ (MisR l ξ.2.1 ξ.2.2)) (fun ξ => [(0, .int .i64 ((n : Nat) : Int)), (1, hv), (2, cv), (3, .func (.func 24) #[] #[]), (10, ptr wb1 0), (12, ξ.1), (13, .int .i64 ξ.2.2)]) (fun ξ => [Hp.own FN 1 ξ.1 ξ.2.1]) (fun ξ => 400 - ξ.2.1.sum) (u10, c, z12) ⟨hiu10, JG.start hcut, hz12⟩ ((.cons rfl (.cons rfl (.cons rfl (.cons rfl (.cons rfl (.cons rfl (.cons rfl .nil)))))))) rfl ?_
  rintro ⟨u, d, z⟩ ⟨hiu, hj, hz⟩
  dsimp only at hiu hj hz
  refine Gx.know (m' := [(0, .int .i64 ((n : Nat) : Int)), (1, hv), (2, cv), (3, .func (.func 24) #[] #[]), (10, ptr wb1 0), (12, u), (13, .int .i64 z)]) (.cons rfl (.cons rfl (.cons rfl (.cons rfl (.cons rfl (.cons rfl (.cons rfl .nil))))))) (Gx.norm (l' := [Hp.own FN 1 u d]) rfl ?_)
  refine Gx.seq ?_
  refine Gx.seq ?_
  refine Gx.region ?_
  refine Gx.val rfl rfl rfl (val_move rfl rfl) ?_
  refine Gx.val rfl rfl rfl (val_geq rfl rfl rfl) ?_
  refine Gx.done ?_
  refine Gx.thenN ?_
  refine Gx.dec rfl (fun h13 => ?_) (fun h13 => ?_)
  · refine Gx.skip ?_
    refine Gx.thenN ?_
    refine Gx.seq ?_
    refine Gx.block ?_
    rcases hz with ⟨hz0, _⟩ | ⟨i, e, hzi, he, hk, hin, hout⟩
    · exfalso; omega
    subst hzi
    obtain ⟨hsr0, hsr1, s, hs0⟩ := (hok.all _ _ he).2.2 hk
    have hstep := hj.step hok he hk hin hs0 hout
    refine Gx.region ?_
    refine Gx.val rfl rfl rfl (val_move rfl rfl) ?_
    refine Gx.val rfl rfl rfl (val_move rfl rfl) ?_
    refine Gx.val rfl rfl rfl (val_move rfl rfl) ?_
    refine Gx.val rfl rfl rfl (val_move rfl rfl) ?_
    refine Gx.eff rfl rfl rfl (eff_callV (vs := [ptr wb1 0, u, .int .i64 ((i : Nat) : Int)]) (fs := []) (cs := []) rfl Try.fn24 rfl rfl (fun w H => mend24 hok hw4 hj.cut hiu he hk hs0 (H.cast (by rfl)))) ?_
    rintro _ l14 ⟨rfl, hl14⟩
    refine Gx.sepEq (l' := [Hp.own FN 1 u (d.set s.who (cntL l s.who e.src.toNat + 1))]) hl14 ?_
    refine Gx.done ?_
    refine Gx.blkN ?_
    refine Gx.thenN ?_
    refine Gx.region ?_
    refine Gx.val rfl rfl rfl (val_move rfl rfl) ?_
    refine Gx.val rfl rfl rfl (val_move rfl rfl) ?_
    refine Gx.eff rfl rfl rfl (eff_callE (vs := [ptr wb1 0, u]) rfl Try.fn22 rfl (R := fun v => ∃ z : Int, v = .int .i64 z ∧ MisR l (d.set s.who (cntL l s.who e.src.toNat + 1)) z) (fun w H => missing_any hok (hw4.below H.below) (hstep.1.cut) ((H.at_ (k := 0) rfl).sls (by have h91 := (hstep.1.cut).len; have h92 := hok.high; first | omega | (simp at h91 ⊢; omega))))) ?_
    rintro _ _ ⟨⟨z15, rfl, hz15⟩, rfl⟩
    refine Gx.val rfl rfl rfl (val_assign rfl rfl) ?_
    refine Gx.done ?_
    refine Gx.thenN ?_
    exact Gx.round (u, (d.set s.who (cntL l s.who e.src.toNat + 1)), z15) ⟨hiu, hstep.1, hz15⟩ (by first | exact hstep.2 | (dsimp only; exact hstep.2)) ((.cons rfl (.cons rfl (.cons rfl (.cons rfl (.cons rfl (.cons rfl (.cons rfl .nil)))))))) rfl
  · refine Gx.exit ?_
    refine Gx.thenE ?_
    refine Gx.thenE ?_
    refine Gx.blkE ?_
    refine Gx.thenN ?_
    refine Gx.seq ?_
    refine Gx.region ?_
    refine Gx.val rfl rfl rfl (val_move rfl rfl) ?_
    refine Gx.val rfl rfl rfl (val_assign rfl rfl) ?_
    refine Gx.val rfl rfl rfl (val_assign rfl rfl) ?_
    refine Gx.done ?_
    refine Gx.thenN ?_
    refine Gx.ret ?_
    have hwh : Whole l d := by rcases hz with ⟨_, h⟩ | ⟨i, _, h, _⟩; (exact h); (exfalso; omega)
    have hjc := hj.cut.len
    have hn6 := hok.high
    refine Gx.ret2N hW7 Try.results23 rfl rfl ?_
    exact ⟨_, d, rfl, rfl, hj, hwh, hiu⟩

theorem settle25 {W : World} {n : Nat} {l : List En} {c : List Nat} {hv cv : Value} (hE : OkE n (l.map En.raw)) (hok : OkC n l) (hcut : Cut n l c) (hs : SlS FEn 3 W hv l) (hc : SlS FN 1 W cv c) :
    Calls Try.prog 23 #[.int .i64 ((n : Nat) : Int), hv, cv, .func (.func 25) #[] #[]] W (Ret W fun v l9 => ∃ u d, v = .tuple #[u, .int .i64 0] ∧ l9 = [Hp.own FN 1 u d] ∧ JS n l c d ∧ Whole l d ∧ IsS u) := by
  refine Gx.enter (l := []) Try.func23 rfl Try.ntmps23 rfl (Sat.start W) ?_
  refine Gx.know (m' := [(0, .int .i64 ((n : Nat) : Int)), (1, hv), (2, cv), (3, .func (.func 25) #[] #[])]) (.cons rfl (.cons rfl (.cons rfl (.cons rfl .nil)))) ?_
  refine Gx.seq ?_
  refine Gx.region ?_
  refine Gx.val rfl rfl rfl (val_assign rfl rfl) ?_
  refine Gx.val rfl rfl rfl (val_assign rfl rfl) ?_
  refine Gx.done ?_
  refine Gx.thenN ?_
  refine Gx.seq ?_
  refine Gx.region ?_
  refine Gx.val rfl rfl rfl (val_move rfl rfl) ?_
  refine Gx.val rfl rfl rfl (val_move rfl rfl) ?_
  refine Gx.val rfl rfl rfl (val_move rfl rfl) ?_
  refine Gx.callB rfl rfl rfl (vs := [.int .i64 ((n : Nat) : Int), hv, cv]) rfl Try.fn21 rfl (R := fun v w' => ∃ wb ofv rows, v = .tuple #[ptr wb 0, .int .i64 0] ∧ WOk w' n l wb hv ofv rows) (fun w H => open_yes hE hcut (hs.below H.below) (hc.below H.below)) ?_
  rintro _ W5 ⟨wb1, ofv2, rows3, rfl, hw4⟩ H6
  have hW7 := H6.below
  have hs8 := hs.below H6.below
  have hs9 := hc.below H6.below
  refine Gx.val rfl rfl rfl (val_move rfl rfl) ?_
  refine Gx.val rfl rfl rfl (val_extract rfl rfl rfl) ?_
  refine Gx.val rfl rfl rfl (val_extract rfl rfl rfl) ?_
  refine Gx.val rfl rfl rfl (val_assign rfl rfl) ?_
  refine Gx.val rfl rfl rfl (val_assign rfl rfl) ?_
  refine Gx.done ?_
  refine Gx.thenN ?_
  refine Gx.seq ?_
  refine Gx.seq ?_
  refine Gx.region ?_
  refine Gx.val rfl rfl rfl (val_move rfl rfl) ?_
  refine Gx.val rfl rfl rfl (Val.cast (val_neq rfl rfl rfl) (v' := .bool false) rfl) ?_
  refine Gx.done ?_
  refine Gx.thenN ?_
  refine Gx.f rfl ?_
  refine Gx.skip ?_
  refine Gx.thenN ?_
  refine Gx.seq ?_
  refine Gx.region ?_
  refine Gx.val rfl rfl rfl (val_move rfl rfl) ?_
  refine Gx.eff rfl rfl rfl (eff_call (vs := [cv]) rfl Try.fn30 rfl (fun w H => clone_any (hs9) (by have := hcut.len; have := hok.low; omega) (by have := hcut.len; have := hok.high; omega) H)) ?_
  rintro _ l11 ⟨u10, hiu10, rfl, hl11⟩
  refine Gx.sepEq (l' := [Hp.own FN 1 u10 c]) hl11 ?_
  refine Gx.val rfl rfl rfl (val_assign rfl rfl) ?_
  refine Gx.done ?_
  refine Gx.thenN ?_
  refine Gx.seq ?_
  refine Gx.seq ?_
  refine Gx.region ?_
  refine Gx.val rfl rfl rfl (val_move rfl rfl) ?_
  refine Gx.val rfl rfl rfl (val_move rfl rfl) ?_
  refine Gx.eff rfl rfl rfl (eff_callE (vs := [ptr wb1 0, u10]) rfl Try.fn22 rfl (R := fun v => ∃ z : Int, v = .int .i64 z ∧ MisR l c z) (fun w H => missing_any hok (hw4.below H.below) (hcut) ((H.at_ (k := 0) rfl).sls (by have h91 := (hcut).len; have h92 := hok.high; first | omega | (simp at h91 ⊢; omega))))) ?_
  rintro _ _ ⟨⟨z12, rfl, hz12⟩, rfl⟩
  refine Gx.val rfl rfl rfl (val_assign rfl rfl) ?_
  refine Gx.done ?_
  refine Gx.thenN ?_
  refine Gx.block ?_
  refine Gx.loop (ι := Value × (List Nat) × Int) (fun ξ => (IsS ξ.1) ∧ (JS n l c ξ.2.1) ∧ (MisR l ξ.2.1 ξ.2.2)) (fun ξ => [(0, .int .i64 ((n : Nat) : Int)), (1, hv), (2, cv), (3, .func (.func 25) #[] #[]), (10, ptr wb1 0), (12, ξ.1), (13, .int .i64 ξ.2.2)]) (fun ξ => [Hp.own FN 1 ξ.1 ξ.2.1]) (fun ξ => ξ.2.1.sum) (u10, c, z12) ⟨hiu10, JS.start hcut, hz12⟩ ((.cons rfl (.cons rfl (.cons rfl (.cons rfl (.cons rfl (.cons rfl (.cons rfl .nil)))))))) rfl ?_
  rintro ⟨u, d, z⟩ ⟨hiu, hj, hz⟩
  dsimp only at hiu hj hz
  refine Gx.know (m' := [(0, .int .i64 ((n : Nat) : Int)), (1, hv), (2, cv), (3, .func (.func 25) #[] #[]), (10, ptr wb1 0), (12, u), (13, .int .i64 z)]) (.cons rfl (.cons rfl (.cons rfl (.cons rfl (.cons rfl (.cons rfl (.cons rfl .nil))))))) (Gx.norm (l' := [Hp.own FN 1 u d]) rfl ?_)
  refine Gx.seq ?_
  refine Gx.seq ?_
  refine Gx.region ?_
  refine Gx.val rfl rfl rfl (val_move rfl rfl) ?_
  refine Gx.val rfl rfl rfl (val_geq rfl rfl rfl) ?_
  refine Gx.done ?_
  refine Gx.thenN ?_
  refine Gx.dec rfl (fun h13 => ?_) (fun h13 => ?_)
  · refine Gx.skip ?_
    refine Gx.thenN ?_
    refine Gx.seq ?_
    refine Gx.block ?_
    rcases hz with ⟨hz0, _⟩ | ⟨i, e, hzi, he, hk, hin, hout⟩
    · exfalso; omega
    subst hzi
    obtain ⟨hsr0, hsr1, s, hs0⟩ := (hok.all _ _ he).2.2 hk
    have hstep := hj.step hok he hk hin hs0 hout
    refine Gx.region ?_
    refine Gx.val rfl rfl rfl (val_move rfl rfl) ?_
    refine Gx.val rfl rfl rfl (val_move rfl rfl) ?_
    refine Gx.val rfl rfl rfl (val_move rfl rfl) ?_
    refine Gx.val rfl rfl rfl (val_move rfl rfl) ?_
    refine Gx.eff rfl rfl rfl (eff_callV (vs := [ptr wb1 0, u, .int .i64 ((i : Nat) : Int)]) (fs := []) (cs := []) rfl Try.fn25 rfl rfl (fun w H => mend25 hok hw4 hj.cut hiu he (H.cast (by rfl)))) ?_
    rintro _ l14 ⟨rfl, hl14⟩
    refine Gx.sepEq (l' := [Hp.own FN 1 u (d.set e.who (cntL l e.who i))]) hl14 ?_
    refine Gx.done ?_
    refine Gx.blkN ?_
    refine Gx.thenN ?_
    refine Gx.region ?_
    refine Gx.val rfl rfl rfl (val_move rfl rfl) ?_
    refine Gx.val rfl rfl rfl (val_move rfl rfl) ?_
    refine Gx.eff rfl rfl rfl (eff_callE (vs := [ptr wb1 0, u]) rfl Try.fn22 rfl (R := fun v => ∃ z : Int, v = .int .i64 z ∧ MisR l (d.set e.who (cntL l e.who i)) z) (fun w H => missing_any hok (hw4.below H.below) (hstep.1.cut) ((H.at_ (k := 0) rfl).sls (by have h91 := (hstep.1.cut).len; have h92 := hok.high; first | omega | (simp at h91 ⊢; omega))))) ?_
    rintro _ _ ⟨⟨z15, rfl, hz15⟩, rfl⟩
    refine Gx.val rfl rfl rfl (val_assign rfl rfl) ?_
    refine Gx.done ?_
    refine Gx.thenN ?_
    exact Gx.round (u, (d.set e.who (cntL l e.who i)), z15) ⟨hiu, hstep.1, hz15⟩ (by first | exact hstep.2 | (dsimp only; exact hstep.2)) ((.cons rfl (.cons rfl (.cons rfl (.cons rfl (.cons rfl (.cons rfl (.cons rfl .nil)))))))) rfl
  · refine Gx.exit ?_
    refine Gx.thenE ?_
    refine Gx.thenE ?_
    refine Gx.blkE ?_
    refine Gx.thenN ?_
    refine Gx.seq ?_
    refine Gx.region ?_
    refine Gx.val rfl rfl rfl (val_move rfl rfl) ?_
    refine Gx.val rfl rfl rfl (val_assign rfl rfl) ?_
    refine Gx.val rfl rfl rfl (val_assign rfl rfl) ?_
    refine Gx.done ?_
    refine Gx.thenN ?_
    refine Gx.ret ?_
    have hwh : Whole l d := by rcases hz with ⟨_, h⟩ | ⟨i, _, h, _⟩; (exact h); (exfalso; omega)
    have hjc := hj.cut.len
    have hn6 := hok.high
    refine Gx.ret2N hW7 Try.results23 rfl rfl ?_
    exact ⟨_, d, rfl, rfl, hj, hwh, hiu⟩

theorem grow_any {W : World} {n : Nat} {l : List En} {c : List Nat} {hv cv : Value} (hE : OkE n (l.map En.raw)) (hok : OkC n l) (hcut : Cut n l c) (hs : SlS FEn 3 W hv l) (hc : SlS FN 1 W cv c) :
    Calls Try.prog 12 #[.int .i64 ((n : Nat) : Int), hv, cv] W (Ret W fun v l9 => ∃ u d, v = .tuple #[u, .int .i64 0] ∧ l9 = [Hp.own FN 1 u d] ∧ JG n l c d ∧ Whole l d ∧ IsS u) := by
  refine Gx.enter (l := []) Try.func12 rfl Try.ntmps12 rfl (Sat.start W) ?_
  refine Gx.know (m' := [(0, .int .i64 ((n : Nat) : Int)), (1, hv), (2, cv)]) (.cons rfl (.cons rfl (.cons rfl .nil))) ?_
  refine Gx.seq ?_
  refine Gx.region ?_
  refine Gx.val rfl rfl rfl (val_assign rfl rfl) ?_
  refine Gx.val rfl rfl rfl (val_assign rfl rfl) ?_
  refine Gx.done ?_
  refine Gx.thenN ?_
  refine Gx.seq ?_
  refine Gx.region ?_
  refine Gx.val rfl rfl rfl (val_move rfl rfl) ?_
  refine Gx.val rfl rfl rfl (val_move rfl rfl) ?_
  refine Gx.val rfl rfl rfl (val_move rfl rfl) ?_
  refine Gx.eff rfl rfl rfl (eff_callN (vs := [.int .i64 ((n : Nat) : Int), hv, cv, .func (.func 24) #[] #[]]) rfl Try.fn23 rfl (fun w H => settle24 hE hok hcut (hs.below H.below) (hc.below H.below))) ?_
  rintro _ _ ⟨_, ⟨u, d, rfl, rfl, hj, hwh, hiu⟩, rfl⟩
  refine Gx.norm (l' := [Hp.own FN 1 u d]) rfl ?_
  refine Gx.val rfl rfl rfl (val_extract rfl rfl rfl) ?_
  refine Gx.val rfl rfl rfl (val_extract rfl rfl rfl) ?_
  refine Gx.val rfl rfl rfl (val_assign rfl rfl) ?_
  refine Gx.val rfl rfl rfl (val_assign rfl rfl) ?_
  refine Gx.done ?_
  refine Gx.thenN ?_
  refine Gx.ret ?_
  refine Gx.ret2 Try.results12 rfl rfl ?_
  exact ⟨u, d, rfl, rfl, hj, hwh, hiu⟩

theorem shrink_any {W : World} {n : Nat} {l : List En} {c : List Nat} {hv cv : Value} (hE : OkE n (l.map En.raw)) (hok : OkC n l) (hcut : Cut n l c) (hs : SlS FEn 3 W hv l) (hc : SlS FN 1 W cv c) :
    Calls Try.prog 13 #[.int .i64 ((n : Nat) : Int), hv, cv] W (Ret W fun v l9 => ∃ u d, v = .tuple #[u, .int .i64 0] ∧ l9 = [Hp.own FN 1 u d] ∧ JS n l c d ∧ Whole l d ∧ IsS u) := by
  refine Gx.enter (l := []) Try.func13 rfl Try.ntmps13 rfl (Sat.start W) ?_
  refine Gx.know (m' := [(0, .int .i64 ((n : Nat) : Int)), (1, hv), (2, cv)]) (.cons rfl (.cons rfl (.cons rfl .nil))) ?_
  refine Gx.seq ?_
  refine Gx.region ?_
  refine Gx.val rfl rfl rfl (val_assign rfl rfl) ?_
  refine Gx.val rfl rfl rfl (val_assign rfl rfl) ?_
  refine Gx.done ?_
  refine Gx.thenN ?_
  refine Gx.seq ?_
  refine Gx.region ?_
  refine Gx.val rfl rfl rfl (val_move rfl rfl) ?_
  refine Gx.val rfl rfl rfl (val_move rfl rfl) ?_
  refine Gx.val rfl rfl rfl (val_move rfl rfl) ?_
  refine Gx.eff rfl rfl rfl (eff_callN (vs := [.int .i64 ((n : Nat) : Int), hv, cv, .func (.func 25) #[] #[]]) rfl Try.fn23 rfl (fun w H => settle25 hE hok hcut (hs.below H.below) (hc.below H.below))) ?_
  rintro _ _ ⟨_, ⟨u, d, rfl, rfl, hj, hwh, hiu⟩, rfl⟩
  refine Gx.norm (l' := [Hp.own FN 1 u d]) rfl ?_
  refine Gx.val rfl rfl rfl (val_extract rfl rfl rfl) ?_
  refine Gx.val rfl rfl rfl (val_extract rfl rfl rfl) ?_
  refine Gx.val rfl rfl rfl (val_assign rfl rfl) ?_
  refine Gx.val rfl rfl rfl (val_assign rfl rfl) ?_
  refine Gx.done ?_
  refine Gx.thenN ?_
  refine Gx.ret ?_
  refine Gx.ret2 Try.results13 rfl rfl ?_
  exact ⟨u, d, rfl, rfl, hj, hwh, hiu⟩

theorem mis_whole {l : List En} {c : List Nat} {z : Int} (h : MisR l c z) : z < 0 ↔ Whole l c := by
  rcases h with ⟨h, h1⟩ | ⟨i, e, h, he, hk, hin, hout⟩
  · exact ⟨fun _ => h1, fun _ => by omega⟩
  · exact ⟨fun h1 => by omega, fun h1 => absurd (h1 i e he hk hin) hout⟩
theorem whole_any {W : World} {n : Nat} {l : List En} {c : List Nat} {hv cv : Value} (hE : OkE n (l.map En.raw)) (hok : OkC n l) (hcut : Cut n l c) (hs : SlS FEn 3 W hv l) (hc : SlS FN 1 W cv c) :
    Calls Try.prog 10 #[.int .i64 ((n : Nat) : Int), hv, cv] W fun e w' => ∃ v, e = .returned v ∧ (∃ b : Bool, v = .tuple #[.bool b, .int .i64 0] ∧ (b = true ↔ Whole l c)) ∧ Below W.heap.size W w' := by
  refine calls_rel (R := fun v => ∃ b : Bool, v = .tuple #[.bool b, .int .i64 0] ∧ (b = true ↔ Whole l c)) (Gx.enter (l := []) Try.func10 rfl Try.ntmps10 rfl (Sat.start W) ?_)
  refine Gx.know (m' := [(0, .int .i64 ((n : Nat) : Int)), (1, hv), (2, cv)]) (.cons rfl (.cons rfl (.cons rfl .nil))) ?_
  refine Gx.seq ?_
  refine Gx.region ?_
  refine Gx.val rfl rfl rfl (val_assign rfl rfl) ?_
  refine Gx.val rfl rfl rfl (val_assign rfl rfl) ?_
  refine Gx.done ?_
  refine Gx.thenN ?_
  refine Gx.seq ?_
  refine Gx.region ?_
  refine Gx.val rfl rfl rfl (val_move rfl rfl) ?_
  refine Gx.val rfl rfl rfl (val_move rfl rfl) ?_
  refine Gx.val rfl rfl rfl (val_move rfl rfl) ?_
  refine Gx.callB rfl rfl rfl (vs := [.int .i64 ((n : Nat) : Int), hv, cv]) rfl Try.fn21 rfl (R := fun v w' => ∃ wb ofv rows, v = .tuple #[ptr wb 0, .int .i64 0] ∧ WOk w' n l wb hv ofv rows) (fun w H => open_yes hE hcut (hs.below H.below) (hc.below H.below)) ?_
  rintro _ W5 ⟨wb1, ofv2, rows3, rfl, hw4⟩ H6
  have hW7 := H6.below
  have hs8 := hs.below H6.below
  have hs9 := hc.below H6.below
  refine Gx.val rfl rfl rfl (val_move rfl rfl) ?_
  refine Gx.val rfl rfl rfl (val_extract rfl rfl rfl) ?_
  refine Gx.val rfl rfl rfl (val_extract rfl rfl rfl) ?_
  refine Gx.val rfl rfl rfl (val_assign rfl rfl) ?_
  refine Gx.val rfl rfl rfl (val_assign rfl rfl) ?_
  refine Gx.done ?_
  refine Gx.thenN ?_
  refine Gx.seq ?_
  refine Gx.seq ?_
  refine Gx.region ?_
  refine Gx.val rfl rfl rfl (val_move rfl rfl) ?_
  refine Gx.val rfl rfl rfl (Val.cast (val_neq rfl rfl rfl) (v' := .bool false) rfl) ?_
  refine Gx.done ?_
  refine Gx.thenN ?_
  refine Gx.f rfl ?_
  refine Gx.skip ?_
  refine Gx.thenN ?_
  refine Gx.seq ?_
  refine Gx.region ?_
  refine Gx.val rfl rfl rfl (val_move rfl rfl) ?_
  refine Gx.val rfl rfl rfl (val_move rfl rfl) ?_
  refine Gx.eff rfl rfl rfl (eff_callE (vs := [ptr wb1 0, cv]) rfl Try.fn22 rfl (R := fun v => ∃ z : Int, v = .int .i64 z ∧ MisR l c z) (fun w H => missing_any hok (hw4.below H.below) (hcut) (hs9.below H.below))) ?_
  rintro _ _ ⟨⟨z10, rfl, hz10⟩, rfl⟩
  refine Gx.val rfl rfl rfl (val_lss rfl rfl rfl) ?_
  refine Gx.val rfl rfl rfl (val_assign rfl rfl) ?_
  refine Gx.val rfl rfl rfl (val_assign rfl rfl) ?_
  refine Gx.done ?_
  refine Gx.thenN ?_
  refine Gx.ret ?_
  refine Gx.ret2B hW7 Try.results10 rfl rfl ?_
  exact ⟨_, rfl, by rw [decide_eq_true_iff]; exact mis_whole (by assumption)⟩

theorem whole_bad {W : World} {n : Int} {r : List Ev} {c : List Int} {hv cv : Value} (hg : ¬ GoodC n r c) (hs : SlS FE 3 W hv r) (hc : SlS FZ 1 W cv c) :
    Calls Try.prog 10 #[.int .i64 n, hv, cv] W fun e w' => ∃ v, e = .returned v ∧ (∃ z : Int, v = .tuple #[.bool false, .int .i64 z] ∧ z ≠ 0) ∧ Below W.heap.size W w' := by
  refine calls_rel (R := fun v => ∃ z : Int, v = .tuple #[.bool false, .int .i64 z] ∧ z ≠ 0) (Gx.enter (l := []) Try.func10 rfl Try.ntmps10 rfl (Sat.start W) ?_)
  refine Gx.know (m' := [(0, .int .i64 n), (1, hv), (2, cv)]) (.cons rfl (.cons rfl (.cons rfl .nil))) ?_
  refine Gx.seq ?_
  refine Gx.region ?_
  refine Gx.val rfl rfl rfl (val_assign rfl rfl) ?_
  refine Gx.val rfl rfl rfl (val_assign rfl rfl) ?_
  refine Gx.done ?_
  refine Gx.thenN ?_
  refine Gx.seq ?_
  refine Gx.region ?_
  refine Gx.val rfl rfl rfl (val_move rfl rfl) ?_
  refine Gx.val rfl rfl rfl (val_move rfl rfl) ?_
  refine Gx.val rfl rfl rfl (val_move rfl rfl) ?_
  refine Gx.eff rfl rfl rfl (eff_callE (vs := [.int .i64 n, hv, cv]) rfl Try.fn21 rfl (R := fun v => ∃ z : Int, v = .tuple #[.pointer none, .int .i64 z] ∧ z ≠ 0) (fun w H => open_bad hg (hs.below H.below) (hc.below H.below))) ?_
  rintro _ _ ⟨⟨z1, rfl, hz1⟩, rfl⟩
  refine Gx.val rfl rfl rfl (val_move rfl rfl) ?_
  refine Gx.val rfl rfl rfl (val_extract rfl rfl rfl) ?_
  refine Gx.val rfl rfl rfl (val_extract rfl rfl rfl) ?_
  refine Gx.val rfl rfl rfl (val_assign rfl rfl) ?_
  refine Gx.val rfl rfl rfl (val_assign rfl rfl) ?_
  refine Gx.done ?_
  refine Gx.thenN ?_
  refine Gx.seq ?_
  refine Gx.seq ?_
  refine Gx.region ?_
  refine Gx.val rfl rfl rfl (val_move rfl rfl) ?_
  refine Gx.val rfl rfl rfl (val_neq rfl rfl rfl) ?_
  refine Gx.done ?_
  refine Gx.thenN ?_
  refine Gx.decT rfl (by assumption) ?_
  refine Gx.seq ?_
  refine Gx.region ?_
  refine Gx.val rfl rfl rfl (val_move rfl rfl) ?_
  refine Gx.val rfl rfl rfl (val_assign rfl rfl) ?_
  refine Gx.val rfl rfl rfl (val_assign rfl rfl) ?_
  refine Gx.done ?_
  refine Gx.thenN ?_
  refine Gx.ret ?_
  refine Gx.thenR ?_
  refine Gx.ret2 Try.results10 rfl rfl ?_
  exact ⟨_, rfl, hz1⟩

theorem settle24_bad {W : World} {n : Int} {r : List Ev} {c : List Int} {hv cv : Value} (hg : ¬ GoodC n r c) (hs : SlS FE 3 W hv r) (hc : SlS FZ 1 W cv c) :
    Calls Try.prog 23 #[.int .i64 n, hv, cv, .func (.func 24) #[] #[]] W fun e w' => ∃ v, e = .returned v ∧ (∃ z : Int, v = .tuple #[.slice none 0 0, .int .i64 z] ∧ z ≠ 0) ∧ Below W.heap.size W w' := by
  refine calls_rel (R := fun v => ∃ z : Int, v = .tuple #[.slice none 0 0, .int .i64 z] ∧ z ≠ 0) (Gx.enter (l := []) Try.func23 rfl Try.ntmps23 rfl (Sat.start W) ?_)
  refine Gx.know (m' := [(0, .int .i64 n), (1, hv), (2, cv), (3, .func (.func 24) #[] #[])]) (.cons rfl (.cons rfl (.cons rfl (.cons rfl .nil)))) ?_
  refine Gx.seq ?_
  refine Gx.region ?_
  refine Gx.val rfl rfl rfl (val_assign rfl rfl) ?_
  refine Gx.val rfl rfl rfl (val_assign rfl rfl) ?_
  refine Gx.done ?_
  refine Gx.thenN ?_
  refine Gx.seq ?_
  refine Gx.region ?_
  refine Gx.val rfl rfl rfl (val_move rfl rfl) ?_
  refine Gx.val rfl rfl rfl (val_move rfl rfl) ?_
  refine Gx.val rfl rfl rfl (val_move rfl rfl) ?_
  refine Gx.eff rfl rfl rfl (eff_callE (vs := [.int .i64 n, hv, cv]) rfl Try.fn21 rfl (R := fun v => ∃ z : Int, v = .tuple #[.pointer none, .int .i64 z] ∧ z ≠ 0) (fun w H => open_bad hg (hs.below H.below) (hc.below H.below))) ?_
  rintro _ _ ⟨⟨z1, rfl, hz1⟩, rfl⟩
  refine Gx.val rfl rfl rfl (val_move rfl rfl) ?_
  refine Gx.val rfl rfl rfl (val_extract rfl rfl rfl) ?_
  refine Gx.val rfl rfl rfl (val_extract rfl rfl rfl) ?_
  refine Gx.val rfl rfl rfl (val_assign rfl rfl) ?_
  refine Gx.val rfl rfl rfl (val_assign rfl rfl) ?_
  refine Gx.done ?_
  refine Gx.thenN ?_
  refine Gx.seq ?_
  refine Gx.seq ?_
  refine Gx.region ?_
  refine Gx.val rfl rfl rfl (val_move rfl rfl) ?_
  refine Gx.val rfl rfl rfl (val_neq rfl rfl rfl) ?_
  refine Gx.done ?_
  refine Gx.thenN ?_
  refine Gx.decT rfl (by assumption) ?_
  refine Gx.seq ?_
  refine Gx.region ?_
  refine Gx.val rfl rfl rfl (val_move rfl rfl) ?_
  refine Gx.val rfl rfl rfl (val_assign rfl rfl) ?_
  refine Gx.val rfl rfl rfl (val_assign rfl rfl) ?_
  refine Gx.done ?_
  refine Gx.thenN ?_
  refine Gx.ret ?_
  refine Gx.thenR ?_
  refine Gx.ret2 Try.results23 rfl rfl ?_
  exact ⟨_, rfl, hz1⟩

theorem settle25_bad {W : World} {n : Int} {r : List Ev} {c : List Int} {hv cv : Value} (hg : ¬ GoodC n r c) (hs : SlS FE 3 W hv r) (hc : SlS FZ 1 W cv c) :
    Calls Try.prog 23 #[.int .i64 n, hv, cv, .func (.func 25) #[] #[]] W fun e w' => ∃ v, e = .returned v ∧ (∃ z : Int, v = .tuple #[.slice none 0 0, .int .i64 z] ∧ z ≠ 0) ∧ Below W.heap.size W w' := by
  refine calls_rel (R := fun v => ∃ z : Int, v = .tuple #[.slice none 0 0, .int .i64 z] ∧ z ≠ 0) (Gx.enter (l := []) Try.func23 rfl Try.ntmps23 rfl (Sat.start W) ?_)
  refine Gx.know (m' := [(0, .int .i64 n), (1, hv), (2, cv), (3, .func (.func 25) #[] #[])]) (.cons rfl (.cons rfl (.cons rfl (.cons rfl .nil)))) ?_
  refine Gx.seq ?_
  refine Gx.region ?_
  refine Gx.val rfl rfl rfl (val_assign rfl rfl) ?_
  refine Gx.val rfl rfl rfl (val_assign rfl rfl) ?_
  refine Gx.done ?_
  refine Gx.thenN ?_
  refine Gx.seq ?_
  refine Gx.region ?_
  refine Gx.val rfl rfl rfl (val_move rfl rfl) ?_
  refine Gx.val rfl rfl rfl (val_move rfl rfl) ?_
  refine Gx.val rfl rfl rfl (val_move rfl rfl) ?_
  refine Gx.eff rfl rfl rfl (eff_callE (vs := [.int .i64 n, hv, cv]) rfl Try.fn21 rfl (R := fun v => ∃ z : Int, v = .tuple #[.pointer none, .int .i64 z] ∧ z ≠ 0) (fun w H => open_bad hg (hs.below H.below) (hc.below H.below))) ?_
  rintro _ _ ⟨⟨z1, rfl, hz1⟩, rfl⟩
  refine Gx.val rfl rfl rfl (val_move rfl rfl) ?_
  refine Gx.val rfl rfl rfl (val_extract rfl rfl rfl) ?_
  refine Gx.val rfl rfl rfl (val_extract rfl rfl rfl) ?_
  refine Gx.val rfl rfl rfl (val_assign rfl rfl) ?_
  refine Gx.val rfl rfl rfl (val_assign rfl rfl) ?_
  refine Gx.done ?_
  refine Gx.thenN ?_
  refine Gx.seq ?_
  refine Gx.seq ?_
  refine Gx.region ?_
  refine Gx.val rfl rfl rfl (val_move rfl rfl) ?_
  refine Gx.val rfl rfl rfl (val_neq rfl rfl rfl) ?_
  refine Gx.done ?_
  refine Gx.thenN ?_
  refine Gx.decT rfl (by assumption) ?_
  refine Gx.seq ?_
  refine Gx.region ?_
  refine Gx.val rfl rfl rfl (val_move rfl rfl) ?_
  refine Gx.val rfl rfl rfl (val_assign rfl rfl) ?_
  refine Gx.val rfl rfl rfl (val_assign rfl rfl) ?_
  refine Gx.done ?_
  refine Gx.thenN ?_
  refine Gx.ret ?_
  refine Gx.thenR ?_
  refine Gx.ret2 Try.results23 rfl rfl ?_
  exact ⟨_, rfl, hz1⟩

theorem grow_bad {W : World} {n : Int} {r : List Ev} {c : List Int} {hv cv : Value} (hg : ¬ GoodC n r c) (hs : SlS FE 3 W hv r) (hc : SlS FZ 1 W cv c) :
    Calls Try.prog 12 #[.int .i64 n, hv, cv] W fun e w' => ∃ v, e = .returned v ∧ (∃ z : Int, v = .tuple #[.slice none 0 0, .int .i64 z] ∧ z ≠ 0) ∧ Below W.heap.size W w' := by
  refine calls_rel (R := fun v => ∃ z : Int, v = .tuple #[.slice none 0 0, .int .i64 z] ∧ z ≠ 0) (Gx.enter (l := []) Try.func12 rfl Try.ntmps12 rfl (Sat.start W) ?_)
  refine Gx.know (m' := [(0, .int .i64 n), (1, hv), (2, cv)]) (.cons rfl (.cons rfl (.cons rfl .nil))) ?_
  refine Gx.seq ?_
  refine Gx.region ?_
  refine Gx.val rfl rfl rfl (val_assign rfl rfl) ?_
  refine Gx.val rfl rfl rfl (val_assign rfl rfl) ?_
  refine Gx.done ?_
  refine Gx.thenN ?_
  refine Gx.seq ?_
  refine Gx.region ?_
  refine Gx.val rfl rfl rfl (val_move rfl rfl) ?_
  refine Gx.val rfl rfl rfl (val_move rfl rfl) ?_
  refine Gx.val rfl rfl rfl (val_move rfl rfl) ?_
  refine Gx.eff rfl rfl rfl (eff_callE (vs := [.int .i64 n, hv, cv, .func (.func 24) #[] #[]]) rfl Try.fn23 rfl (R := fun v => ∃ z : Int, v = .tuple #[.slice none 0 0, .int .i64 z] ∧ z ≠ 0) (fun w H => settle24_bad hg (hs.below H.below) (hc.below H.below))) ?_
  rintro _ _ ⟨⟨z1, rfl, hz1⟩, rfl⟩
  refine Gx.val rfl rfl rfl (val_extract rfl rfl rfl) ?_
  refine Gx.val rfl rfl rfl (val_extract rfl rfl rfl) ?_
  refine Gx.val rfl rfl rfl (val_assign rfl rfl) ?_
  refine Gx.val rfl rfl rfl (val_assign rfl rfl) ?_
  refine Gx.done ?_
  refine Gx.thenN ?_
  refine Gx.ret ?_
  refine Gx.ret2 Try.results12 rfl rfl ?_
  exact ⟨_, rfl, hz1⟩

theorem shrink_bad {W : World} {n : Int} {r : List Ev} {c : List Int} {hv cv : Value} (hg : ¬ GoodC n r c) (hs : SlS FE 3 W hv r) (hc : SlS FZ 1 W cv c) :
    Calls Try.prog 13 #[.int .i64 n, hv, cv] W fun e w' => ∃ v, e = .returned v ∧ (∃ z : Int, v = .tuple #[.slice none 0 0, .int .i64 z] ∧ z ≠ 0) ∧ Below W.heap.size W w' := by
  refine calls_rel (R := fun v => ∃ z : Int, v = .tuple #[.slice none 0 0, .int .i64 z] ∧ z ≠ 0) (Gx.enter (l := []) Try.func13 rfl Try.ntmps13 rfl (Sat.start W) ?_)
  refine Gx.know (m' := [(0, .int .i64 n), (1, hv), (2, cv)]) (.cons rfl (.cons rfl (.cons rfl .nil))) ?_
  refine Gx.seq ?_
  refine Gx.region ?_
  refine Gx.val rfl rfl rfl (val_assign rfl rfl) ?_
  refine Gx.val rfl rfl rfl (val_assign rfl rfl) ?_
  refine Gx.done ?_
  refine Gx.thenN ?_
  refine Gx.seq ?_
  refine Gx.region ?_
  refine Gx.val rfl rfl rfl (val_move rfl rfl) ?_
  refine Gx.val rfl rfl rfl (val_move rfl rfl) ?_
  refine Gx.val rfl rfl rfl (val_move rfl rfl) ?_
  refine Gx.eff rfl rfl rfl (eff_callE (vs := [.int .i64 n, hv, cv, .func (.func 25) #[] #[]]) rfl Try.fn23 rfl (R := fun v => ∃ z : Int, v = .tuple #[.slice none 0 0, .int .i64 z] ∧ z ≠ 0) (fun w H => settle25_bad hg (hs.below H.below) (hc.below H.below))) ?_
  rintro _ _ ⟨⟨z1, rfl, hz1⟩, rfl⟩
  refine Gx.val rfl rfl rfl (val_extract rfl rfl rfl) ?_
  refine Gx.val rfl rfl rfl (val_extract rfl rfl rfl) ?_
  refine Gx.val rfl rfl rfl (val_assign rfl rfl) ?_
  refine Gx.val rfl rfl rfl (val_assign rfl rfl) ?_
  refine Gx.done ?_
  refine Gx.thenN ?_
  refine Gx.ret ?_
  refine Gx.ret2 Try.results13 rfl rfl ?_
  exact ⟨_, rfl, hz1⟩

end Go.Proofs.Ytffnjojdjbdfcaa
