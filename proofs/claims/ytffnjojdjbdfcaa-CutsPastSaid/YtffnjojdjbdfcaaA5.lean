/- A copy of a cut; what is missing comes in, or goes. The walks. No condition. -/
import Derived.Test.YtffnjojdjbdfcaaA4
namespace Go.Proofs.Ytffnjojdjbdfcaa
open Go.RowKit
set_option linter.unusedVariables false
set_option linter.unusedSimpArgs false
set_option maxRecDepth 100000

theorem clone_any {W w : World} {va : Value} {xs : List Nat} {R : Hp} (hs : SlS FN 1 W va xs) (h0 : 0 < xs.length) (h6 : xs.length ≤ 6) (H : Sat W w R) :
    Calls Try.prog 30 #[va] w (Ret W fun v l9 => ∃ cv, IsS cv ∧ cv = v ∧ sep l9 = Hp.own FN 1 cv xs * R) := by
  refine Gx.enter (l := [R]) Try.func30 rfl Try.ntmps30 rfl ((H.cast (Hp.mul_one _).symm)) ?_
  refine Gx.know (m' := [(0, va)]) (.cons rfl .nil) ?_
  refine Gx.seq ?_
  refine Gx.region ?_
  refine Gx.val rfl rfl rfl (val_assign rfl rfl) ?_
  refine Gx.done ?_
  refine Gx.thenN ?_
  refine Gx.seq ?_
  refine Gx.seq ?_
  refine Gx.region ?_
  refine Gx.val rfl rfl rfl (val_move rfl rfl) ?_
  refine Gx.val rfl rfl rfl (val_eqlSl rfl Try.underlying23 rfl rfl hs h0) ?_
  refine Gx.done ?_
  refine Gx.thenN ?_
  refine Gx.f rfl ?_
  refine Gx.skip ?_
  refine Gx.thenN ?_
  refine Gx.seq ?_
  refine Gx.region ?_
  refine Gx.eff rfl rfl rfl (eff_buildNil (f := FN) (sz := 1) (e := 3) rfl Try.underlying23 (fun w => by first | (go_simp; done) | (go_simp; rfl))) ?_
  rintro v1 _ ⟨hiv1, rfl⟩
  refine Gx.val rfl rfl rfl (val_move rfl rfl) ?_
  refine Gx.eff rfl rfl rfl (eff_pushAll (k := 0) (ys := xs) rfl Try.eN FN_len FN_one rfl rfl (fun w H => hs.below H.below) rfl (by simp; omega) (by simp; omega)) ?_
  rintro v2 _ ⟨hiv2, rfl⟩
  refine Gx.norm (l' := [Hp.own FN 1 v2 xs, R]) rfl ?_
  refine Gx.val rfl rfl rfl (val_assign rfl rfl) ?_
  refine Gx.done ?_
  refine Gx.thenN ?_
  refine Gx.ret ?_
  refine Gx.ret1 Try.results30 rfl ?_
  exact ⟨_, hiv2, rfl, sep1 _ _⟩

theorem mend24 {W w : World} {n wb i : Nat} {l : List En} {hv ofv v : Value} {rows : List Rw} {c : List Nat} {e s : En} {R : Hp} (hok : OkC n l) (hw : WOk W n l wb hv ofv rows) (hcut : Cut n l c) (hi : IsS v) (he : l[i]? = some e) (hk : e.kind = 3) (hs0 : l[e.src.toNat]? = some s) (H : Sat W w (Hp.own FN 1 v c * R)) :
    Calls Try.prog 24 #[ptr wb 0, v, .int .i64 ((i : Nat) : Int)] w (Ret W fun v' l9 => v' = .tuple #[] ∧ sep l9 = Hp.own FN 1 v (c.set s.who (cntL l s.who e.src.toNat + 1)) * R) := by
  have hall := hok.all _ _ he
  have hil := (List.getElem?_eq_some_iff.1 he).1
  have hfew := hok.few
  have hcl := cnt_le l e.who i
  obtain ⟨ce, hce⟩ := get_of_lt (xs := c) (k := e.who) (by rw [hcut.len]; exact hall.2.1)
  have hsr := hall.2.2 hk
  have hsall := hok.all _ _ hs0
  have hsil := (List.getElem?_eq_some_iff.1 hs0).1
  have hcls := cnt_le l s.who e.src.toNat
  obtain ⟨cs, hcs⟩ := get_of_lt (xs := c) (k := s.who) (by rw [hcut.len]; exact hsall.2.1)
  refine Gx.enter (l := [Hp.own FN 1 v c, R]) Try.func24 rfl Try.ntmps24 rfl ((H.cast (by rw [show sep [Hp.own FN 1 v c, R] = Hp.own FN 1 v c * R from sep1 _ _]))) ?_
  refine Gx.know (m' := [(0, ptr wb 0), (1, v), (2, .int .i64 ((i : Nat) : Int))]) (.cons rfl (.cons rfl (.cons rfl .nil))) ?_
  refine Gx.seq ?_
  refine Gx.region ?_
  refine Gx.val rfl rfl rfl (val_move rfl rfl) ?_
  refine Gx.val rfl rfl rfl (val_nilCheck rfl rfl) ?_
  refine Gx.val rfl rfl rfl (Val.cast (val_fieldAddr rfl Try.underlying54 rfl Try.ty22 rfl rfl) (v' := ptr wb 0) rfl) ?_
  refine Gx.val rfl rfl rfl (val_load rfl Try.ty22 rfl rfl (cell_old hw.hb hw.c0)) ?_
  refine Gx.val rfl rfl rfl (val_move rfl rfl) ?_
  refine Gx.val rfl rfl rfl (val_ixa rfl Try.underlying22 Try.ty36 rfl rfl (j := i) (rfl) (reach_base hw.hs he)) ?_
  refine Gx.val rfl rfl rfl (Val.cast (val_fieldAddr rfl Try.underlying36 rfl Try.ty3 rfl rfl) (v' := ptr (sB hv) (sO hv + i * 3 + 2)) rfl) ?_
  refine Gx.val rfl rfl rfl (val_load rfl Try.ty3 rfl rfl (cell_base (i := 2) hw.hs he rfl)) ?_
  refine Gx.val rfl rfl rfl (val_assign rfl rfl) ?_
  refine Gx.done ?_
  refine Gx.thenN ?_
  refine Gx.regionO (fun j => false) 13 [0, 1, 2, 3, 4, 5, 6, 7, 8, 9, 10, 11, 12] (fun _ => [Hp.own FN 1 v c, R]) Try.mixed (by kernel_rfl) rfl ?_
  refine Gw.val rfl rfl rfl rfl rfl (fun us => val_move rfl rfl) ?_
  refine Gw.val rfl rfl rfl rfl rfl (fun us => val_move rfl rfl) ?_
  refine Gw.val rfl rfl rfl rfl rfl (fun us => val_nilCheck rfl rfl) ?_
  refine Gw.val rfl rfl rfl rfl rfl (fun us => Val.cast (val_fieldAddr rfl Try.underlying54 rfl Try.ty22 rfl rfl) (v' := ptr wb 0) rfl) ?_
  refine Gw.val rfl rfl rfl rfl rfl (fun us => val_load rfl Try.ty22 rfl rfl (cell_old hw.hb hw.c0)) ?_
  refine Gw.val rfl rfl rfl rfl rfl (fun us => val_move rfl rfl) ?_
  refine Gw.val rfl rfl rfl rfl rfl (fun us => val_ixa rfl Try.underlying22 Try.ty36 rfl rfl (j := e.src.toNat) (by omega) (reach_base hw.hs hs0)) ?_
  refine Gw.val rfl rfl rfl rfl rfl (fun us => Val.cast (val_fieldAddr rfl Try.underlying36 rfl Try.ty3 rfl rfl) (v' := ptr (sB hv) (sO hv + e.src.toNat * 3 + 1)) rfl) ?_
  refine Gw.val rfl rfl rfl rfl rfl (fun us => val_load rfl Try.ty3 rfl rfl (cell_base (i := 1) hw.hs hs0 rfl)) ?_
  refine Gw.val rfl rfl rfl rfl rfl (fun us => val_move rfl rfl) ?_
  refine Gw.val rfl rfl rfl rfl rfl (fun us => val_move rfl rfl) ?_
  refine Gw.val rfl rfl rfl rfl rfl (fun us => val_call (vs := [ptr wb 0, .int .i64 e.src]) rfl Try.fn29 rfl (fun w H => rank_any hok (hw.below H.below) (i := e.src.toNat) (by omega) hs0)) ?_
  refine Gw.val0 rfl rfl rfl (by kernel_rfl) rfl rfl (val_ixa rfl Try.underlying23 Try.ty3 rfl rfl (j := s.who) (rfl) (reach_own (k := 0) rfl hcs)) ?_
  refine Gw.done ?_
  refine Gx.norm (l' := [Hp.own FN 1 v c, R]) rfl ?_
  refine Gx.eff0 rfl rfl (eff_storeElA (cntL l s.who e.src.toNat + 1) rfl Try.ty3 rfl rfl rfl FN_one (k := 0) rfl FN_len hcs (l' := [Hp.own FN 1 v (c.set s.who (cntL l s.who e.src.toNat + 1)), R]) rfl) ?_
  rintro _ _ rfl
  refine Gx.done ?_
  refine Gx.endN ?_
  refine Gx.ret0 Try.results24 ?_
  exact ⟨rfl, sep1 _ _⟩

theorem mend25 {W w : World} {n wb i : Nat} {l : List En} {hv ofv v : Value} {rows : List Rw} {c : List Nat} {e : En} {R : Hp} (hok : OkC n l) (hw : WOk W n l wb hv ofv rows) (hcut : Cut n l c) (hi : IsS v) (he : l[i]? = some e) (H : Sat W w (Hp.own FN 1 v c * R)) :
    Calls Try.prog 25 #[ptr wb 0, v, .int .i64 ((i : Nat) : Int)] w (Ret W fun v' l9 => v' = .tuple #[] ∧ sep l9 = Hp.own FN 1 v (c.set e.who (cntL l e.who i)) * R) := by
  have hall := hok.all _ _ he
  have hil := (List.getElem?_eq_some_iff.1 he).1
  have hfew := hok.few
  have hcl := cnt_le l e.who i
  obtain ⟨ce, hce⟩ := get_of_lt (xs := c) (k := e.who) (by rw [hcut.len]; exact hall.2.1)
  refine Gx.enter (l := [Hp.own FN 1 v c, R]) Try.func25 rfl Try.ntmps25 rfl ((H.cast (by rw [show sep [Hp.own FN 1 v c, R] = Hp.own FN 1 v c * R from sep1 _ _]))) ?_
  refine Gx.know (m' := [(0, ptr wb 0), (1, v), (2, .int .i64 ((i : Nat) : Int))]) (.cons rfl (.cons rfl (.cons rfl .nil))) ?_
  refine Gx.regionO (fun j => false) 14 [0, 1, 2, 3, 4, 5, 6, 7, 8, 9, 10, 11, 12, 13] (fun _ => [Hp.own FN 1 v c, R]) Try.mixed (by kernel_rfl) rfl ?_
  refine Gw.val rfl rfl rfl rfl rfl (fun us => val_move rfl rfl) ?_
  refine Gw.val rfl rfl rfl rfl rfl (fun us => val_move rfl rfl) ?_
  refine Gw.val rfl rfl rfl rfl rfl (fun us => val_nilCheck rfl rfl) ?_
  refine Gw.val rfl rfl rfl rfl rfl (fun us => Val.cast (val_fieldAddr rfl Try.underlying54 rfl Try.ty22 rfl rfl) (v' := ptr wb 0) rfl) ?_
  refine Gw.val rfl rfl rfl rfl rfl (fun us => val_load rfl Try.ty22 rfl rfl (cell_old hw.hb hw.c0)) ?_
  refine Gw.val rfl rfl rfl rfl rfl (fun us => val_move rfl rfl) ?_
  refine Gw.val rfl rfl rfl rfl rfl (fun us => val_ixa rfl Try.underlying22 Try.ty36 rfl rfl (j := i) (rfl) (reach_base hw.hs he)) ?_
  refine Gw.val rfl rfl rfl rfl rfl (fun us => Val.cast (val_fieldAddr rfl Try.underlying36 rfl Try.ty3 rfl rfl) (v' := ptr (sB hv) (sO hv + i * 3 + 1)) rfl) ?_
  refine Gw.val rfl rfl rfl rfl rfl (fun us => val_load rfl Try.ty3 rfl rfl (cell_base (i := 1) hw.hs he rfl)) ?_
  refine Gw.val rfl rfl rfl rfl rfl (fun us => val_move rfl rfl) ?_
  refine Gw.val rfl rfl rfl rfl rfl (fun us => val_move rfl rfl) ?_
  refine Gw.val rfl rfl rfl rfl rfl (fun us => val_call (vs := [ptr wb 0, .int .i64 ((i : Nat) : Int)]) rfl Try.fn29 rfl (fun w H => rank_any hok (hw.below H.below) (i := i) rfl he)) ?_
  refine Gw.val rfl rfl rfl rfl rfl (fun us => val_sub rfl rfl rfl (r := ((cntL l e.who i : Nat) : Int)) (w64 (by omega) (by omega))) ?_
  refine Gw.val0 rfl rfl rfl (by kernel_rfl) rfl rfl (val_ixa rfl Try.underlying23 Try.ty3 rfl rfl (j := e.who) (rfl) (reach_own (k := 0) rfl hce)) ?_
  refine Gw.done ?_
  refine Gx.norm (l' := [Hp.own FN 1 v c, R]) rfl ?_
  refine Gx.eff0 rfl rfl (eff_storeElA (cntL l e.who i) rfl Try.ty3 rfl rfl rfl FN_one (k := 0) rfl FN_len hce (l' := [Hp.own FN 1 v (c.set e.who (cntL l e.who i)), R]) rfl) ?_
  rintro _ _ rfl
  refine Gx.done ?_
  refine Gx.endN ?_
  refine Gx.ret0 Try.results25 ?_
  exact ⟨rfl, sep1 _ _⟩

end Go.Proofs.Ytffnjojdjbdfcaa
