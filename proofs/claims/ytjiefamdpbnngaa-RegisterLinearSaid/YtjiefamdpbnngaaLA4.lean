/- The first order, told. The walk. No condition. -/
import Derived.Test.YtjiefamdpbnngaaLA3
namespace Go.Proofs.Ytjiefamdpbnngaa.Lin
open Go.RowKit
set_option linter.unusedVariables false
set_option linter.unusedSimpArgs false
set_option maxRecDepth 100000

theorem linear_no {W : World} {hv : Value} {h : List Op} (hs : SlS FO 6 W hv h) (hok : ¬ OkH h) :
    Calls Try.prog 10 #[hv] W fun e w' => ∃ v, e = .returned v ∧ (∃ c : Int, v = .tuple #[.slice none 0 0, .bool false, .int .i64 c] ∧ c ≠ 0) ∧ Below W.heap.size W w' := by
  refine calls_rel (R := fun v => ∃ c : Int, v = .tuple #[.slice none 0 0, .bool false, .int .i64 c] ∧ c ≠ 0) (Gx.enter (l := []) Try.func10 rfl Try.ntmps10 rfl (Sat.start W) ?_)
  refine Gx.know (m' := [(0, hv)]) (.cons rfl .nil) ?_
  refine Gx.seq ?_
  refine Gx.region ?_
  refine Gx.val rfl rfl rfl (val_assign rfl rfl) ?_
  refine Gx.val rfl rfl rfl (val_assign rfl rfl) ?_
  refine Gx.val rfl rfl rfl (val_assign rfl rfl) ?_
  refine Gx.done ?_
  refine Gx.thenN ?_
  refine Gx.seq ?_
  refine Gx.seq ?_
  refine Gx.region ?_
  refine Gx.val rfl rfl rfl (val_move rfl rfl) ?_
  refine Gx.eff rfl rfl rfl (eff_callE (vs := [hv]) rfl Try.fn12 rfl (R := fun v => ∃ c : Int, v = .int .i64 c ∧ c ≠ 0) (fun w H => check12_no (hs.below H.below) hok)) ?_
  rintro _ _ ⟨⟨c1, rfl, hc1⟩, rfl⟩
  refine Gx.val rfl rfl rfl (val_assign rfl rfl) ?_
  refine Gx.done ?_
  refine Gx.thenN ?_
  refine Gx.seq ?_
  refine Gx.region ?_
  refine Gx.val rfl rfl rfl (val_move rfl rfl) ?_
  refine Gx.val rfl rfl rfl (val_neq rfl rfl rfl) ?_
  refine Gx.done ?_
  refine Gx.thenN ?_
  refine Gx.decT rfl (by assumption) ?_
  refine Gx.seq ?_
  refine Gx.region ?_
  refine Gx.val rfl rfl rfl (val_move rfl rfl) ?_
  refine Gx.val rfl rfl rfl (val_assign rfl rfl) ?_
  refine Gx.val rfl rfl rfl (val_assign rfl rfl) ?_
  refine Gx.val rfl rfl rfl (val_assign rfl rfl) ?_
  refine Gx.done ?_
  refine Gx.thenN ?_
  refine Gx.ret ?_
  refine Gx.thenR ?_
  refine Gx.ret3 Try.results10 rfl rfl rfl ?_
  exact ⟨_, rfl, by assumption⟩

theorem linear_some {W : World} {hv : Value} {h : List Op} {m : List Nat} (hok : OkH h) (hm : FL h [] = some m) (hml : m.length ≤ 8) (hs : SlS FO 6 W hv h) :
    Calls Try.prog 10 #[hv] W fun e w' => ∃ v, e = .returned v ∧ (∃ a c, v = .tuple #[.slice a m.length c, .bool true, .int .i64 0] ∧ SlS FN 1 w' (.slice a m.length c) m) ∧ Below W.heap.size W w' := by
  refine calls_some (S := fun v l => ∃ lv, v = .tuple #[lv, .bool true, .int .i64 0] ∧ l = [Hp.own FN 1 lv m]) (Gx.enter (l := []) Try.func10 rfl Try.ntmps10 rfl (Sat.start W) ?_) ?_
  refine Gx.know (m' := [(0, hv)]) (.cons rfl .nil) ?_
  refine Gx.seq ?_
  refine Gx.region ?_
  refine Gx.val rfl rfl rfl (val_assign rfl rfl) ?_
  refine Gx.val rfl rfl rfl (val_assign rfl rfl) ?_
  refine Gx.val rfl rfl rfl (val_assign rfl rfl) ?_
  refine Gx.done ?_
  refine Gx.thenN ?_
  refine Gx.seq ?_
  refine Gx.seq ?_
  refine Gx.region ?_
  refine Gx.val rfl rfl rfl (val_move rfl rfl) ?_
  refine Gx.val rfl rfl rfl (val_call (vs := [hv]) rfl Try.fn12 rfl (fun w H => check12_ok (hs.below H.below) hok)) ?_
  refine Gx.val rfl rfl rfl (val_assign rfl rfl) ?_
  refine Gx.done ?_
  refine Gx.thenN ?_
  refine Gx.seq ?_
  refine Gx.region ?_
  refine Gx.val rfl rfl rfl (val_move rfl rfl) ?_
  refine Gx.val rfl rfl rfl (Val.cast (val_neq rfl rfl rfl) (v' := .bool false) rfl) ?_
  refine Gx.done ?_
  refine Gx.thenN ?_
  refine Gx.f rfl ?_
  refine Gx.skip ?_
  refine Gx.thenN ?_
  refine Gx.seq ?_
  refine Gx.region ?_
  refine Gx.val rfl rfl rfl (val_move rfl rfl) ?_
  refine Gx.val rfl rfl rfl (val_build rfl (qs := [(0, hv)]) rfl rfl (fun w => by obtain ⟨_, _, _, rfl⟩ := hs.isS; go_simp) (v := .agg #[hv, .int .u32 0, .slice none 0 0, .int .i64 0, .int .i64 0, .int .i64 0, .int .i64 0])) ?_
  refine Gx.eff rfl rfl rfl (eff_box rfl rfl (vs := [hv, .int .u32 0, .slice none 0 0, .int .i64 0, .int .i64 0, .int .i64 0, .int .i64 0]) rfl) ?_
  rintro _ _ ⟨b1, rfl, rfl⟩
  refine Gx.val rfl rfl rfl (val_assign rfl rfl) ?_
  refine Gx.done ?_
  refine Gx.thenN ?_
  refine Gx.seq ?_
  refine Gx.seq ?_
  refine Gx.norm (l' := [Hp.rec_ b1 [hv, .int .u32 ((mk [] : Nat) : Int), .slice none 0 0, .int .i64 (regsL h [] 0), .int .i64 (regsL h [] 1), .int .i64 (regsL h [] 2), .int .i64 (regsL h [] 3)]]) rfl ?_
  refine Gx.ownNil FN 1 ?_
  refine Gx.region ?_
  refine Gx.val rfl rfl rfl (val_move rfl rfl) ?_
  refine Gx.eff rfl rfl rfl (eff_call (vs := [ptr b1 0]) rfl Try.fn13 rfl (fun w H => (find_any _ [] (.slice none 0 0) rfl (Gd.nil h) hok ⟨none, 0, 0, rfl⟩ hs (H.at2 (k := 1) (k' := 0) rfl rfl)))) ?_
  rintro _ l3 ⟨lv2, hilv2, rfl, hl3⟩
  refine Gx.sepEq (l' := [Hp.rec_ b1 [hv, .int .u32 ((mk ((FL h []).getD []) : Nat) : Int), lv2, .int .i64 (regsL h ((FL h []).getD []) 0), .int .i64 (regsL h ((FL h []).getD []) 1), .int .i64 (regsL h ((FL h []).getD []) 2), .int .i64 (regsL h ((FL h []).getD []) 3)], Hp.own FN 1 lv2 ((FL h []).getD [])]) hl3 ?_
  refine Gx.val rfl rfl rfl (val_not rfl rfl) ?_
  refine Gx.done ?_
  refine Gx.thenN ?_
  refine Gx.boolF rfl (by rw [hm]; rfl) ?_
  refine Gx.skip ?_
  refine Gx.thenN ?_
  refine Gx.seq ?_
  refine Gx.region ?_
  refine Gx.val rfl rfl rfl (val_move rfl rfl) ?_
  refine Gx.val rfl rfl rfl (val_nilCheck rfl rfl) ?_
  refine Gx.val rfl rfl rfl (Val.cast (val_fieldAddr rfl Try.underlying59 rfl Try.ty38 rfl rfl) (v' := ptr b1 2) rfl) ?_
  refine Gx.val rfl rfl rfl (val_load rfl Try.ty38 rfl rfl (cell_rec (k := 0) rfl rfl)) ?_
  refine Gx.val rfl rfl rfl (val_assign rfl rfl) ?_
  refine Gx.val rfl rfl rfl (val_assign rfl rfl) ?_
  refine Gx.val rfl rfl rfl (val_assign rfl rfl) ?_
  refine Gx.done ?_
  refine Gx.thenN ?_
  refine Gx.ret ?_
  refine Gx.drop 0 rfl ?_
  refine Gx.norm (l' := [Hp.own FN 1 lv2 m]) (by rw [hm] <;> rfl) ?_
  refine Gx.ret3 Try.results10 rfl rfl rfl ?_
  exact ⟨_, rfl, rfl⟩
  rintro v l w ⟨lv, rfl, rfl⟩ H
  have hS := (H.at_ (k := 0) rfl).sls (by omega)
  obtain ⟨a, c, rfl, _⟩ := hS.form
  exact ⟨a, c, rfl, hS⟩

theorem linear_none {W : World} {hv : Value} {h : List Op} (hok : OkH h) (hm : FL h [] = none) (hs : SlS FO 6 W hv h) :
    Calls Try.prog 10 #[hv] W fun e w' => e = .returned (.tuple #[.slice none 0 0, .bool false, .int .i64 0]) ∧ Below W.heap.size W w' := by
  refine calls_pure (Gx.enter (l := []) Try.func10 rfl Try.ntmps10 rfl (Sat.start W) ?_)
  refine Gx.know (m' := [(0, hv)]) (.cons rfl .nil) ?_
  refine Gx.seq ?_
  refine Gx.region ?_
  refine Gx.val rfl rfl rfl (val_assign rfl rfl) ?_
  refine Gx.val rfl rfl rfl (val_assign rfl rfl) ?_
  refine Gx.val rfl rfl rfl (val_assign rfl rfl) ?_
  refine Gx.done ?_
  refine Gx.thenN ?_
  refine Gx.seq ?_
  refine Gx.seq ?_
  refine Gx.region ?_
  refine Gx.val rfl rfl rfl (val_move rfl rfl) ?_
  refine Gx.val rfl rfl rfl (val_call (vs := [hv]) rfl Try.fn12 rfl (fun w H => check12_ok (hs.below H.below) hok)) ?_
  refine Gx.val rfl rfl rfl (val_assign rfl rfl) ?_
  refine Gx.done ?_
  refine Gx.thenN ?_
  refine Gx.seq ?_
  refine Gx.region ?_
  refine Gx.val rfl rfl rfl (val_move rfl rfl) ?_
  refine Gx.val rfl rfl rfl (Val.cast (val_neq rfl rfl rfl) (v' := .bool false) rfl) ?_
  refine Gx.done ?_
  refine Gx.thenN ?_
  refine Gx.f rfl ?_
  refine Gx.skip ?_
  refine Gx.thenN ?_
  refine Gx.seq ?_
  refine Gx.region ?_
  refine Gx.val rfl rfl rfl (val_move rfl rfl) ?_
  refine Gx.val rfl rfl rfl (val_build rfl (qs := [(0, hv)]) rfl rfl (fun w => by obtain ⟨_, _, _, rfl⟩ := hs.isS; go_simp) (v := .agg #[hv, .int .u32 0, .slice none 0 0, .int .i64 0, .int .i64 0, .int .i64 0, .int .i64 0])) ?_
  refine Gx.eff rfl rfl rfl (eff_box rfl rfl (vs := [hv, .int .u32 0, .slice none 0 0, .int .i64 0, .int .i64 0, .int .i64 0, .int .i64 0]) rfl) ?_
  rintro _ _ ⟨b1, rfl, rfl⟩
  refine Gx.val rfl rfl rfl (val_assign rfl rfl) ?_
  refine Gx.done ?_
  refine Gx.thenN ?_
  refine Gx.seq ?_
  refine Gx.seq ?_
  refine Gx.norm (l' := [Hp.rec_ b1 [hv, .int .u32 ((mk [] : Nat) : Int), .slice none 0 0, .int .i64 (regsL h [] 0), .int .i64 (regsL h [] 1), .int .i64 (regsL h [] 2), .int .i64 (regsL h [] 3)]]) rfl ?_
  refine Gx.ownNil FN 1 ?_
  refine Gx.region ?_
  refine Gx.val rfl rfl rfl (val_move rfl rfl) ?_
  refine Gx.eff rfl rfl rfl (eff_call (vs := [ptr b1 0]) rfl Try.fn13 rfl (fun w H => (find_any _ [] (.slice none 0 0) rfl (Gd.nil h) hok ⟨none, 0, 0, rfl⟩ hs (H.at2 (k := 1) (k' := 0) rfl rfl)))) ?_
  rintro _ l3 ⟨lv2, hilv2, rfl, hl3⟩
  refine Gx.sepEq (l' := [Hp.rec_ b1 [hv, .int .u32 ((mk ((FL h []).getD []) : Nat) : Int), lv2, .int .i64 (regsL h ((FL h []).getD []) 0), .int .i64 (regsL h ((FL h []).getD []) 1), .int .i64 (regsL h ((FL h []).getD []) 2), .int .i64 (regsL h ((FL h []).getD []) 3)], Hp.own FN 1 lv2 ((FL h []).getD [])]) hl3 ?_
  refine Gx.val rfl rfl rfl (val_not rfl rfl) ?_
  refine Gx.done ?_
  refine Gx.thenN ?_
  refine Gx.boolT rfl (by rw [hm]; rfl) ?_
  refine Gx.seq ?_
  refine Gx.region ?_
  refine Gx.val rfl rfl rfl (val_assign rfl rfl) ?_
  refine Gx.val rfl rfl rfl (val_assign rfl rfl) ?_
  refine Gx.val rfl rfl rfl (val_assign rfl rfl) ?_
  refine Gx.done ?_
  refine Gx.thenN ?_
  refine Gx.ret ?_
  refine Gx.thenR ?_
  refine Gx.ret3 Try.results10 rfl rfl rfl ?_
  rfl

inductive Ext (h : List Op) : List Nat → List Nat → Prop
  | done {l : List Nat} : fullB h l = true → Ext h l l
  | step {l m : List Nat} {i : Nat} : mayB h l i = true → Ext h (l ++ [i]) m → Ext h l m
theorem Gd.may {h : List Op} {l : List Nat} {i : Nat} (G : Gd h l) (H : mayB h l i = true) : Gd h (l ++ [i]) := G.snoc (mayB_lt H).1 (mayB_lt H).2
theorem fs_isSome {f : Nat → Option (List Nat)} {i : Nat} (h2 : (f i).isSome = true) : ∀ n, i < n → ((List.range n).findSome? f).isSome = true
  | 0, h => by omega
  | n + 1, h => by
    rw [List.range_succ, List.findSome?_append]
    rcases Nat.lt_or_eq_of_le (Nat.le_of_lt_succ h) with h' | rfl
    · have := fs_isSome h2 n h'
      obtain ⟨m, hm⟩ := Option.isSome_iff_exists.1 this
      rw [hm]; rfl
    · obtain ⟨m, hm⟩ := Option.isSome_iff_exists.1 h2
      cases (List.range i).findSome? f <;> simp [hm]
theorem fs_find {f : Nat → Option (List Nat)} {m : List Nat} : ∀ n, (List.range n).findSome? f = some m → ∃ i, i < n ∧ f i = some m ∧ ∀ j, j < i → f j = none
  | 0, h => by simp at h
  | n + 1, h => by
    rw [List.range_succ, List.findSome?_append] at h
    cases e : (List.range n).findSome? f with
    | some m' =>
      rw [e] at h; cases h
      obtain ⟨i, hi, hf, hj⟩ := fs_find n e
      exact ⟨i, by omega, hf, hj⟩
    | none =>
      rw [e] at h
      simp at h
      refine ⟨n, by omega, h, fun j hj => ?_⟩
      have := (List.findSome?_eq_none_iff.1 e) j (List.mem_range.2 hj)
      exact this
theorem FL_of {h : List Op} {l m : List Nat} (E : Ext h l m) : Gd h l → (FL h l).isSome = true := by
  induction E with
  | done hf => intro G; rw [FL_eq G, if_pos hf]; rfl
  | step hm E ih =>
    intro G
    rw [FL_eq G]
    split
    · rfl
    · exact fs_isSome (i := _) (by rw [if_pos hm]; exact ih (G.may hm)) _ (mayB_lt hm).1
theorem FL_ext {h : List Op} : ∀ (n : Nat) {l m : List Nat}, h.length - l.length = n → Gd h l → FL h l = some m → Ext h l m := by
  intro n
  induction n using Nat.strongRecOn with
  | _ n ih =>
  intro l m hn G hf
  rw [FL_eq G] at hf
  split at hf
  · rename_i hfull; cases hf; exact .done hfull
  · obtain ⟨i, hi, hfi, _⟩ := fs_find _ hf
    split at hfi
    · rename_i hm
      have G2 := (G.may hm).len
      refine .step hm (ih _ ?_ rfl (G.may hm) hfi)
      simp at G2 ⊢; omega
    · cases hfi
theorem FL_iff {h : List Op} : (FL h []).isSome = true ↔ ∃ m, Ext h [] m := by
  constructor
  · intro H
    obtain ⟨m, hm⟩ := Option.isSome_iff_exists.1 H
    exact ⟨m, FL_ext _ rfl (Gd.nil h) hm⟩
  · rintro ⟨m, E⟩; exact FL_of E (Gd.nil h)
theorem Ext.gd {h : List Op} {l m : List Nat} (E : Ext h l m) : Gd h l → Gd h m := by
  induction E with
  | done => exact id
  | step hm E ih => exact fun G => ih (G.may hm)
theorem linear_isb {W : World} {hv : Value} {h : List Op} (hok : OkH h) (hs : SlS FO 6 W hv h) :
    Calls Try.prog 10 #[hv] W fun e w' => ∃ v, e = .returned v ∧ (∃ a n c, v = .tuple #[.slice a n c, .bool (FL h []).isSome, .int .i64 0] ∧ n = ((FL h []).getD []).length) ∧ Below W.heap.size W w' := by
  cases e : FL h [] with
  | none => exact (linear_none hok e hs).mono fun e w' ⟨he, hb⟩ => ⟨_, he, ⟨_, _, _, rfl, rfl⟩, hb⟩
  | some m =>
    have hl := ((FL_ext _ rfl (Gd.nil h) e).gd (Gd.nil h)).len
    exact (linear_some hok e (Nat.le_trans hl hok.len) hs).mono fun e w' ⟨v, he, ⟨a, c, hv, _⟩, hb⟩ => ⟨v, he, ⟨_, _, _, hv, rfl⟩, hb⟩
end Go.Proofs.Ytjiefamdpbnngaa.Lin
