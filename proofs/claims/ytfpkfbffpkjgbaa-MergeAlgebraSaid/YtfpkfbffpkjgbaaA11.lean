/- Sets of dots as lists that rise; the union. No condition. -/
import Derived.Test.YtfpkfbffpkjgbaaA10
namespace Go.Proofs.Ytfpkfbffpkjgbaa
open Go.RowKit
set_option linter.unusedVariables false
set_option linter.unusedSimpArgs false
set_option maxRecDepth 100000

abbrev dlt (a b : Dt) : Prop := dotC a b < 0
theorem dlt_irr (a : Dt) : ¬ dlt a a := by unfold dlt; rw [dot_less]; omega
theorem dlt_trans {a b c : Dt} : dlt a b → dlt b c → dlt a c := by unfold dlt; rw [dot_less, dot_less, dot_less]; omega
theorem dlt_tri (a b : Dt) : a = b ∨ dlt a b ∨ dlt b a := by unfold dlt; rw [← Dt.same, dot_less, dot_less]; omega
/-- a list of dots that rises -/
abbrev Up (l : List Dt) : Prop := l.Pairwise dlt
/-- put in at its place -/
def insD (d : Dt) : List Dt → List Dt
  | [] => [d]
  | x :: l => if d = x then x :: l else if dotC d x < 0 then d :: x :: l else x :: insD d l
theorem insD_mem {d e : Dt} : ∀ {l : List Dt}, e ∈ insD d l ↔ e = d ∨ e ∈ l
  | [] => by simp [insD]
  | x :: l => by
    unfold insD
    split
    · rename_i h; subst h; simp
    · split
      · simp
      · rw [List.mem_cons, insD_mem (l := l), List.mem_cons]
        constructor
        · rintro (h | h | h)
          · exact .inr (.inl h)
          · exact .inl h
          · exact .inr (.inr h)
        · rintro (h | h | h)
          · exact .inr (.inl h)
          · exact .inl h
          · exact .inr (.inr h)
theorem insD_up {d : Dt} : ∀ {l : List Dt}, Up l → Up (insD d l)
  | [], _ => by simp [insD]
  | x :: l, h => by
    obtain ⟨h1, h2⟩ := List.pairwise_cons.1 h
    unfold insD
    split
    · exact h
    · rename_i hne
      split
      · rename_i hlt
        refine List.pairwise_cons.2 ⟨fun y hy => ?_, h⟩
        rcases List.mem_cons.1 hy with rfl | hy
        · exact hlt
        · exact dlt_trans hlt (h1 y hy)
      · rename_i hlt
        refine List.pairwise_cons.2 ⟨fun y hy => ?_, insD_up h2⟩
        rcases insD_mem.1 hy with rfl | hy
        · rcases dlt_tri y x with q | q | q
          · exact absurd q hne
          · exact absurd q hlt
          · exact q
        · exact h1 y hy
def uni (xs ys : List Dt) : List Dt := (xs ++ ys).foldr insD []
theorem fold_mem {e : Dt} : ∀ {l : List Dt}, e ∈ l.foldr insD [] ↔ e ∈ l
  | [] => Iff.rfl
  | x :: l => by rw [List.foldr_cons, insD_mem, fold_mem (l := l), List.mem_cons]
theorem fold_up : ∀ {l : List Dt}, Up (l.foldr insD [])
  | [] => .nil
  | x :: l => insD_up (fold_up (l := l))
theorem uni_mem {e : Dt} {xs ys : List Dt} : e ∈ uni xs ys ↔ e ∈ xs ∨ e ∈ ys := by unfold uni; rw [fold_mem, List.mem_append]
theorem uni_up {xs ys : List Dt} : Up (uni xs ys) := fold_up
theorem up_uniq : ∀ {l m : List Dt}, Up l → Up m → (∀ a, a ∈ l ↔ a ∈ m) → l = m
  | [], [], _, _, _ => rfl
  | [], y :: m, _, _, h => by have := (h y).2 List.mem_cons_self; cases this
  | x :: l, [], _, _, h => by have := (h x).1 List.mem_cons_self; cases this
  | x :: l, y :: m, h1, h2, h => by
    obtain ⟨a1, a2⟩ := List.pairwise_cons.1 h1
    obtain ⟨b1, b2⟩ := List.pairwise_cons.1 h2
    have e : x = y := by
      rcases List.mem_cons.1 ((h x).1 List.mem_cons_self) with q | q
      · exact q
      · rcases List.mem_cons.1 ((h y).2 List.mem_cons_self) with r | r
        · exact r.symm
        · exact absurd (dlt_trans (b1 x q) (a1 y r)) (dlt_irr y)
    subst e
    rw [up_uniq a2 b2 fun a => ⟨fun ha => by
      rcases List.mem_cons.1 ((h a).1 (List.mem_cons_of_mem _ ha)) with q | q
      · subst q; exact absurd (a1 a ha) (dlt_irr a)
      · exact q, fun ha => by
      rcases List.mem_cons.1 ((h a).2 (List.mem_cons_of_mem _ ha)) with q | q
      · subst q; exact absurd (b1 a ha) (dlt_irr a)
      · exact q⟩]
/-- what stands in order, each once -/
theorem cmL_up {ys : List Dt} (hs : ys.Pairwise (fun x y => ¬ dlt y x)) : ∀ {n : Nat}, n ≤ ys.length → Up (cmL ys n)
  | 0, _ => .nil
  | n + 1, h => by
    have ih := cmL_up hs (n := n) (by omega)
    obtain ⟨z, hz⟩ := get_of_lt (xs := ys) (k := n) (by omega)
    rw [cmL]
    split
    · exact ih
    · rename_i hq
      rw [hz]
      refine List.pairwise_append.2 ⟨ih, by simp, fun a ha b hb => ?_⟩
      have hb' : z = b := by simpa [eq_comm] using hb
      subst hb'
      obtain ⟨i, h1, h2⟩ := (cmL_mem (by omega) a).1 ha
      have hle : ∀ i j x y, i < j → ys[i]? = some x → ys[j]? = some y → ¬ dlt y x := fun i j x y hij hx hy => by
        obtain ⟨l1, rfl⟩ := List.getElem?_eq_some_iff.1 hx
        obtain ⟨l2, rfl⟩ := List.getElem?_eq_some_iff.1 hy
        exact List.pairwise_iff_getElem.1 hs i j l1 l2 hij
      rcases dlt_tri a z with q | q | q
      · exfalso
        subst q
        obtain ⟨p, hp⟩ := get_of_lt (xs := ys) (k := n - 1) (by omega)
        have hpa : ¬ p = a := fun e => hq ⟨by omega, by rw [hp, hz, e]⟩
        have c1 := hle (n - 1) n p a (by omega) hp hz
        by_cases e : i = n - 1
        · subst e; rw [hp] at h2; cases h2; exact hpa rfl
        · have c2 := hle i (n - 1) a p (by omega) h2 hp
          rcases dlt_tri a p with r | r | r
          · exact hpa r.symm
          · exact c1 r
          · exact c2 r
      · exact q
      · exact absurd q (hle i n a z h1 h2 hz)
def dks (zs : List Dk) : List Dt := zs.map (·.1)
theorem own_dks (v : Value) (zs : List Dk) : Hp.own FD 3 v (dks zs) = Hp.own FK 3 v zs := own_map ..
theorem dks_len (zs : List Dk) : (dks zs).length = zs.length := List.length_map ..
theorem uni_is {xs ys : List Dt} {zs : List Dk} (hp : (dks zs).Perm (xs ++ ys)) (hs : zs.Pairwise (fun x y => kK x ≤ kK y)) : cmL (dks zs) (dks zs).length = uni xs ys := by
  refine up_uniq (cmL_up ?_ (Nat.le_refl _)) uni_up fun a => ?_
  · unfold dks; rw [List.pairwise_map]
    exact hs.imp fun {x y} h q => by rw [dlt, kK_lt] at q; omega
  · rw [cmL_mem (Nat.le_refl _), uni_mem, ← List.mem_append, ← hp.mem_iff, List.mem_iff_getElem?]
    exact ⟨fun ⟨i, _, h⟩ => ⟨i, h⟩, fun ⟨i, h⟩ => ⟨i, (List.getElem?_eq_some_iff.1 h).1, h⟩⟩
theorem Up.nodup {l : List Dt} (h : Up l) : l.Nodup := h.imp fun {x y} q e => by subst e; exact dlt_irr _ q
theorem Try.eV : Elem Try.prog 70 25 (.slice none 0 0) 1 24 := ⟨Try.underlying70, by kernel_rfl, rfl, by decide⟩
/-- two lists in a row -/
theorem cat_two {W w : World} {b : Nat} {a1 a2 : Option Addr} {n1 c1 n2 c2 : Nat} {xa xb : List Dt} {R : Hp} {W0 : World} (H : Sat W0 w (Hp.rec_ b [.slice a1 n1 c1, .slice a2 n2 c2] * R)) (ha : SlS FD 3 w (.slice a1 n1 c1) xa) (hb : SlS FD 3 w (.slice a2 n2 c2) xb) (hl : xa.length + xb.length ≤ 65000) :
    Calls Try.prog 42 #[.slice (some ⟨b, 0, none⟩) 2 2] w (Ret w fun v l9 => IsS v ∧ l9 = [Hp.own FD 3 v (xa ++ xb)]) := by
  have hc : cat [(⟨a1, n1, c1, xa⟩ : Vd), (⟨a2, n2, c2, xb⟩ : Vd)] = xa ++ xb := by simp [cat]
  have hs : SlS FV 1 w (.slice (some ⟨b, 0, none⟩) 2 2) [(⟨a1, n1, c1, xa⟩ : Vd), (⟨a2, n2, c2, xb⟩ : Vd)] := (H.mono (own_of_rec (f := FV) (xs := [(⟨a1, n1, c1, xa⟩ : Vd), (⟨a2, n2, c2, xb⟩ : Vd)]) FV_len rfl)).sls (by simp)
  have := concat_any hs (fun x hx => by
    rcases List.mem_cons.1 hx with rfl | hx
    · exact ha
    · rw [List.mem_singleton] at hx; subst hx; exact hb) (by rw [hc, List.length_append]; omega)
  rw [hc] at this
  exact this
theorem union_any {W : World} {a1 a2 : Option Addr} {n1 c1 n2 c2 : Nat} {xa xb : List Dt} (ha : SlS FD 3 W (.slice a1 n1 c1) xa) (hb : SlS FD 3 W (.slice a2 n2 c2) xb) (ra : ∀ x ∈ xa, Rng x) (rb : ∀ x ∈ xb, Rng x) (hl : xa.length + xb.length ≤ 65000) :
    Calls Try.prog 33 #[.slice a1 n1 c1, .slice a2 n2 c2] W (Ret W fun v l9 => IsS v ∧ l9 = [Hp.own FD 3 v (uni xa xb)]) := by
  refine Gx.enter (l := []) Try.func33 rfl Try.ntmps33 rfl (Sat.start W) ?_
  refine Gx.know (m' := [(0, .slice a1 n1 c1), (1, .slice a2 n2 c2)]) (.cons rfl (.cons rfl .nil)) ?_
  refine Gx.seq ?_
  refine Gx.region ?_
  refine Gx.val rfl rfl rfl (val_assign rfl rfl) ?_
  refine Gx.done ?_
  refine Gx.thenN ?_
  refine Gx.seq ?_
  refine Gx.region ?_
  refine Gx.val rfl rfl rfl (val_move rfl rfl) ?_
  refine Gx.val rfl rfl rfl (val_move rfl rfl) ?_
  refine Gx.eff rfl rfl rfl (eff_buildSlice rfl (qs := [(0, .slice a1 n1 c1), (1, .slice a2 n2 c2)]) rfl rfl (cs := #[.slice a1 n1 c1, .slice a2 n2 c2]) (vs := [.slice a1 n1 c1, .slice a2 n2 c2]) (E := 25) rfl (fun w => by first | (go_simp; done) | (go_simp; rfl))) ?_
  rintro _ _ ⟨b1, rfl, rfl⟩
  refine Gx.eff rfl rfl rfl (eff_callN (vs := [.slice (some ⟨b1, 0, none⟩) 2 2]) rfl Try.fn42 rfl (fun w H => cat_two (W := w) (H.at_ (k := 0) rfl) (ha.below H.below) (hb.below H.below) hl)) ?_
  rintro cv _ ⟨_, ⟨hicv, rfl⟩, rfl⟩
  refine Gx.norm (l' := [Hp.own FD 3 cv (xa ++ xb), Hp.rec_ b1 [.slice a1 n1 c1, .slice a2 n2 c2]]) rfl ?_
  refine Gx.val rfl rfl rfl (val_assign rfl rfl) ?_
  refine Gx.done ?_
  refine Gx.thenN ?_
  refine Gx.seq ?_
  obtain ⟨zs0, hz0⟩ : ∃ zs, xa ++ xb = dks zs := lift_rng (xs := xa ++ xb) (fun x hx => by rcases List.mem_append.1 hx with h | h; exact ra x h; exact rb x h)
  refine Gx.norm (l' := [Hp.own FK 3 cv zs0, Hp.rec_ b1 [.slice a1 n1 c1, .slice a2 n2 c2]]) (by rw [hz0, own_dks] <;> rfl) ?_
  refine Gx.region ?_
  refine Gx.val rfl rfl rfl (val_move rfl rfl) ?_
  refine Gx.eff rfl rfl rfl (eff_call (vs := [cv, .func (.func 26) #[] #[]]) rfl Try.fn43 rfl (fun w H => sort_any (by have h9 := congrArg List.length hz0; rw [List.length_append, dks_len] at h9; omega) (H.at_ (k := 0) rfl))) ?_
  rintro _ l2 ⟨zs, hperm, hsr, rfl, hl2⟩
  refine Gx.sepEq (l' := [Hp.own FK 3 cv zs, Hp.rec_ b1 [.slice a1 n1 c1, .slice a2 n2 c2]]) hl2 ?_
  refine Gx.done ?_
  refine Gx.thenN ?_
  refine Gx.seq ?_
  refine Gx.norm (l' := [Hp.own FD 3 cv (dks zs), Hp.rec_ b1 [.slice a1 n1 c1, .slice a2 n2 c2]]) (by rw [own_dks] <;> rfl) ?_
  refine Gx.region ?_
  refine Gx.val rfl rfl rfl (val_move rfl rfl) ?_
  refine Gx.eff rfl rfl rfl (eff_call (vs := [cv]) rfl Try.fn44 rfl (fun w H => compactD_any hicv (by have h9 := congrArg List.length hz0; have h8 := hperm.length_eq; rw [List.length_append, dks_len] at h9; rw [dks_len]; omega) (H.at_ (k := 0) rfl))) ?_
  rintro uv l3 ⟨hiuv, hl3⟩
  refine Gx.sepEq (l' := [Hp.own FD 3 uv (cmL (dks zs) (dks zs).length), Hp.rec_ b1 [.slice a1 n1 c1, .slice a2 n2 c2]]) hl3 ?_
  refine Gx.val rfl rfl rfl (val_assign rfl rfl) ?_
  refine Gx.done ?_
  refine Gx.thenN ?_
  refine Gx.ret ?_
  refine Gx.drop 1 rfl ?_
  refine Gx.front 0 rfl ?_
  refine Gx.ret1 Try.results33 rfl ?_
  exact ⟨hiuv, by rw [uni_is (by rw [hz0]; exact hperm.map _) hsr]; rfl⟩

end Go.Proofs.Ytfpkfbffpkjgbaa
