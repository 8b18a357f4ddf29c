/- All that an iterator hands on, in a list: the walks. -/
import Derived.Test.YtfeeociajllbhaaDoorCA1
namespace Go.Proofs.YtfeeociajllbhaaDoor
open Go.RowKit Go.Shelf
set_option linter.unusedVariables false
attribute [local go_sem] Oper.semAt_some
namespace Chn
abbrev SZ (x : Int) : List Value := [.int .i64 x]
theorem SZ_len (x : Int) : (SZ x).length = 1 := rfl
theorem SZ_one (x : Int) (u : Value) (h : u ∈ SZ x) : u.oneCell' = true := by simp [SZ] at h; subst h; rfl
theorem Tryd.eZ : Elem Tryd.prog 63 3 (.int .i64 0) 1 8 := ⟨Tryd.underlying63, by kernel_rfl, rfl, by decide⟩

/-- a variable that holds an own slice -/
def boxS (b : Nat) (xs : List Int) : Hp := Hp.ex fun v => Hp.rec_ b [v] * Hp.own SZ 1 v xs

set_option maxHeartbeats 4000000 in
set_option maxRecDepth 100000 in
theorem append_any {W w : World} {gf : Nat} {lb : Array Value} {xs : Nat → Int} {n : Nat} {R0 R1 : Hp} (eg : ∀ args w, (callFunc gf args).run Tryd.prog w = .ok (.enter gf args) w) (hn : n ≤ 1000)
    (H : Sat W w R0)
    (iter : ∀ (l : Nat) (B : Nat → Hp) (w1 : World), Yields Tryd.prog W l (fun k => #[.int .i64 (xs k)]) n B → Sat W w1 (B 0 * R0) → Calls Tryd.prog gf (#[.func (.yield l) #[] #[]] ++ lb) w1 fun e w' => (∃ v, e = .returned v) ∧ Sat W w' (B n * R1)) :
    Calls Tryd.prog 33 #[.slice none 0 0, .func (.func gf) #[] lb] w fun e w' => ∃ v', e = .returned v' ∧ Sat W w' (Hp.own SZ 1 v' ((List.range n).map xs) * R1) := by
  have H1 := (H.nil SZ 1).allocAt #[.slice none 0 0] 63 [.slice none 0 0] rfl (b := w.heap.size) rfl
  have HH := Lib.hid (show Sat W (w.alloc (.cells #[.slice none 0 0] 63)) (boxS w.heap.size ((List.range 0).map xs) * R0) from Sat.exI (.slice none 0 0) (H1.cast (Hp.mul_assoc _ _ _).symm))
  have HI := Lib.hid iter
  clear H H1 iter
  refine calls_marks Tryd.func33 rfl ?_
  simp only [Tryd.ntmps33, List.size_toArray, List.length_cons, List.length_nil, Nat.reduceAdd, Nat.reduceSub, Array.replicate_succ, Array.replicate_zero, List.push_toArray, List.append_toArray, List.nil_append, List.cons_append]
  go_wp2_with fail
  obtain ⟨Bx, hBx⟩ : ∃ Bx, Bx = w.heap.size := ⟨_, rfl⟩
  rw [← hBx] at HH ⊢
  obtain ⟨w0, hw0⟩ : ∃ w0, w0 = w.alloc (.cells #[.slice none 0 0] 63) := ⟨_, rfl⟩
  rw [← hw0] at HH ⊢
  clear hBx hw0
  refine wp_rangeFunc (W := W) (lb := lb) rfl eg (fun k => #[.int .i64 (xs k)]) n (fun _ => rfl) (fun k => boxS Bx ((List.range k).map xs)) R0 R1 HH.out HI.out
    (fun k => { tmps := #[.slice none 0 0, .func (.func gf) #[] lb, .pointer (some ⟨Bx, 0, none⟩), undef, .slice none 0 0, .int .i64 (xs k), .func (.func gf) #[] lb, .int .i64 (xs k), undef, undef, undef, undef, undef], defers := [] }) ?assign ?body ?done
  case assign =>
    intro l k w1 K _ hK
    gi_wp2
    exact hK
  case body =>
    intro l k w1 R hk hs
    obtain ⟨v, hs⟩ := Sat.ex hs
    have h1 := hs.assoc
    have c0 := h1.cell 0 rfl
    have f0 := h1.free 0 rfl
    have H1 := Lib.hid h1.sw
    have hl : ((List.range k).map xs).length = k := by simp
    obtain ⟨av, cv, hv, _⟩ := h1.sw.ows.form
    rw [hl] at hv
    subst hv
    have HE := Lib.hid (show (List.range (k + 1)).map xs = (List.range k).map xs ++ [xs k] by rw [List.range_succ, List.map_append]; rfl)
    clear hs h1
    generalize (List.range k).map xs = ys at *
    have HL := Lib.hid hl
    clear hl
    gi_wp2_with (gi_at_builtin; refine wpListIn_pushH rfl (.tmp 8) (.tmp 10) 63 rfl Tryd.eZ SZ SZ_len SZ_one (xs k) w1.heap.size rfl rfl (H1.out.alloc _ _ _ rfl) (by have := HL.out; omega) (by have := HL.out; omega) ?_; intro v' w2 hs' h'; have h2 := h'.sw; have d0 := h2.cell 0 rfl; have e0 := h2.free 0 rfl; have H2 := Lib.hid (h2.set 0 v'); obtain ⟨g', o', c', rfl⟩ := hs'; clear h' h2)
    show Sat W _ (boxS Bx ((List.range (k + 1)).map xs) * R)
    rw [HE.out]
    exact Sat.exI _ (H2.out.cast (Hp.mul_assoc _ _ _).symm)
  case done =>
    intro D w' hD hs
    have hs1 := hs.sw
    obtain ⟨v, hs2⟩ := Sat.ex hs1
    have h2 := hs2.assoc
    have c0 := h2.cell 0 rfl
    have hl : ((List.range n).map xs).length = n := by simp
    obtain ⟨av, cv, hv, _⟩ := h2.drop.ows.form
    rw [hl] at hv
    subst hv
    have H2 := Lib.hid (h2.up2)
    clear hs hs1 hs2 h2 hl
    go_wp2_with fail
    exact marks_ret (v := .slice av n cv) H2.out (fun w' => (by simp [results, Tryd.f33] : (results Tryd.f33 _).run Tryd.prog w' = .ok (Value.slice av n cv) w')) fun w2 h => ⟨_, rfl, h.drop.drop⟩

theorem collect_any {W w : World} {gf : Nat} {lb : Array Value} {xs : Nat → Int} {n : Nat} {R0 R1 : Hp} (eg : ∀ args w, (callFunc gf args).run Tryd.prog w = .ok (.enter gf args) w) (hn : n ≤ 1000)
    (H : Sat W w R0)
    (iter : ∀ (l : Nat) (B : Nat → Hp) (w1 : World), Yields Tryd.prog W l (fun k => #[.int .i64 (xs k)]) n B → Sat W w1 (B 0 * R0) → Calls Tryd.prog gf (#[.func (.yield l) #[] #[]] ++ lb) w1 fun e w' => (∃ v, e = .returned v) ∧ Sat W w' (B n * R1)) :
    Calls Tryd.prog 23 #[.func (.func gf) #[] lb] w fun e w' => ∃ v', e = .returned v' ∧ Sat W w' (Hp.own SZ 1 v' ((List.range n).map xs) * R1) := by
  have HX := Lib.hid (append_any eg hn H iter)
  clear H iter
  go_enter Tryd.func23, Tryd.ntmps23
  go_wp2_with fail
  refine HX.out.mono ?_
  rintro e w' ⟨v, rfl, hs⟩
  have HS := Lib.hid hs
  clear hs
  go_wp2_with fail
  go_ret
  exact ⟨_, rfl, HS.out⟩
end Chn
end Go.Proofs.YtfeeociajllbhaaDoor
