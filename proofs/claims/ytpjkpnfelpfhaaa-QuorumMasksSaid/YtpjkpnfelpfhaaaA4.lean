/- Each two of some sets: the range. The walk. No condition. -/
import Derived.Test.YtpjkpnfelpfhaaaB1
import Derived.Test.YtpjkpnfelpfhaaaW2
namespace Go.Proofs.Ytpjkpnfelpfhaaa
open Go.RowKit
set_option linter.unusedVariables false
set_option linter.unusedSimpArgs false
set_option maxRecDepth 100000

/-- two of a list, the one not ahead of the other; also one and itself -/
def Two (q : List Nat) (p : Nat × Nat) : Prop := ∃ i j : Nat, i ≤ j ∧ q[i]? = some p.1 ∧ q[j]? = some p.2
def encT (p : Nat × Nat) : Array Value := #[.int .u32 ((p.1 : Nat) : Int), .int .u32 ((p.2 : Nat) : Int)]
theorem pairs1_any {W w : World} {qv : Value} {q : List Nat} {lp bx : Nat} {good : Nat × Nat → Bool} {ok : Bool} {B Z R : Hp} (hs : SlS FU 1 W qv q)
    (hT : ∀ p, Two q p → good p = true → ∀ w R, Sat W w (B * R) → YieldAt Fence.wide 0 Try.prog lp (encT p) w fun e w' => e = .returned (.bool true) ∧ Sat W w' (B * R))
    (hF : ∀ p, Two q p → good p = false → ∀ w R, Sat W w (B * R) → YieldAt Fence.wide 0 Try.prog lp (encT p) w fun e w' => e = .returned (.bool false) ∧ Sat W w' (Z * R))
    (hok : ok = true ↔ ∀ p, Two q p → good p = true) (H : Sat W w (B * (Hp.rec_ bx [qv] * R))) :
    Calls Try.prog 37 #[.func (.yield lp) #[] #[], ptr bx 0] w (Ret W fun u l => ∃ v : Value, v = u ∧ ((ok = true ∧ sep l = B * (Hp.rec_ bx [qv] * R)) ∨ (ok = false ∧ sep l = Z * (Hp.rec_ bx [qv] * R)))) := by
  have hm9 := sls_bd hs
  refine Gx.enter (l := [B, Hp.rec_ bx [qv], R]) Try.func37 rfl Try.ntmps37 rfl (H.frame2) ?_
  refine Gx.know (m' := [(0, .func (.yield lp) #[] #[]), (1, ptr bx 0)]) (.cons rfl (.cons rfl .nil)) ?_
  refine Gx.seq ?_
  refine Gx.region ?_
  refine Gx.val rfl rfl rfl (val_load rfl Try.ty22 rfl rfl (cell_rec (k := 1) rfl rfl)) ?_
  refine Gx.val rfl rfl rfl (val_len rfl Try.underlying22 rfl (len_base hs)) ?_
  refine Gx.val rfl rfl rfl (val_move rfl rfl) ?_
  refine Gx.done ?_
  refine Gx.thenN ?_
  refine Gx.block ?_
  refine Gx.loop (ι := Nat) (fun ξ => (ξ ≤ q.length) ∧ (∀ i j x y, i < ξ → i ≤ j → q[i]? = some x → q[j]? = some y → good (x, y) = true)) (fun ξ => [(0, .func (.yield lp) #[] #[]), (1, ptr bx 0), (7, qv), (8, .int .i64 ((q.length : Nat) : Int)), (9, .int .i64 ((ξ : Nat) : Int))]) (fun ξ => [B, Hp.rec_ bx [qv], R]) (fun ξ => q.length - ξ) 0 ⟨by first | omega | (dsimp only; omega), fun i j x y h => absurd h (Nat.not_lt_zero _)⟩ ((.cons rfl (.cons rfl (.cons rfl (.cons rfl (.cons rfl .nil)))))) rfl ?_
  rintro k ⟨hk, hall⟩
  refine Gx.know (m' := [(0, .func (.yield lp) #[] #[]), (1, ptr bx 0), (7, qv), (8, .int .i64 ((q.length : Nat) : Int)), (9, .int .i64 ((k : Nat) : Int))]) (.cons rfl (.cons rfl (.cons rfl (.cons rfl (.cons rfl .nil))))) (Gx.norm (l' := [B, Hp.rec_ bx [qv], R]) rfl ?_)
  refine Gx.seq ?_
  refine Gx.region ?_
  refine Gx.val rfl rfl rfl (val_lss rfl rfl rfl) ?_
  refine Gx.done ?_
  refine Gx.thenN ?_
  refine Gx.seq ?_
  refine Gx.dec rfl (fun h1 => ?_) (fun h1 => ?_)
  · refine Gx.skip ?_
    refine Gx.thenN ?_
    refine Gx.seq ?_
    refine Gx.block ?_
    refine Gx.seq ?_
    obtain ⟨x, hx⟩ := get_of_lt (xs := q) (k := k) (by omega)
    refine Gx.region ?_
    refine Gx.val rfl rfl rfl (val_move rfl rfl) ?_
    refine Gx.val rfl rfl rfl (val_ixa rfl Try.underlying22 Try.ty28 rfl rfl (j := k) (rfl) (reach_base hs hx)) ?_
    refine Gx.val rfl rfl rfl (val_load rfl Try.ty28 rfl rfl (cell_base (i := 0) hs hx rfl)) ?_
    refine Gx.val rfl rfl rfl (val_assign rfl rfl) ?_
    refine Gx.val rfl rfl rfl (val_assign rfl rfl) ?_
    refine Gx.done ?_
    refine Gx.thenN ?_
    refine Gx.seq ?_
    refine Gx.region ?_
    refine Gx.val rfl rfl rfl (val_load rfl Try.ty22 rfl rfl (cell_rec (k := 1) rfl rfl)) ?_
    refine Gx.val rfl rfl rfl (val_move rfl rfl) ?_
    have hcut2 : SlS FU 1 W (sCut 1 k q.length qv) (q.drop k) := by have q := (hs).cut (lo := k) (hi := q.length) (by omega) (by omega); rwa [List.take_length] at q
    refine Gx.val rfl rfl rfl (val_cutFrom (lo := k) rfl Try.underlying22 Try.ty28 rfl hs rfl (rfl) (by omega)) ?_
    refine Gx.val rfl rfl rfl (val_len rfl Try.underlying22 rfl (len_base hcut2)) ?_
    refine Gx.val rfl rfl rfl (val_move rfl rfl) ?_
    refine Gx.done ?_
    refine Gx.thenN ?_
    refine Gx.block ?_
    refine Gx.loop (ι := Nat) (fun ξ => (ξ ≤ q.length - k) ∧ (∀ j y, k ≤ j → j < k + ξ → q[j]? = some y → good (x, y) = true)) (fun ξ => [(0, .func (.yield lp) #[] #[]), (1, ptr bx 0), (3, .int .i64 ((k : Nat) : Int)), (4, .int .u32 ((x : Nat) : Int)), (7, qv), (8, .int .i64 ((q.length : Nat) : Int)), (9, .int .i64 ((k : Nat) : Int)), (16, sCut 1 k q.length qv), (17, .int .i64 (((q.drop k).length : Nat) : Int)), (18, .int .i64 ((ξ : Nat) : Int))]) (fun ξ => [B, Hp.rec_ bx [qv], R]) (fun ξ => q.length - k - ξ) 0 ⟨by first | omega | (dsimp only; omega), fun j y h1 h2 => by exfalso; (try dsimp only at h2); omega⟩ ((.cons rfl (.cons rfl (.cons rfl (.cons rfl (.cons rfl (.cons rfl (.cons rfl (.cons rfl (.cons rfl (.cons rfl .nil))))))))))) rfl ?_
    rintro t ⟨ht, hin⟩
    refine Gx.know (m' := [(0, .func (.yield lp) #[] #[]), (1, ptr bx 0), (3, .int .i64 ((k : Nat) : Int)), (4, .int .u32 ((x : Nat) : Int)), (7, qv), (8, .int .i64 ((q.length : Nat) : Int)), (9, .int .i64 ((k : Nat) : Int)), (16, sCut 1 k q.length qv), (17, .int .i64 (((q.drop k).length : Nat) : Int)), (18, .int .i64 ((t : Nat) : Int))]) (.cons rfl (.cons rfl (.cons rfl (.cons rfl (.cons rfl (.cons rfl (.cons rfl (.cons rfl (.cons rfl (.cons rfl .nil)))))))))) (Gx.norm (l' := [B, Hp.rec_ bx [qv], R]) rfl ?_)
    have hdl : (q.drop k).length = q.length - k := List.length_drop ..
    refine Gx.seq ?_
    refine Gx.region ?_
    refine Gx.val rfl rfl rfl (val_lss rfl rfl rfl) ?_
    refine Gx.done ?_
    refine Gx.thenN ?_
    refine Gx.seq ?_
    refine Gx.dec rfl (fun h3 => ?_) (fun h3 => ?_)
    · refine Gx.skip ?_
      refine Gx.thenN ?_
      refine Gx.seq ?_
      refine Gx.block ?_
      refine Gx.seq ?_
      obtain ⟨y, hy⟩ := get_of_lt (xs := (q.drop k)) (k := t) (by omega)
      have hy0 : q[k + t]? = some y := by rw [← hy, List.getElem?_drop]
      refine Gx.region ?_
      refine Gx.val rfl rfl rfl (val_ixa rfl Try.underlying22 Try.ty28 rfl rfl (j := t) (rfl) (reach_base hcut2 hy)) ?_
      refine Gx.val rfl rfl rfl (val_load rfl Try.ty28 rfl rfl (cell_base (i := 0) hcut2 hy rfl)) ?_
      refine Gx.val rfl rfl rfl (val_assign rfl rfl) ?_
      refine Gx.done ?_
      refine Gx.thenN ?_
      refine Gx.seq ?_
      refine Gx.regionI ?_
      refine Gx.moveI rfl rfl rfl rfl rfl ?_
      refine Gx.moveI rfl rfl rfl rfl rfl ?_
      refine Gx.moveI rfl rfl rfl rfl rfl ?_
      have hS : Two q (x, y) := ⟨k, k + t, by omega, hx, hy0⟩
      by_cases hgd : good (x, y) = true
      · refine Gx.yieldI (v := .bool true) (l2 := [B, Hp.rec_ bx [qv], R]) rfl rfl rfl rfl rfl rfl (fun w H => hT (x, y) hS hgd w _ H) ?_
        refine Gx.notI rfl rfl rfl rfl rfl ?_
        refine Gx.doneI ?_
        refine Gx.thenN ?_
        refine Gx.f rfl ?_
        refine Gx.skip ?_
        refine Gx.blkN ?_
        refine Gx.thenN ?_
        refine Gx.region ?_
        refine Gx.val rfl rfl rfl (val_add rfl rfl rfl (r := ((t + 1 : Nat) : Int)) (w64 (by omega) (by omega))) ?_
        refine Gx.val rfl rfl rfl (val_move rfl rfl) ?_
        refine Gx.done ?_
        refine Gx.thenN ?_
        exact Gx.round (t + 1) ⟨by first | omega | (dsimp only; omega), fun j y' h1 h2 h3 => by
          by_cases e : j = k + t
          · subst e; rw [hy0] at h3; cases h3; exact hgd
          · exact hin j y' h1 (by (try dsimp only at h2); omega) h3⟩ (by first | omega | (dsimp only; omega)) ((.cons rfl (.cons rfl (.cons rfl (.cons rfl (.cons rfl (.cons rfl (.cons rfl (.cons rfl (.cons rfl (.cons rfl .nil))))))))))) rfl
      · refine Gx.yieldI (v := .bool false) (l2 := [Z, Hp.rec_ bx [qv], R]) rfl rfl rfl rfl rfl rfl (fun w H => hF (x, y) hS (by simpa using hgd) w _ H) ?_
        refine Gx.notI rfl rfl rfl rfl rfl ?_
        refine Gx.doneI ?_
        refine Gx.thenN ?_
        refine Gx.t rfl ?_
        refine Gx.ret ?_
        refine Gx.blkR ?_
        refine Gx.thenR ?_
        refine Gx.thenR ?_
        refine Gx.blkR ?_
        refine Gx.blkR ?_
        refine Gx.thenR ?_
        refine Gx.thenR ?_
        refine Gx.blkR ?_
        refine Gx.ret0 Try.results37 ?_
        exact ⟨_, rfl, .inr ⟨by
          cases ok with
          | false => rfl
          | true => exact absurd ((hok.1 rfl) (x, y) hS) hgd, sep2 _ _ _⟩⟩
    · refine Gx.exit ?_
      refine Gx.thenE ?_
      refine Gx.thenE ?_
      refine Gx.blkE ?_
      refine Gx.blkN ?_
      refine Gx.thenN ?_
      refine Gx.region ?_
      refine Gx.val rfl rfl rfl (val_add rfl rfl rfl (r := ((k + 1 : Nat) : Int)) (w64 (by omega) (by omega))) ?_
      refine Gx.val rfl rfl rfl (val_move rfl rfl) ?_
      refine Gx.done ?_
      refine Gx.thenN ?_
      exact Gx.round (k + 1) ⟨by first | omega | (dsimp only; omega), fun i j x' y' g1 g2 g3 g4 => by
        by_cases e : i = k
        · subst e; rw [hx] at g3; cases g3
          exact hin j y' g2 (by have := (List.getElem?_eq_some_iff.1 g4).1; omega) g4
        · exact hall i j x' y' (by (try dsimp only at g1); omega) g2 g3 g4⟩ (by first | omega | (dsimp only; omega)) ((.cons rfl (.cons rfl (.cons rfl (.cons rfl (.cons rfl .nil)))))) rfl
  · refine Gx.exit ?_
    refine Gx.thenE ?_
    refine Gx.thenE ?_
    refine Gx.blkE ?_
    refine Gx.endN ?_
    refine Gx.ret0 Try.results37 ?_
    exact ⟨_, rfl, .inl ⟨hok.2 fun p ⟨i, j, h1, h2, h3⟩ => hall i j p.1 p.2 (by have := (List.getElem?_eq_some_iff.1 h2).1; omega) h1 h2 h3, sep2 _ _ _⟩⟩

end Go.Proofs.Ytpjkpnfelpfhaaa
