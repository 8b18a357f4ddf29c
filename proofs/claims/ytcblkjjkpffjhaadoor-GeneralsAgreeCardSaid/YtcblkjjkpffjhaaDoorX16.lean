/- 'clear' of a part of an own slice; elements of a part of an own slice. Over any program. No condition. -/
import Derived.Test.YtcblkjjkpffjhaaDoorX15
import Derived.Lib.SliceRun
namespace Go.Proofs.YtcblkjjkpffjhaaDoor
open Go.RowKit
set_option linter.unusedVariables false
set_option linter.unusedSimpArgs false

theorem zero_flat {α : Type} {f : α → List Value} {sz n : Nat} {r : α} {cells : Array Value} (hf : ∀ x, (f x).length = sz) (hz : cells.toList = f r) : (Builtin.zeroCells cells n).toList = (List.replicate n r).flatMap f := by
  have hsz : cells.size = sz := by rw [← Array.length_toList, hz, hf]
  refine List.ext_getElem? fun i => ?_
  by_cases hi : i < n * sz
  · have hs : 0 < sz := by
      rcases Nat.eq_zero_or_pos sz with h | h
      · rw [h] at hi; simp at hi
      · exact h
    have hm : i % sz < sz := Nat.mod_lt _ hs
    have hd : i / sz < n := (Nat.div_lt_iff_lt_mul hs).2 hi
    obtain ⟨u, hu⟩ : ∃ u, (f r)[i % sz]? = some u := ⟨_, List.getElem?_eq_getElem (by rw [hf]; exact hm)⟩
    have h1 := flat_at hf (xs := List.replicate n r) (j := i / sz) (x := r) (by rw [List.getElem?_replicate, if_pos hd]) hu
    rw [Nat.div_add_mod' i sz] at h1
    rw [h1]
    have h2 : cells[i % sz]? = some u := by rw [← Array.getElem?_toList, hz]; exact hu
    simp [Builtin.zeroCells, hsz, hi]
    rw [Array.getElem!_eq_getD, Array.getD_eq_getD_getElem?, h2]; rfl
  · rw [List.getElem?_eq_none (by simp [Builtin.zeroCells, hsz]; omega), List.getElem?_eq_none (by rw [flat_sz hf]; simp; omega)]
/-- n elements from the lo-th on are z -/
def clr {α : Type} (xs : List α) (z : α) : Nat → Nat → List α
  | _, 0 => xs
  | lo, n + 1 => clr (xs.set lo z) z (lo + 1) n
theorem clr_len {α : Type} (z : α) : ∀ (n lo : Nat) (xs : List α), (clr xs z lo n).length = xs.length
  | 0, _, _ => rfl
  | n + 1, lo, xs => by simp only [clr]; rw [clr_len z n, List.length_set]
theorem clr_take {α : Type} (z : α) : ∀ (n lo k : Nat) (xs : List α), k ≤ lo → (clr xs z lo n).take k = xs.take k
  | 0, _, _, _, _ => rfl
  | n + 1, lo, k, xs, h => by
    simp only [clr]
    rw [clr_take z n (lo + 1) k _ (by omega), List.take_set_of_le h]
theorem setCells_app (b : Nat) : ∀ (us vs : List Value) (o : Nat) (w : World), w.setCells b o (us ++ vs) = (w.setCells b o us).setCells b (o + us.length) vs
  | [], vs, o, w => rfl
  | u :: us, vs, o, w => by
    rw [List.cons_append, World.setCells, World.setCells, setCells_app b us vs, List.length_cons, show o + 1 + us.length = o + (us.length + 1) from by omega]
theorem OwS.cleared {α : Type} {f : α → List Value} {sz base g o n cap : Nat} {z : α} (hf : ∀ x, (f x).length = sz) : ∀ (q lo : Nat) (w : World) (xs : List α), OwS f sz w base (.slice (some ⟨g, o, none⟩) n cap) xs → lo + q ≤ xs.length → OwS f sz (w.setCells g (o + lo * sz) ((List.replicate q z).flatMap f)) base (.slice (some ⟨g, o, none⟩) n cap) (clr xs z lo q)
  | 0, lo, w, xs, h, _ => h
  | q + 1, lo, w, xs, h, hl => by
    obtain ⟨x, hx⟩ : ∃ x, xs[lo]? = some x := ⟨_, List.getElem?_eq_getElem (by omega)⟩
    have h1 := h.storedA hf z hx
    have h2 := OwS.cleared hf (z := z) q (lo + 1) _ _ h1 (by rw [List.length_set]; omega)
    rw [List.replicate_succ, List.flatMap_cons, setCells_app, hf]
    rw [show o + (lo + 1) * sz = o + lo * sz + sz from by rw [Nat.succ_mul]; omega] at h2
    exact h2
section
variable {P : Program} {c : Cx} {m m' : List (Nat × Value)} {l l' : List Hp} {o : Oper} {x y z : Operand} {v u u' : Value} {T T' S : TypeId}
theorem eff_clear {α : Type} {f : α → List Value} {e : TypeId} {d : TypeDesc} {sz bytes k lo up : Nat} {z' : Value} {xs : List α} (ho : o.op = .call { callee := .builtin .clear, args := #[x], argTypes := #[T] }) (hT : P.underlying T = some (.slice e)) (hE : Ty P e d sz bytes z') (hx : evo m x = some (sCut sz lo up v)) (hk : l[k]? = some (Hp.own f sz v xs))
    (hf : ∀ x, (f x).length = sz) (h1 : ∀ x u, u ∈ f x → u.oneCell' = true) (r : α) (hz : z'.cells.toList = f r) (hlu : lo ≤ up) (hu : up ≤ xs.length) (hl : l.set k (Hp.own f sz v (clr xs r lo (up - lo))) = l') : Eff P c m l o (fun _ l'' => l'' = l') := Eff.of fun a w s H => by
  have e1 : (underlying T).run P w = .ok (.slice e) w := run_underlying hT w
  have H1 := H.at_ hk
  have hO := H1.ows
  rcases hO with ⟨rfl, rfl⟩ | ⟨g, off, cap, rfl, hb, hlt, hcap, hsp, hel⟩
  · simp at hu
    obtain rfl : lo = 0 := by omega
    subst hu
    refine ⟨.tuple #[], w, ?_, l', rfl, ?_⟩
    · simp [execOp, ho, resolve, invoke, builtin, s.ev hx, Builtin.clear_, sCut, e1, Result.andThen]
    · exact Sat.back hk (by rw [← hl]; rfl) H1
  · by_cases hn : up - lo = 0
    · refine ⟨.tuple #[], w, ?_, l', rfl, ?_⟩
      · by_cases hcl : cap = lo <;> simp [execOp, ho, resolve, invoke, builtin, s.ev hx, Builtin.clear_, sCut, e1, Result.andThen, hn, hcl]
      · rw [hn] at hl
        exact Sat.back hk (by rw [← hl]; rfl) H1
    · have hne : cap ≠ lo := by omega
      have hO2 := OwS.cleared hf (z := r) (up - lo) lo w xs H1.ows (by omega)
      have hM := setCells_meta g ((List.replicate (up - lo) r).flatMap f) (off + lo * sz) w
      have H3 : Sat c.W (w.setCells g (off + lo * sz) ((List.replicate (up - lo) r).flatMap f)) (Hp.own f sz (.slice (some ⟨g, off, none⟩) xs.length cap) (clr xs r lo (up - lo)) * sep (l.eraseIdx k)) := H1.reown hO2 ⟨hM.1, hM.2.1, hM.2.2.1, by rw [hM.2.2.2.1]; exact Nat.le_refl _, fun q _ hq => hM.2.2.2.2 q (fun e => hq (by rw [e]; rfl))⟩ (.inl rfl)
      refine ⟨.tuple #[], _, ?_, l', rfl, Sat.back hk hl H3⟩
      have hfl := flat_sz hf (List.replicate (up - lo) r)
      rw [List.length_replicate] at hfl
      have hsub : lo * sz + (up - lo) * sz ≤ cap * sz := by
        rw [← Nat.add_mul]; exact Nat.mul_le_mul_right sz (by omega)
      have h2 := run_storeCells_cells (P := P) g (off + lo * sz) ((List.replicate (up - lo) r).flatMap f) 0 w (fun q hq => by rw [Nat.add_zero, Nat.add_assoc]; rw [hfl] at hq; exact (hsp _ (by omega)).1) (fun q hq => by rw [Nat.add_zero, Nat.add_assoc]; rw [hfl] at hq; exact (hsp _ (by omega)).2) (fun q hq => by
        obtain ⟨y, _, hy⟩ := List.mem_flatMap.1 hq; exact h1 y q hy)
      obtain ⟨q, hq⟩ : ∃ q, up - lo = q + 1 := ⟨up - lo - 1, by omega⟩
      rw [hq] at h2 ⊢
      simp [execOp, ho, resolve, invoke, builtin, s.ev hx, Builtin.clear_, sCut, e1, Result.andThen, hne, hq, addr_add, hE.zero, zero_flat hf hz, h2]
theorem val_ixaC {α : Type} {f : α → List Value} {e : TypeId} {d : TypeDesc} {sz bytes lo up n : Nat} {z' : Value} {xs : List α} {k : IntKind} {i : Int} {j : Nat} {y' : α} (ho : o.op = .indexAddr T x y) (hT : P.underlying T = some (.slice e)) (hE : Ty P e d sz bytes z') (hx : evo m x = some (sCut sz lo up v)) (hn : l[n]? = some (Hp.own f sz v xs)) (hy : evo m y = some (.int k i)) (hi : i = (j : Int)) (hj : xs[lo + j]? = some y') (h1 : lo + j < up) (h2 : up ≤ xs.length) :
    Val P c m l o (ptr (sB v) (sO v + (lo + j) * sz)) := Val.of fun a w s H => by
  subst hi
  rcases (H.at_ hn).ows with ⟨rfl, rfl⟩ | ⟨g, off, cap, rfl, hb, hlt, hcap, hsp, hel⟩
  · simp at hj
  · have hne : cap ≠ lo := by omega
    have h3 := run_ixa (P := P) (T := T) (w := w) (b := g) (of := off + lo * sz) (n := up - lo) (cap := cap - lo) (k := k) (j := j) hT hE (by omega)
    simp [execOp, ho, s.ev hx, s.ev hy, sCut, hne, addr_add, h3, Result.andThen, sB, sO]
    rw [Nat.add_mul]; omega
theorem len_cutO {α : Type} {f : α → List Value} {sz k lo up : Nat} {xs : List α} (hk : l[k]? = some (Hp.own f sz v xs)) : Len c l (sCut sz lo up v) (up - lo) := fun w H => by
  obtain ⟨a, cap, rfl, _⟩ := (H.at_ hk).ows.form
  exact ⟨_, _, rfl⟩
theorem val_eqlSN {e : TypeId} (ho : o.op = .binOp .eql T x y T') (hT : P.underlying T = some (.slice e)) (hy : evo m y = some (.slice none 0 0)) {ad : Option Addr} {n cap : Nat} (hx : evo m x = some (.slice ad n cap)) : Val P c m l o (.bool ad.isNone) := Val.of fun a w s H => by
  cases ad <;> simp [execOp, ho, s.ev hx, s.ev hy, eqGuard, binOp, Lib.run_equalIn_slice_nil _ _ _ _ _ _ _ _ _ hT, Op.equal, Op.maxDepth, Result.andThen]
end
end Go.Proofs.YtcblkjjkpffjhaaDoor
