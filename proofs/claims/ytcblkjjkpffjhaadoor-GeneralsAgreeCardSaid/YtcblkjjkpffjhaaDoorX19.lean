/- 'copy' into an own slice of single cells. Over any program. No condition. -/
import Derived.Test.YtcblkjjkpffjhaaDoorX17
namespace Go.Proofs.YtcblkjjkpffjhaaDoor
open Go.RowKit
set_option linter.unusedVariables false
set_option linter.unusedSimpArgs false
/-- what is copied lies over what was there -/
def ovw {α : Type} (xs ys : List α) (lo q : Nat) : List α := xs.take lo ++ ys.take q ++ xs.drop (lo + q)
theorem ovw_len {α : Type} {xs ys : List α} {lo q : Nat} (h1 : lo + q ≤ xs.length) (h2 : q ≤ ys.length) : (ovw xs ys lo q).length = xs.length := by
  unfold ovw; simp; omega
theorem ovw_at {α : Type} {xs ys : List α} {lo q : Nat} (h1 : lo + q ≤ xs.length) (h2 : q ≤ ys.length) (j : Nat) : (ovw xs ys lo q)[j]? = if j < lo then xs[j]? else if j < lo + q then ys[j - lo]? else xs[j]? := by
  unfold ovw
  have e1 : (xs.take lo).length = lo := by simp; omega
  have e2 : (xs.take lo ++ ys.take q).length = lo + q := by simp; omega
  by_cases c : j < lo
  · rw [if_pos c, List.append_assoc, List.getElem?_append_left (by omega), List.getElem?_take, if_pos c]
  · rw [if_neg c]
    by_cases d : j < lo + q
    · rw [if_pos d, List.getElem?_append_left (by omega), List.getElem?_append_right (by omega), e1, List.getElem?_take, if_pos (by omega)]
    · rw [if_neg d, List.getElem?_append_right (by omega), e2, List.getElem?_drop]; congr 1; omega
section
variable {P : Program} {c : Cx} {m m' : List (Nat × Value)} {l l' : List Hp} {o : Oper} {x y z : Operand} {v u u' : Value} {T T' S : TypeId}
theorem eff_copyO {α : Type} {p : α → Value} {e : TypeId} {k lo up q : Nat} {dv : Value} {xs ys : List α} (ho : o.op = .call { callee := .builtin .copy, args := #[x, y], argTypes := #[T, T'] }) (hT : P.underlying T = some (.slice e)) (hE : (P.info? e).map (·.size) = some 1) (hx : evo m x = some dv) (hdv : ∀ w, Sat c.W w (sep l) → dv = sCut 1 lo up v) (hy : evo m y = some u) (hk : l[k]? = some (Hp.own (fun x => [p x]) 1 v xs))
    (hs : ∀ w, Sat c.W w (sep l) → SlS (fun x => [p x]) 1 w u ys) (h1 : ∀ x, (p x).oneCell' = true) (hlu : lo ≤ up) (hu : up ≤ xs.length) (hq : q = Nat.min ys.length (up - lo)) (hl : l.set k (Hp.own (fun x => [p x]) 1 v (ovw xs ys lo q)) = l') : Eff P c m l o (fun r l'' => r = .int .i64 ((q : Nat) : Int) ∧ l'' = l') := fun a w s H => by
  have e0 := hdv w H
  have H1 := H.at_ hk
  obtain ⟨a', scap, rfl, hm, hn, hcell⟩ := hs w H
  have hql : q ≤ ys.length := by rw [hq]; exact Nat.min_le_left ..
  have hqu : q ≤ up - lo := by rw [hq]; exact Nat.min_le_right ..
  have hol := ovw_len (xs := xs) (ys := ys) (lo := lo) (q := q) (by omega) hql
  have hrun : ∀ (w' : World), (Builtin.copy_ #[T, T'] o.type #[dv, .slice a' ys.length scap]).run P w = .ok (goInt q) w' → Sat c.W w' (sep l') → EffAt P o a w fun r w' => ∃ l'', (r = .int .i64 ((q : Nat) : Int) ∧ l'' = l') ∧ Sat c.W w' (sep l'') := fun w' hr H' => by
    have h9 : (execOp a.eval o).run P w = .ok (.value (goInt q)) w' := by
      simp [execOp, ho, resolve, invoke, builtin, s.ev hx, s.ev hy, hr, Result.andThen]
    unfold EffAt; rw [h9]; exact ⟨l', ⟨rfl, rfl⟩, H'⟩
  rcases H1.ows with ⟨rfl, rfl⟩ | ⟨g, off, cap, rfl, hb, hlt, hcap, hsp, hel⟩
  · simp at hu
    have : q = 0 := by omega
    subst this
    refine hrun w ?_ (Sat.back hk (by rw [← hl]; congr 1; unfold ovw; simp) H1)
    rw [e0, show sCut 1 lo up (.slice none 0 0) = .slice (if 0 = lo then none else Option.map (fun a : Addr => a.add (lo * 1)) none) (up - lo) (0 - lo) from rfl]
    exact run_copy_none w T T' o.type e _ a' _ _ _ _ hT hE hq.symm
  · by_cases h0 : q = 0
    · subst h0
      refine hrun w ?_ (Sat.back hk (by rw [← hl]; congr 1; unfold ovw; simp) H1)
      rw [e0, show sCut 1 lo up (.slice (some ⟨g, off, none⟩) xs.length cap) = .slice (if cap = lo then some ⟨g, off, none⟩ else (some (⟨g, off, none⟩ : Addr)).map (·.add (lo * 1))) (up - lo) (cap - lo) from rfl]
      exact run_copy_none w T T' o.type e _ a' _ _ _ _ hT hE hq.symm
    · have hne : cap ≠ lo := by omega
      obtain ⟨y0, hy0⟩ := get_of_lt (xs := ys) (k := 0) (by omega)
      obtain ⟨b, of, e1, hbl, _⟩ := hcell 0 y0 hy0
      subst e1
      have hcs : ∀ j y, ys[j]? = some y → w.cell? ((⟨b, of, none⟩ : Addr).add j) = some (p y) := fun j y hj => by
        obtain ⟨b', of', e1, _, h2⟩ := hcell j y hj
        cases e1
        have := h2 0 (p y) rfl
        rw [addr_add]
        rwa [Nat.mul_one, Nat.add_zero] at this
      have H2 := H1.over (ys := ovw xs ys lo q) lo (ys.take q) (by rw [List.length_take]; omega) (by omega) (fun j y hj => by
        rw [ovw_at (by omega) hql] at hj
        rw [List.length_take, Nat.min_eq_left hql, List.getElem?_take]
        by_cases q1 : j < lo
        · rw [if_pos q1] at hj; exact .inr ⟨.inl q1, hj⟩
        · rw [if_neg q1] at hj
          by_cases q2 : j < lo + q
          · rw [if_pos q2] at hj; exact .inl ⟨by omega, by rw [if_pos (by omega)]; exact hj⟩
          · rw [if_neg q2] at hj; exact .inr ⟨.inr (by omega), hj⟩)
      rw [hol] at H2
      refine hrun _ ?_ (Sat.back hk hl H2)
      rw [e0, show sCut 1 lo up (.slice (some ⟨g, off, none⟩) xs.length cap) = .slice (if cap = lo then some ⟨g, off, none⟩ else (some (⟨g, off, none⟩ : Addr)).map (·.add (lo * 1))) (up - lo) (cap - lo) from rfl, if_neg hne, Option.map_some, addr_add, Nat.mul_one]
      have hlen : ((ys.take q).map p).length = q := by rw [List.length_map, List.length_take]; omega
      have := run_copy_cells (P := P) w T T' o.type e g (off + lo) (up - lo) (cap - lo) ⟨b, of, none⟩ ys.length scap ((ys.take q).map p) hT hE (by rw [hlen]; exact hq) (fun j z hj => by
        rw [List.getElem?_map] at hj
        cases hy2 : (ys.take q)[j]? with
        | none => rw [hy2] at hj; cases hj
        | some y =>
          rw [hy2] at hj; cases hj
          rw [List.getElem?_take] at hy2
          split at hy2
          · exact hcs j y hy2
          · cases hy2) (fun j hj => by rw [Nat.add_assoc]; exact (hsp _ (by omega)).1) (fun j hj => by rw [Nat.add_assoc]; exact (hsp _ (by omega)).2) (fun z hz => by
        obtain ⟨y, _, rfl⟩ := List.mem_map.1 hz; exact h1 y)
      rw [hlen] at this
      exact this
theorem sCut_own {α : Type} {f : α → List Value} {sz k : Nat} {xs : List α} (hk : l[k]? = some (Hp.own f sz v xs)) : ∀ w, Sat c.W w (sep l) → v = sCut sz 0 xs.length v := fun w H => by
  rcases (H.at_ hk).ows with ⟨rfl, rfl⟩ | ⟨g, off, cap, rfl, hb, hlt, hcap, hsp, hel⟩
  · rfl
  · show _ = Value.slice (if cap = 0 then some ⟨g, off, none⟩ else (some (⟨g, off, none⟩ : Addr)).map (·.add (0 * sz))) (xs.length - 0) (cap - 0)
    rw [Option.map_some, addr_add, Nat.zero_mul, Nat.add_zero, ite_self, Nat.sub_zero, Nat.sub_zero]
end
end Go.Proofs.YtcblkjjkpffjhaaDoor
