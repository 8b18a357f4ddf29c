/- The ops may stand one after another. In plain words. No condition. -/
import Derived.Test.YtjiefamdpbnngaaM4
import Derived.Test.YtjiefamdpbnngaaLA4
namespace Go.Proofs.Ytjiefamdpbnngaa.Lin
open Go.RowKit
set_option linter.unusedVariables false
set_option linter.unusedSimpArgs false
set_option maxRecDepth 100000

def toOp (o : Oq) : Op := ⟨(o.who : Int), 0, o.wr, o.val, (o.frm : Int), o.to⟩
theorem sls_op {w : World} {v : Value} {l : List Oq} (h : SlS (fun o : Oq => [Value.int .i64 ((o.who : Nat) : Int), .int .i64 0, .bool o.wr, .int .i64 o.val, .int .i64 ((o.frm : Nat) : Int), .int .i64 o.to]) 6 w v l) : SlS FO 6 w v (l.map toOp) := by
  obtain ⟨a, cap, h1, h2, h3, h4⟩ := h
  refine ⟨a, cap, by rw [List.length_map]; exact h1, by rw [List.length_map]; exact h2, by rw [List.length_map]; exact h3, fun j x hx => ?_⟩
  rw [List.getElem?_map] at hx
  cases hp : l[j]? with
  | none => rw [hp] at hx; cases hx
  | some p =>
    rw [hp] at hx
    cases hx
    exact h4 j p hp
theorem op_at {l : List Oq} {k : Nat} {o : Oq} (h : l[k]? = some o) : (l.map toOp)[k]? = some (toOp o) := by rw [List.getElem?_map, h]; rfl
theorem op_inv {l : List Oq} {k : Nat} {a : Op} (h : (l.map toOp)[k]? = some a) : ∃ o, l[k]? = some o ∧ a = toOp o := by
  rw [List.getElem?_map] at h
  cases e : l[k]? with
  | none => rw [e] at h; cases h
  | some o => rw [e] at h; cases h; exact ⟨o, rfl, rfl⟩
theorem ops_ok {n : Nat} {cs : List Sd} {ops : List Oq} (h : LJ n cs ops) (h8 : ops.length ≤ 8) : OkH (ops.map toOp) := by
  refine ⟨by rw [List.length_map]; exact h8, fun i a ha => ?_, fun i j a b ha hb hne hw => ?_⟩
  · obtain ⟨o, ho, rfl⟩ := op_inv ha
    exact ⟨Int.le_refl _, (by decide : (0 : Int) < 4), Int.natCast_nonneg _, h.tt i o ho⟩
  · obtain ⟨o, ho, rfl⟩ := op_inv ha
    obtain ⟨x, hx, rfl⟩ := op_inv hb
    have hw' : o.who = x.who := by
      have : ((o.who : Nat) : Int) = ((x.who : Nat) : Int) := hw
      omega
    rcases h.two i j o x ho hx hne hw' with q | q
    · exact .inl (aheadB_iff.2 q)
    · exact .inr (aheadB_iff.2 q)
/-- those that stand in the order, and where -/
def inS (ops : List Oq) (k : Nat) : Prop := ∃ o, ops[k]? = some o ∧ o.sec = true ∧ (o.wr = true ∨ 0 ≤ o.to)
def keyA (o : Oq) : Nat := stp o.best * 2 + if o.wr then 0 else 1
def Bef (o b : Oq) : Prop := keyA o < keyA b ∨ (keyA o = keyA b ∧ o.frm < b.frm)
theorem Bef.trans {a b c : Oq} (h1 : Bef a b) (h2 : Bef b c) : Bef a c := by unfold Bef at *; omega
theorem Bef.irr {a : Oq} : ¬ Bef a a := by unfold Bef; omega
theorem keyA_stp {o b : Oq} (h : keyA o ≤ keyA b) : stp o.best ≤ stp b.best := by unfold keyA at h; split at h <;> split at h <;> omega
theorem keyA_lt {o b : Oq} (h : stp o.best < stp b.best) : keyA o < keyA b := by unfold keyA; split <;> split <;> omega
theorem least_of {P : Nat → Prop} : ∀ (n : Nat), P n → ∃ k, P k ∧ ∀ j, j < k → ¬ P j := by
  intro n
  induction n using Nat.strongRecOn with
  | _ n ih =>
    intro h
    by_cases hx : ∃ j, j < n ∧ P j
    · obtain ⟨j, hj, hp⟩ := hx; exact ih j hj hp
    · exact ⟨n, h, fun j hj hp => hx ⟨j, hj, hp⟩⟩
/-- of several one comes first -/
theorem first_bef {ops : List Oq} {P : Nat → Prop} (h : ∃ k o, ops[k]? = some o ∧ P k) : ∃ k o, ops[k]? = some o ∧ P k ∧ ∀ (j : Nat) (b : Oq), ops[j]? = some b → P j → ¬ Bef b o := by
  obtain ⟨k, o, ho, hp⟩ := h
  obtain ⟨A, ⟨k1, o1, h1, h2, h3⟩, hA⟩ := least_of (P := fun A => ∃ k o, ops[k]? = some o ∧ P k ∧ keyA o = A) _ ⟨k, o, ho, hp, rfl⟩
  obtain ⟨f, ⟨k2, o2, g1, g2, g3, g4⟩, hf⟩ := least_of (P := fun f => ∃ k o, ops[k]? = some o ∧ P k ∧ keyA o = A ∧ o.frm = f) _ ⟨k1, o1, h1, h2, h3, rfl⟩
  refine ⟨k2, o2, g1, g2, fun j b hb hpj hbef => ?_⟩
  rcases hbef with q | ⟨q1, q2⟩
  · exact hA (keyA b) (by omega) ⟨j, b, hb, hpj, rfl⟩
  · exact hf b.frm (by omega) ⟨j, b, hb, hpj, by omega, rfl⟩
def RegO (ops : List Oq) (l : List Nat) : Prop :=
  (regsL (ops.map toOp) l 0 = 0 ∧ ∀ k ∈ l, ∀ o, ops[k]? = some o → o.wr = false) ∨
  ∃ w o, w ∈ l ∧ ops[w]? = some o ∧ o.wr = true ∧ regsL (ops.map toOp) l 0 = o.val ∧ ∀ k ∈ l, ∀ b, ops[k]? = some b → b.wr = true → ¬ Bef o b
theorem ext_ops {n : Nat} {cs : List Sd} {ops : List Oq} (h : LJ n cs ops) (hw4 : ∀ (k : Nat) (o : Oq), ops[k]? = some o → o.who < 4) : ∀ (d : Nat) (l : List Nat), (ops.map toOp).length - l.length = d → Gd (ops.map toOp) l → (∀ k ∈ l, inS ops k) →
    (∀ (k j : Nat) (o b : Oq), k ∈ l → ops[k]? = some o → ops[j]? = some b → inS ops j → Bef b o → j ∈ l) → RegO ops l → ∃ m, Ext (ops.map toOp) l m := by
  intro d
  induction d using Nat.strongRecOn with
  | _ d ih =>
  intro l hd G hS hdown hreg
  by_cases hf : fullB (ops.map toOp) l = true
  · exact ⟨l, .done hf⟩
  · have hex : ∃ k o, ops[k]? = some o ∧ (inS ops k ∧ ¬ k ∈ l) := by
      refine Classical.byContradiction fun hc => hf (fullB_iff.2 fun i a hi h0 => Classical.byContradiction fun hm => hc ?_)
      obtain ⟨o, ho, rfl⟩ := op_inv hi
      exact ⟨i, o, ho, ⟨o, ho, h.dn i o ho h0, .inr h0⟩, hm⟩
    obtain ⟨i, o, ho, ⟨hSi, hil⟩, hmin⟩ := first_bef hex
    have hsec : o.sec = true ∧ (o.wr = true ∨ 0 ≤ o.to) := by
      obtain ⟨o', ho', g⟩ := hSi
      cases ho.symm.trans ho'; exact g
    have hbefore : ∀ (k : Nat) (b : Oq), k ∈ l → ops[k]? = some b → ¬ Bef o b := fun k b hk hb hbef => hil (hdown k i b o hk hb ho hSi hbef)
    have hmay : mayB (ops.map toOp) l i = true := by
      refine (mayB_iff (op_at ho)).2 ⟨hil, ?_, fun j b hb hj hah => ?_⟩
      · by_cases hwr : o.wr = true
        · exact .inl hwr
        · have hwr' : o.wr = false := by simpa using hwr
          have h0 : 0 ≤ o.to := hsec.2.resolve_left hwr
          refine .inr ⟨h0, ?_⟩
          show regsL (ops.map toOp) l 0 = o.val
          have hv := h.rv i o ho hwr' h0
          rcases h.bsrc i o ho with e | ⟨j, b, hb, b1, b2, b3⟩
          · rw [hv, e]
            rcases hreg with ⟨r1, _⟩ | ⟨w, x, hwl, hx, x1, x2, _⟩
            · exact r1
            · exfalso
              obtain ⟨x', hx', g1, _⟩ := hS w hwl
              cases hx.symm.trans hx'
              have h1n := (h.wv w x hx x1 g1).2.2
              refine hbefore w x hwl hx (.inl (keyA_lt ?_))
              rw [e]
              unfold stp sd0; dsimp only; omega
          · have hbo : Bef b o := by
              left
              unfold keyA
              rw [b3, if_pos b1, if_neg hwr]; omega
            have hjl : j ∈ l := Classical.byContradiction fun hn => hmin j b hb ⟨⟨b, hb, b2, .inl b1⟩, hn⟩ hbo
            rcases hreg with ⟨_, r2⟩ | ⟨w, x, hwl, hx, x1, x2, x3⟩
            · have := r2 j hjl b hb
              rw [b1] at this; cases this
            · obtain ⟨x', hx', g1, _⟩ := hS w hwl
              cases hx.symm.trans hx'
              have h3 := x3 j hjl b hb b1
              have h4 := hbefore w x hwl hx
              have k1 : keyA b ≤ keyA x := Nat.le_of_not_lt fun q => h3 (.inl q)
              have k2 : keyA x ≤ keyA o := Nat.le_of_not_lt fun q => h4 (.inl q)
              have s1 := keyA_stp k1
              have s2 := keyA_stp k2
              rw [← b3] at s2
              have hjw := h.uniq hw4 hb hx b1 x1 b2 g1 (by omega)
              subst hjw
              cases hb.symm.trans hx
              rw [x2, hv, ← b3]
              exact (h.wv j b hb b1 b2).1.symm
      · obtain ⟨x, hx, rfl⟩ := op_inv hb
        obtain ⟨g1, g2⟩ := aheadB_iff.1 hah
        have g1' : 0 ≤ x.to := g1
        have g2' : x.to < (o.frm : Int) := g2
        have hxs := h.dn j x hx g1'
        obtain ⟨l1, l2⟩ := h.le i j o x ho hsec.1 hx g1' g2'
        refine hmin j x hx ⟨⟨x, hx, hxs, .inr g1'⟩, hj⟩ ?_
        rcases Nat.lt_or_eq_of_le l1 with q | q
        · exact .inl (keyA_lt q)
        · have hwr : ¬ o.wr = true := fun hw => by have := l2 hw; omega
          have hfr : x.frm < o.frm := by have := h.tt j x hx; omega
          unfold Bef keyA
          rw [if_neg hwr]
          split
          · left; omega
          · right; exact ⟨by omega, hfr⟩
    have hi2 : i < (ops.map toOp).length := (mayB_lt hmay).1
    have hdown2 : ∀ (k j : Nat) (o' b : Oq), k ∈ l ++ [i] → ops[k]? = some o' → ops[j]? = some b → inS ops j → Bef b o' → j ∈ l ++ [i] := fun k j o' b hk ho' hb hSj hbef => by
      rcases List.mem_append.1 hk with hk | hk
      · exact List.mem_append_left _ (hdown k j o' b hk ho' hb hSj hbef)
      · rw [List.mem_singleton] at hk
        subst hk
        cases ho.symm.trans ho'
        exact List.mem_append_left _ (Classical.byContradiction fun hn => hmin j b hb ⟨hSj, hn⟩ hbef)
    have hreg2 : RegO ops (l ++ [i]) := by
      unfold RegO
      rw [regsL_snoc (op_at ho)]
      by_cases hwr : o.wr = true
      · right
        refine ⟨i, o, by simp, ho, hwr, ?_, fun k hk b hb _ => ?_⟩
        · unfold stepR
          rw [if_pos (show (toOp o).write = true from hwr)]
          rfl
        · rcases List.mem_append.1 hk with hk | hk
          · exact hbefore k b hk hb
          · rw [List.mem_singleton] at hk
            subst hk
            cases ho.symm.trans hb
            exact Bef.irr
      · have hst : stepR (regsL (ops.map toOp) l) (toOp o) = regsL (ops.map toOp) l := by unfold stepR; exact if_neg hwr
        rw [hst]
        rcases hreg with ⟨r1, r2⟩ | ⟨w, x, hwl, hx, x1, x2, x3⟩
        · left
          refine ⟨r1, fun k hk b hb => ?_⟩
          rcases List.mem_append.1 hk with hk | hk
          · exact r2 k hk b hb
          · rw [List.mem_singleton] at hk
            subst hk
            cases ho.symm.trans hb
            simpa using hwr
        · right
          refine ⟨w, x, List.mem_append_left _ hwl, hx, x1, x2, fun k hk b hb hbw => ?_⟩
          rcases List.mem_append.1 hk with hk | hk
          · exact x3 k hk b hb hbw
          · rw [List.mem_singleton] at hk
            subst hk
            cases ho.symm.trans hb
            exact absurd hbw hwr
    have hlen := G.len
    have G2 := G.snoc hi2 hil
    have hlen2 := G2.len
    have hl1 : (l ++ [i]).length = l.length + 1 := by simp
    obtain ⟨m, E⟩ := ih ((ops.map toOp).length - (l ++ [i]).length) (by omega) (l ++ [i]) rfl G2 (fun k hk => by
      rcases List.mem_append.1 hk with hk | hk
      · exact hS k hk
      · rw [List.mem_singleton] at hk; subst hk; exact hSi) hdown2 hreg2
    exact ⟨m, .step hmay E⟩
theorem ops_linear {n : Nat} (h1 : 1 ≤ n) (l : List Cl) : (FL ((stR (rs0 n) 0 l).ops.map toOp) []).isSome = true := by
  have inv := (InvR.zero n).run h1 l
  have hj := LJ.run h1 l (InvR.zero n) (LJ.zero n)
  exact FL_iff.2 (ext_ops hj (fun k o ho => (inv.old k o ho).1) _ [] rfl (Gd.nil _) (fun k hk => by cases hk) (fun k j o b hk => by cases hk) (.inl ⟨rfl, fun k hk => by cases hk⟩))
theorem linear_of {W : World} {n : Nat} {v : Value} {l : List Cl} (h1 : 1 ≤ n) (h8 : (stR (rs0 n) 0 l).ops.length ≤ 8) (hs : SlS (fun o : Oq => [Value.int .i64 ((o.who : Nat) : Int), .int .i64 0, .bool o.wr, .int .i64 o.val, .int .i64 ((o.frm : Nat) : Int), .int .i64 o.to]) 6 W v (stR (rs0 n) 0 l).ops) :
    Calls Try.prog 10 #[v] W fun e w' => ∃ u, e = .returned u ∧ (∃ a k c, u = .tuple #[.slice a k c, .bool true, .int .i64 0]) ∧ Below W.heap.size W w' := by
  have hj := LJ.run h1 l (InvR.zero n) (LJ.zero n)
  refine (linear_isb (ops_ok hj h8) (sls_op hs)).mono ?_
  rintro e w' ⟨u, he, ⟨a, k, c, hu, _⟩, hb⟩
  rw [ops_linear h1 l] at hu
  exact ⟨u, he, ⟨a, k, c, hu⟩, hb⟩
end Go.Proofs.Ytjiefamdpbnngaa.Lin
