/- Statements that leave their order open, and change memory in one chain. Over any program. No condition. -/
import Derived.Test.YtcblkjjkpffjhaaDoorX3
namespace Go.Proofs.YtcblkjjkpffjhaaDoor
open Go.RowKit
set_option linter.unusedVariables false

def pB : Value → Nat | .pointer (some a) => a.block | _ => 0
def mB : Value → Nat | .map (some b) => b | _ => 0

/-- the walk in the order that is given, stage by stage -/
def Gw (P : Program) (c : Cx) (m : List (Nat × Value)) (st : List Value → List Hp) (ops : Array Oper) (eff : Nat → Bool) (K : List Value → Act → World → Prop) (ord : List Nat) (vs : List Value) : Prop :=
  ∀ a, Slots c a m → gWalk P .any ops eff (fun us w => Sat c.W w (sep (st us))) (fun us a' => ∀ w', Sat c.W w' (sep (st us)) → K us a' w') ord vs a

section
variable {P : Program} {c : Cx} {m : List (Nat × Value)} {l : List Hp} {st : List Value → List Hp} {ops : Array Oper} {eff : Nat → Bool} {K : List Value → Act → World → Prop} {rest' : List Nat} {Q : Exit → Act → World → Prop} {i : Nat} {rest : List Nat} {vs : List Value} {o : Oper} {d : Nat} {v : Value}

theorem Gx.regionO {id : Nat} {ops : List Oper} (eff : Nat → Bool) (n : Nat) (ord : List Nat) (st : List Value → List Hp) (hm : P.follows .mixedOrders = true) (hB : regB ops.toArray eff n ord = true) (h0 : l = st []) (h : Gw P c m st ops.toArray eff (fun _ => wpList P ops.toArray Q (ops.drop n)) ord []) :
    Gx c m l (Code.wp P (.region id ops.toArray true) Q) := fun a w s H =>
  wp_region_ord eff n ord (fun us w => Sat c.W w (sep (st us))) hm hB (h0 ▸ H.drawn _) (h a s)
theorem Gw.done (h : Gx c m (st vs) (K vs)) : Gw P c m st ops eff K [] vs := fun a s w H => h a w s H
theorem Gw.step (ho : ops[i]? = some o) (hw : ∀ a, Slots c a m → Region.wanted o (yielded ops a.tmps) = true) (he : eff i = false) (hd : o.dst = some d) (hn : Nat.ble (d + 1) c.n = true)
    (hv : ∀ us, vs <+: us → us.length ≤ hiOf .any ops eff i → Val P c m (st us) o v) (h : Gw P c ((d, v) :: m) st ops eff K rest vs) : Gw P c m st ops eff K (i :: rest) vs := fun a s => by
  unfold gWalk
  simp only [ho, hw a s, if_true, he, Bool.false_eq_true, if_false]
  exact ⟨v, fun us hp hl w H => (hv us hp hl).eff s H, h _ (by rw [hd]; exact s.put hn v)⟩
theorem Gw.val (ho : ops[i]? = some o) (hg : o.guard = none) (he : eff i = false) (hd : o.dst = some d) (hn : Nat.ble (d + 1) c.n = true) (hv : ∀ us, Val P c m (st us) o v) (h : Gw P c ((d, v) :: m) st ops eff K rest vs) : Gw P c m st ops eff K (i :: rest) vs :=
  Gw.step ho (fun a s => by simp [Region.wanted, hg]) he hd hn (fun us _ _ => hv us) h
theorem Gw.val0 (ho : ops[i]? = some o) (hg : o.guard = none) (he : eff i = false) (hhi : decide (hiOf .any ops eff i ≤ vs.length) = true) (hd : o.dst = some d) (hn : Nat.ble (d + 1) c.n = true) (hv : Val P c m (st vs) o v) (h : Gw P c ((d, v) :: m) st ops eff K rest vs) : Gw P c m st ops eff K (i :: rest) vs :=
  Gw.step ho (fun a s => by simp [Region.wanted, hg]) he hd hn (fun us hp hl => by
    have : vs = us := hp.eq_of_length_le (Nat.le_trans hl (of_decide_eq_true hhi))
    exact this ▸ hv) h
theorem Gw.valg {g s : Nat} {b : Bool} (ho : ops[i]? = some o) (hg : o.guard = some (g, b)) (hgo : (ops[g]?).bind (·.dst) = some s) (hs : look m s = some (.bool b)) (he : eff i = false) (hd : o.dst = some d) (hn : Nat.ble (d + 1) c.n = true) (hv : ∀ us, Val P c m (st us) o v) (h : Gw P c ((d, v) :: m) st ops eff K rest vs) : Gw P c m st ops eff K (i :: rest) vs :=
  Gw.step ho (fun a sl => by rw [wanted_slot sl hg hgo hs]; simp) he hd hn (fun us _ _ => hv us) h
theorem Gw.valg0 {g s : Nat} {b : Bool} (ho : ops[i]? = some o) (hg : o.guard = some (g, b)) (hgo : (ops[g]?).bind (·.dst) = some s) (hs : look m s = some (.bool b)) (he : eff i = false) (hhi : decide (hiOf .any ops eff i ≤ vs.length) = true) (hd : o.dst = some d) (hn : Nat.ble (d + 1) c.n = true) (hv : Val P c m (st vs) o v) (h : Gw P c ((d, v) :: m) st ops eff K rest vs) : Gw P c m st ops eff K (i :: rest) vs :=
  Gw.step ho (fun a sl => by rw [wanted_slot sl hg hgo hs]; simp) he hd hn (fun us hp hl => by
    have : vs = us := hp.eq_of_length_le (Nat.le_trans hl (of_decide_eq_true hhi))
    exact this ▸ hv) h
theorem Gw.skipg {g s : Nat} {b b' : Bool} (ho : ops[i]? = some o) (hg : o.guard = some (g, b)) (hgo : (ops[g]?).bind (·.dst) = some s) (hs : look m s = some (.bool b')) (hne : (b' == b) = false) (hd : o.dst = some d) (hn : Nat.ble (d + 1) c.n = true) (h : Gw P c ((d, undef) :: m) st ops eff K rest vs) : Gw P c m st ops eff K (i :: rest) vs := fun a sl => by
  unfold gWalk
  have hw : Region.wanted o (yielded ops a.tmps) = false := by rw [wanted_slot sl hg hgo hs, hne]
  simp only [ho, hw, Bool.false_eq_true, if_false]
  exact h _ (by rw [hd]; exact sl.put hn _)
theorem Gw.skipu {g s : Nat} {b : Bool} (ho : ops[i]? = some o) (hg : o.guard = some (g, b)) (hgo : (ops[g]?).bind (·.dst) = some s) (hs : look m s = some undef) (hd : o.dst = some d) (hn : Nat.ble (d + 1) c.n = true) (h : Gw P c ((d, undef) :: m) st ops eff K rest vs) : Gw P c m st ops eff K (i :: rest) vs := fun a sl => by
  unfold gWalk
  have hw : Region.wanted o (yielded ops a.tmps) = false := unwanted_undef sl hg hgo hs
  simp only [ho, hw, Bool.false_eq_true, if_false]
  exact h _ (by rw [hd]; exact sl.put hn _)
theorem Gw.chg (ho : ops[i]? = some o) (hg : o.guard = none) (he : eff i = true) (hd : o.dst = some d) (hn : Nat.ble (d + 1) c.n = true) (R : Value → Prop) (hv : Eff P c m (st vs) o (fun v l' => R v ∧ sep l' = sep (st (vs ++ [v])))) (h : ∀ v, R v → Gw P c ((d, v) :: m) st ops eff K rest (vs ++ [v])) : Gw P c m st ops eff K (i :: rest) vs := fun a s => by
  unfold gWalk
  have hw : Region.wanted o (yielded ops a.tmps) = true := by simp [Region.wanted, hg]
  simp only [ho, hw, if_true, he]
  refine ⟨R, fun w H => (hv a w s H).mono fun u w' ⟨l', ⟨hR, e⟩, H'⟩ => ⟨hR, H'.cast e⟩, fun u hR => h u hR _ (by rw [hd]; exact s.put hn u)⟩
theorem Gw.chg0 (ho : ops[i]? = some o) (hg : o.guard = none) (he : eff i = true) (hd : o.dst = none) (hv : Eff P c m (st vs) o (fun v l' => sep l' = sep (st (vs ++ [v])))) (h : ∀ v, Gw P c m st ops eff K rest (vs ++ [v])) : Gw P c m st ops eff K (i :: rest) vs := fun a s => by
  unfold gWalk
  have hw : Region.wanted o (yielded ops a.tmps) = true := by simp [Region.wanted, hg]
  simp only [ho, hw, if_true, he]
  exact ⟨fun _ => True, fun w H => (hv a w s H).mono fun u w' ⟨l', e, H'⟩ => ⟨trivial, H'.cast e⟩, fun u _ => h u _ (by rw [hd]; exact s)⟩
theorem Gw.cases {t : Nat} {p : Prop} [Decidable p] (hx : look m t = some (.bool (decide p))) (h1 : p → Gw P c ((t, .bool true) :: m) st ops eff K rest' vs) (h2 : ¬ p → Gw P c ((t, .bool false) :: m) st ops eff K rest' vs) : Gw P c m st ops eff K rest' vs := fun a s => by
  by_cases hp : p
  · exact h1 hp a (s.know (Knows.cons (by rw [hx, decide_eq_true hp]) Knows.refl))
  · exact h2 hp a (s.know (Knows.cons (by rw [hx, decide_eq_false hp]) Knows.refl))
theorem Gw.casesB {t : Nat} {b : Bool} (hx : look m t = some (.bool b)) (h1 : b = true → Gw P c ((t, .bool true) :: m) st ops eff K rest' vs) (h2 : b = false → Gw P c ((t, .bool false) :: m) st ops eff K rest' vs) : Gw P c m st ops eff K rest' vs := fun a s => by
  cases hb : b
  · exact h2 hb a (s.know (Knows.cons (by rw [hx, hb]) Knows.refl))
  · exact h1 hb a (s.know (Knows.cons (by rw [hx, hb]) Knows.refl))
theorem Gw.slot {t : Nat} {v : Value} (e : look m t = some v) (h : Gw P c ((t, v) :: m) st ops eff K rest' vs) : Gw P c m st ops eff K rest' vs := fun a s => h a (s.know (Knows.cons e Knows.refl))
end
end Go.Proofs.YtcblkjjkpffjhaaDoor
