/- My library, one text behind the other: walks over parts of memory. Over any program. No condition. -/
import Derived.Test.YtfpkfbffpkjgbaaW1
import Derived.Laws.AppendOwnNone
import Derived.Laws.OwnMore
import Derived.DeepKeys4
import Derived.Maps.RangeRun
import Derived.Laws.Cover3
import Derived.Laws.Pointers
import Derived.Lib.SliceRun
import Derived.Laws.IdiomCopy
import Derived.Deep.MidRow
import Derived.RangeFuncLeaves
import Derived.RangeFuncNested
import Derived.Shelf.Abstract
import Derived.Shelf.RegionOpen
import Derived.WalkKit
import Derived.OwnWalkIn
import Derived.TacticsInMore
import Derived.LoopNIn
import Derived.LoopIn
import Derived.Lib.AppendZeros
import Derived.SizedLaws
set_option linter.unusedVariables false
set_option linter.unusedSimpArgs false
/- Statements that leave their order open, and change memory in one chain. Over any program. No condition. -/
namespace Go.Proofs.Ytfpkfbffpkjgbaa
open Go.RowKit
set_option linter.unusedVariables false

def pB : Value → Nat | .pointer (some a) => a.block | _ => 0
def mB : Value → Nat | .map (some b) => b | _ => 0

/-- the walk in the order that is given, stage by stage -/
def Gw (P : Program) (c : Cx) (m : List (Nat × Value)) (st : List Value → List Hp) (ops : Array Oper) (eff : Nat → Bool) (K : List Value → Act → World → Prop) (ord : List Nat) (vs : List Value) : Prop :=
  ∀ a, Slots c a m → gWalk P .any ops eff (fun us w => Sat c.W w (sep (st us))) (fun us a' => ∀ w', Sat c.W w' (sep (st us)) → K us a' w') ord vs a

section
variable {P : Program} {c : Cx} {m : List (Nat × Value)} {l : List Hp} {st : List Value → List Hp} {ops : Array Oper} {eff : Nat → Bool} {K : List Value → Act → World → Prop} {rest' : List Nat} {Q : Exit → Act → World → Prop} {i : Nat} {rest : List Nat} {vs : List Value} {o : Oper} {d : Nat} {v : Value}

theorem Gx.regionO {id : Nat} {ops : List Oper} (eff : Nat → Bool) (n : Nat) (ord : List Nat) (st : List Value → List Hp) (hm : P.follows .mixedOrders = true) (hB : regB ops.toArray eff n ord = true) (h0 : l = st []) (h : Gw P c m st ops.toArray eff (fun _ => wpList P ops.toArray Q (ops.drop n)) ord []) :
    Gx c m l (Code.wp P (.region id ops.toArray true) Q) := fun a w s H =>
  wp_region_ord eff n ord (fun us w => Sat c.W w (sep (st us))) hm hB (h0 ▸ H.drawn _) (h a s)
theorem Gw.done (h : Gx c m (st vs) (K vs)) : Gw P c m st ops eff K [] vs := fun a s w H => h a w s H
theorem Gw.step (ho : ops[i]? = some o) (hw : ∀ a, Slots c a m → Region.wanted o (yielded ops a.tmps) = true) (he : eff i = false) (hd : o.dst = some d) (hn : Nat.ble (d + 1) c.n = true)
    (hv : ∀ us, vs <+: us → us.length ≤ hiOf .any ops eff i → Val P c m (st us) o v) (h : Gw P c ((d, v) :: m) st ops eff K rest vs) : Gw P c m st ops eff K (i :: rest) vs := fun a s => by
  unfold gWalk
  simp only [ho, hw a s, if_true, he, Bool.false_eq_true, if_false]
  exact ⟨v, fun us hp hl w H => (hv us hp hl).eff s H, h _ (by rw [hd]; exact s.put hn v)⟩
theorem Gw.val (ho : ops[i]? = some o) (hg : o.guard = none) (he : eff i = false) (hd : o.dst = some d) (hn : Nat.ble (d + 1) c.n = true) (hv : ∀ us, Val P c m (st us) o v) (h : Gw P c ((d, v) :: m) st ops eff K rest vs) : Gw P c m st ops eff K (i :: rest) vs :=
  Gw.step ho (fun a s => by simp [Region.wanted, hg]) he hd hn (fun us _ _ => hv us) h
theorem Gw.val0 (ho : ops[i]? = some o) (hg : o.guard = none) (he : eff i = false) (hhi : decide (hiOf .any ops eff i ≤ vs.length) = true) (hd : o.dst = some d) (hn : Nat.ble (d + 1) c.n = true) (hv : Val P c m (st vs) o v) (h : Gw P c ((d, v) :: m) st ops eff K rest vs) : Gw P c m st ops eff K (i :: rest) vs :=
  Gw.step ho (fun a s => by simp [Region.wanted, hg]) he hd hn (fun us hp hl => by
    have : vs = us := hp.eq_of_length_le (Nat.le_trans hl (of_decide_eq_true hhi))
    exact this ▸ hv) h
theorem Gw.valg {g s : Nat} {b : Bool} (ho : ops[i]? = some o) (hg : o.guard = some (g, b)) (hgo : (ops[g]?).bind (·.dst) = some s) (hs : look m s = some (.bool b)) (he : eff i = false) (hd : o.dst = some d) (hn : Nat.ble (d + 1) c.n = true) (hv : ∀ us, Val P c m (st us) o v) (h : Gw P c ((d, v) :: m) st ops eff K rest vs) : Gw P c m st ops eff K (i :: rest) vs :=
  Gw.step ho (fun a sl => by rw [wanted_slot sl hg hgo hs]; simp) he hd hn (fun us _ _ => hv us) h
theorem Gw.valg0 {g s : Nat} {b : Bool} (ho : ops[i]? = some o) (hg : o.guard = some (g, b)) (hgo : (ops[g]?).bind (·.dst) = some s) (hs : look m s = some (.bool b)) (he : eff i = false) (hhi : decide (hiOf .any ops eff i ≤ vs.length) = true) (hd : o.dst = some d) (hn : Nat.ble (d + 1) c.n = true) (hv : Val P c m (st vs) o v) (h : Gw P c ((d, v) :: m) st ops eff K rest vs) : Gw P c m st ops eff K (i :: rest) vs :=
  Gw.step ho (fun a sl => by rw [wanted_slot sl hg hgo hs]; simp) he hd hn (fun us hp hl => by
    have : vs = us := hp.eq_of_length_le (Nat.le_trans hl (of_decide_eq_true hhi))
    exact this ▸ hv) h
theorem Gw.skipg {g s : Nat} {b b' : Bool} (ho : ops[i]? = some o) (hg : o.guard = some (g, b)) (hgo : (ops[g]?).bind (·.dst) = some s) (hs : look m s = some (.bool b')) (hne : (b' == b) = false) (hd : o.dst = some d) (hn : Nat.ble (d + 1) c.n = true) (h : Gw P c ((d, undef) :: m) st ops eff K rest vs) : Gw P c m st ops eff K (i :: rest) vs := fun a sl => by
  unfold gWalk
  have hw : Region.wanted o (yielded ops a.tmps) = false := by rw [wanted_slot sl hg hgo hs, hne]
  simp only [ho, hw, Bool.false_eq_true, if_false]
  exact h _ (by rw [hd]; exact sl.put hn _)
theorem Gw.skipu {g s : Nat} {b : Bool} (ho : ops[i]? = some o) (hg : o.guard = some (g, b)) (hgo : (ops[g]?).bind (·.dst) = some s) (hs : look m s = some undef) (hd : o.dst = some d) (hn : Nat.ble (d + 1) c.n = true) (h : Gw P c ((d, undef) :: m) st ops eff K rest vs) : Gw P c m st ops eff K (i :: rest) vs := fun a sl => by
  unfold gWalk
  have hw : Region.wanted o (yielded ops a.tmps) = false := unwanted_undef sl hg hgo hs
  simp only [ho, hw, Bool.false_eq_true, if_false]
  exact h _ (by rw [hd]; exact sl.put hn _)
theorem Gw.chg (ho : ops[i]? = some o) (hg : o.guard = none) (he : eff i = true) (hd : o.dst = some d) (hn : Nat.ble (d + 1) c.n = true) (R : Value → Prop) (hv : Eff P c m (st vs) o (fun v l' => R v ∧ sep l' = sep (st (vs ++ [v])))) (h : ∀ v, R v → Gw P c ((d, v) :: m) st ops eff K rest (vs ++ [v])) : Gw P c m st ops eff K (i :: rest) vs := fun a s => by
  unfold gWalk
  have hw : Region.wanted o (yielded ops a.tmps) = true := by simp [Region.wanted, hg]
  simp only [ho, hw, if_true, he]
  refine ⟨R, fun w H => (hv a w s H).mono fun u w' ⟨l', ⟨hR, e⟩, H'⟩ => ⟨hR, H'.cast e⟩, fun u hR => h u hR _ (by rw [hd]; exact s.put hn u)⟩
theorem Gw.chg0 (ho : ops[i]? = some o) (hg : o.guard = none) (he : eff i = true) (hd : o.dst = none) (hv : Eff P c m (st vs) o (fun v l' => sep l' = sep (st (vs ++ [v])))) (h : ∀ v, Gw P c m st ops eff K rest (vs ++ [v])) : Gw P c m st ops eff K (i :: rest) vs := fun a s => by
  unfold gWalk
  have hw : Region.wanted o (yielded ops a.tmps) = true := by simp [Region.wanted, hg]
  simp only [ho, hw, if_true, he]
  exact ⟨fun _ => True, fun w H => (hv a w s H).mono fun u w' ⟨l', e, H'⟩ => ⟨trivial, H'.cast e⟩, fun u _ => h u _ (by rw [hd]; exact s)⟩
theorem Gw.cases {t : Nat} {p : Prop} [Decidable p] (hx : look m t = some (.bool (decide p))) (h1 : p → Gw P c ((t, .bool true) :: m) st ops eff K rest' vs) (h2 : ¬ p → Gw P c ((t, .bool false) :: m) st ops eff K rest' vs) : Gw P c m st ops eff K rest' vs := fun a s => by
  by_cases hp : p
  · exact h1 hp a (s.know (Knows.cons (by rw [hx, decide_eq_true hp]) Knows.refl))
  · exact h2 hp a (s.know (Knows.cons (by rw [hx, decide_eq_false hp]) Knows.refl))
theorem Gw.casesB {t : Nat} {b : Bool} (hx : look m t = some (.bool b)) (h1 : b = true → Gw P c ((t, .bool true) :: m) st ops eff K rest' vs) (h2 : b = false → Gw P c ((t, .bool false) :: m) st ops eff K rest' vs) : Gw P c m st ops eff K rest' vs := fun a s => by
  cases hb : b
  · exact h2 hb a (s.know (Knows.cons (by rw [hx, hb]) Knows.refl))
  · exact h1 hb a (s.know (Knows.cons (by rw [hx, hb]) Knows.refl))
theorem Gw.slot {t : Nat} {v : Value} (e : look m t = some v) (h : Gw P c ((t, v) :: m) st ops eff K rest' vs) : Gw P c m st ops eff K rest' vs := fun a s => h a (s.know (Knows.cons e Knows.refl))
end
end Go.Proofs.Ytfpkfbffpkjgbaa

/- 'append([]T{}, src...)': a copy of one's own. Over any program. No condition. -/
namespace Go.Proofs.Ytfpkfbffpkjgbaa
open Go.RowKit
set_option linter.unusedVariables false

theorem flat_get {α : Type} {f : α → List Value} {sz : Nat} (hf : ∀ x, (f x).length = sz) : ∀ (xs : List α) (j : Nat) (x : α), xs[j]? = some x → ∀ i u, (f x)[i]? = some u → (xs.flatMap f)[j * sz + i]? = some u
  | [], j, x, h, _, _, _ => by simp at h
  | y :: xs, 0, x, h, i, u, hu => by
    simp at h; subst h
    have hi : i < sz := by have := (List.getElem?_eq_some_iff.1 hu).1; rw [hf] at this; exact this
    rw [List.flatMap_cons, Nat.zero_mul, Nat.zero_add, List.getElem?_append_left (by rw [hf]; exact hi)]; exact hu
  | y :: xs, j + 1, x, h, i, u, hu => by
    rw [List.flatMap_cons, List.getElem?_append_right (by rw [hf, Nat.add_mul]; omega), hf, show (j + 1) * sz + i - sz = j * sz + i by rw [Nat.add_mul]; omega]
    exact flat_get hf xs j x (by simpa using h) i u hu
theorem flat_len {α : Type} {f : α → List Value} {sz : Nat} (hf : ∀ x, (f x).length = sz) (xs : List α) : (xs.flatMap f).length = xs.length * sz := by
  induction xs with
  | nil => simp
  | cons x xs ih => rw [List.flatMap_cons, List.length_append, hf, ih, List.length_cons, Nat.add_mul]; omega
/-- a list's cells, one by one -/
theorem flat_cells {α : Type} {f : α → List Value} {sz : Nat} (hf : ∀ x, (f x).length = sz) (h0 : 0 < sz) {xs : List α} {p : Nat → Value → Prop} (h : ∀ j x, xs[j]? = some x → ∀ i u, (f x)[i]? = some u → p (j * sz + i) u) : ∀ k u, (xs.flatMap f)[k]? = some u → p k u := by
  intro k u hk
  have hkl := (List.getElem?_eq_some_iff.1 hk).1
  rw [flat_len hf] at hkl
  have hq : k / sz < xs.length := Nat.div_lt_of_lt_mul (by rw [Nat.mul_comm]; exact hkl)
  obtain ⟨x, hx⟩ := get_of_lt hq
  have hr : k % sz < sz := Nat.mod_lt _ h0
  obtain ⟨q, hq'⟩ : ∃ q, (f x)[k % sz]? = some q := ⟨_, List.getElem?_eq_getElem (by rw [hf]; exact hr)⟩
  have e : k / sz * sz + k % sz = k := by rw [Nat.mul_comm]; exact Nat.div_add_mod k sz
  have h2 := flat_get hf _ _ _ hx _ _ hq'
  rw [e, hk] at h2
  cases h2
  have := h _ _ hx _ _ hq'
  rw [e] at this; exact this

theorem wpList_copyAll {α : Type} {P : Program} {W w : World} {R : Hp} {ops : Array Oper} {rest : List Oper} {o : Oper} {a : Act} {Q : Exit → Act → World → Prop} (hgd : o.guard = none) (s x : Operand) (t : TypeId)
    (ho : o.op = .call { callee := .builtin .append, args := #[s, x], argTypes := #[t, t] }) {e : TypeId} {z : Value} {sz bytes : Nat} (E : Elem P t e z sz bytes) (f : α → List Value) (hf : ∀ x, (f x).length = sz) (h1 : ∀ x u, u ∈ f x → u.oneCell' = true)
    {ys : List α} {u : Value} (hs : a.eval s = .slice (some ⟨w.heap.size, 0, none⟩) 0 0) (hx : a.eval x = u)
    (H : Sat W w R) (hsl : SlS f sz (w.alloc (.cells #[] e)) u ys) (hlen : ys.length * bytes ≤ 140737488355328)
    (h : ∀ v' w', (∃ a c, v' = .slice a ys.length c) → Sat W w' (Hp.own f sz v' ys * R) → wpList P ops Q rest (a.put o.dst v') w') : wpList P ops Q (o :: rest) a (w.alloc (.cells #[] e)) := by
  obtain ⟨hu, hinfo, hzs, hsz⟩ := E
  obtain ⟨i, hi, hz0, hz1, hz2⟩ := info_parts hinfo
  have hown : (w.alloc (.cells #[] e)).ownsRow w.heap.size e sz (.slice (some ⟨w.heap.size, 0, none⟩) 0 0) 0 [] := World.ownsRow_made w #[] 0 (Nat.le_refl _) (Nat.zero_le _) (by simp)
  have hO : OwS f sz (w.alloc (.cells #[] e)) w.heap.size (.slice (some ⟨w.heap.size, 0, none⟩) 0 0) ([] : List α) := OwS.of_row hown rfl (fun j x hx => by simp at hx)
  have H1 : Sat W (w.alloc (.cells #[] e)) (Hp.own f sz (.slice (some ⟨w.heap.size, 0, none⟩) 0 0) ([] : List α) * R) := H.newOwn hO
  obtain ⟨ao, cap, rfl, hm, hn, hc⟩ := hsl
  have fin : ∀ v' w', w'.ownsRow w.heap.size e sz v' (0 + ys.length) ([] ++ ys.flatMap f) → (w.alloc (.cells #[] e)).grownBy w' (some w.heap.size) → (v' = .slice none 0 0 ↔ Value.slice (some ⟨w.heap.size, 0, none⟩) 0 0 = .slice none 0 0 ∧ ys.length = 0) → wpList P ops Q rest (a.put o.dst v') w' := fun v' w' hr hg hnil => by
    have ho' : OwS f sz w' w.heap.size v' ys := OwS.of_row hr (by simp) (fun j x hx i u hu => by rw [List.nil_append]; exact flat_get hf ys j x hx i u hu)
    have hne : v' ≠ .slice none 0 0 := fun e => by have := (hnil.1 e).1; cases this
    refine h v' w' (by obtain ⟨a, c, e, _⟩ := ho'.form; exact ⟨a, c, e⟩) (H1.reown ho' hg ?_)
    rcases ho' with ⟨e, _⟩ | ⟨g, o', c', rfl, hb', _⟩
    · exact absurd e hne
    · by_cases e : g = w.heap.size
      · subst e; exact .inl rfl
      · exact .inr ⟨g, rfl, by simp; omega⟩
  cases ao with
  | none =>
    have hy : ys = [] := by
      cases ys with
      | nil => rfl
      | cons y l => obtain ⟨b, off, hb, _⟩ := hc 0 y rfl; cases hb
    subst hy
    obtain rfl : cap = 0 := hn.1 rfl
    refine wpList_append_own_none hgd s x t ho w.heap.size e i sz hu hi (.slice (some ⟨w.heap.size, 0, none⟩) 0 0) 0 [] hs hown hx ?_
    exact fin _ _ (by simpa using hown) (World.grownBy.refl _ _) (by simp)
  | some ad =>
    refine wpList_append_own (w.alloc (.cells #[] e)) hgd s x t ho w.heap.size e i z sz bytes hu hi hz0 hz1 hz2 hzs hsz (.slice (some ⟨w.heap.size, 0, none⟩) 0 0) 0 [] hs hown ad ys.length cap (ys.flatMap f) hx (flat_len hf ys) ?_ ?_ (by unfold maxLen; omega) (by simpa using hlen) (by simp) fin
    · refine flat_cells (f := f) hf hsz (p := fun k u => (w.alloc (.cells #[] e)).cell? (ad.add k) = some u) fun j y hy i' u hu' => ?_
      obtain ⟨b, off, hb, _, hcell⟩ := hc j y hy
      cases hb
      have e2 : (⟨b, off, none⟩ : Addr).add (j * sz + i') = ⟨b, off + (j * sz + i'), none⟩ := by unfold Addr.add; split <;> simp_all
      rw [e2]; exact hcell i' u hu'
    · intro u' hu'
      obtain ⟨y, _, hy⟩ := List.mem_flatMap.1 hu'
      exact h1 y u' hy

/-- 'append(own, src...)', of a row that the call has made -/
theorem wpList_appendRow {α : Type} {P : Program} {w : World} {ops : Array Oper} {rest : List Oper} {o : Oper} {a : Act} {Q : Exit → Act → World → Prop} (hgd : o.guard = none) (s x : Operand) (t : TypeId)
    (ho : o.op = .call { callee := .builtin .append, args := #[s, x], argTypes := #[t, t] }) {e : TypeId} {z : Value} {sz bytes : Nat} (E : Elem P t e z sz bytes) (f : α → List Value) (hf : ∀ x, (f x).length = sz) (h1 : ∀ x u, u ∈ f x → u.oneCell' = true)
    (base : Nat) {xs ys : List α} {v u : Value} (hs : a.eval s = v) (hx : a.eval x = u) (hown : w.ownsRow base e sz v xs.length (xs.flatMap f)) (hsl : SlS f sz w u ys) (hlen : (xs.length + ys.length) * bytes ≤ 140737488355328) (hm : xs.length + ys.length ≤ maxLen) (hbase : base ≤ w.heap.size)
    (h : ∀ v' w', w'.ownsRow base e sz v' (xs ++ ys).length ((xs ++ ys).flatMap f) → Below base w w' → wpList P ops Q rest (a.put o.dst v') w') : wpList P ops Q (o :: rest) a w := by
  obtain ⟨hu, hinfo, hzs, hsz⟩ := E
  obtain ⟨i, hi, hz0, hz1, hz2⟩ := info_parts hinfo
  obtain ⟨ao, cap, rfl, hm', hn, hc⟩ := hsl
  have hbl : ∀ w', w.grownBy w' v.ownBlock → Below base w w' := fun w' hg => by
    refine (Below.refl base w).grown hg hbase fun k hk => ?_
    rcases hown.2 with ⟨e1, _⟩ | ⟨g, cap, cur, e1, hb, _⟩
    · rw [e1] at hk; cases hk
    · rw [e1] at hk; cases hk; exact hb
  cases ao with
  | none =>
    have hy : ys = [] := by
      cases ys with
      | nil => rfl
      | cons y l => obtain ⟨b, off, hb, _⟩ := hc 0 y rfl; cases hb
    subst hy
    obtain rfl : cap = 0 := hn.1 rfl
    refine wpList_append_own_none hgd s x t ho base e i sz hu hi v xs.length (xs.flatMap f) hs hown hx ?_
    exact h _ _ (by simpa using hown) (Below.refl _ _)
  | some ad =>
    refine wpList_append_own w hgd s x t ho base e i z sz bytes hu hi hz0 hz1 hz2 hzs hsz v xs.length (xs.flatMap f) hs hown ad ys.length cap (ys.flatMap f) hx (flat_len hf ys) ?_ ?_ hm hlen hbase (fun v' w' q1 q2 _ => h v' w' (by rw [List.length_append, List.flatMap_append]; exact q1) (hbl w' q2))
    · refine flat_cells (f := f) hf hsz (p := fun k u => w.cell? (ad.add k) = some u) fun j y hy i' u hu' => ?_
      obtain ⟨b, off, hb, _, hcell⟩ := hc j y hy
      cases hb
      have e2 : (⟨b, off, none⟩ : Addr).add (j * sz + i') = ⟨b, off + (j * sz + i'), none⟩ := by unfold Addr.add; split <;> simp_all
      rw [e2]; exact hcell i' u hu'
    · intro u' hu'
      obtain ⟨y, _, hy⟩ := List.mem_flatMap.1 hu'
      exact h1 y u' hy
theorem row_made (w : World) (e : TypeId) (sz : Nat) : (w.alloc (.cells #[] e)).ownsRow w.heap.size e sz (.slice (some ⟨w.heap.size, 0, none⟩) 0 0) 0 [] := World.ownsRow_made w #[] 0 (Nat.le_refl _) (Nat.zero_le _) (by simp)
theorem row_sls {α : Type} {f : α → List Value} {sz base : Nat} {e : TypeId} {w : World} {v : Value} {xs : List α} (hf : ∀ x, (f x).length = sz) (h : w.ownsRow base e sz v xs.length (xs.flatMap f)) (hm : xs.length ≤ 140737488355328) : SlS f sz w v xs :=
  OwS.sl (OwS.of_row h rfl (fun j x hx i u hu => flat_get hf xs j x hx i u hu)) hm
theorem Below.here {w w1 w' : World} {n : Nat} (h : Below n w w') : Below n w w' := h
end Go.Proofs.Ytfpkfbffpkjgbaa

/- 'append(own, src...)' as an operation on parts; a slice made without elements as an own one. Over any program. No condition. -/
namespace Go.Proofs.Ytfpkfbffpkjgbaa
open Go.RowKit
set_option linter.unusedVariables false

theorem sls_bd {α : Type} {f : α → List Value} {sz : Nat} {w : World} {v : Value} {xs : List α} (h : SlS f sz w v xs) : xs.length ≤ 140737488355328 := by obtain ⟨_, _, _, hm, _⟩ := h; exact hm
theorem run_append_none_own {P : Program} {w : World} (t ty e : TypeId) (i : TypeInfo) (ht : P.underlying t = some (.slice e)) (hi : P.info? e = some i) {a : Option Addr} {n cap : Nat} (ha : a = none → n = 0) (hc : n ≤ cap) :
    (Builtin.append_ #[t, t] ty #[.slice a n cap, .slice none 0 0]).run P w = .ok (.slice a n cap) w := by
  cases a with
  | none => 
    obtain rfl := ha rfl
    simp [Builtin.append_, run_underlying ht, sizeOf, typeInfo, hi, Builtin.lenOf, Builtin.firstCells]
  | some ad => simp [Builtin.append_, run_underlying ht, sizeOf, typeInfo, hi, Builtin.lenOf, Builtin.firstCells, hc, storeCells]

theorem run_pushAllS {α : Type} {P : Program} (w : World) (t ty : TypeId) {e : TypeId} {z : Value} {sz bytes : Nat} (E : Elem P t e z sz bytes)
    (base : Nat) {v : Value} (f : α → List Value) (hf : ∀ x, (f x).length = sz) (h1 : ∀ x u, u ∈ f x → u.oneCell' = true) {xs ys : List α} (hown : OwS f sz w base v xs)
    {u : Value} (hsl : SlS f sz w u ys)
    (hlen : (xs.length + ys.length) * bytes ≤ 140737488355328) (hm : xs.length + ys.length ≤ 140737488355328) (hbase : base ≤ w.heap.size) :
    ∃ v' w', (Builtin.append_ #[t, t] ty #[v, u]).run P w = .ok v' w' ∧ OwS f sz w' base v' (xs ++ ys) ∧ w.grownBy w' v.ownBlock ∧ (v'.ownBlock = v.ownBlock ∨ ∃ g, v'.ownBlock = some g ∧ w.heap.size ≤ g) := by
  obtain ⟨hu, hinfo, hzs, hsz⟩ := E
  obtain ⟨i, hi, hz0, hz1, hz2⟩ := info_parts hinfo
  by_cases hys : ys = []
  · subst hys
    obtain ⟨ao, cap', rfl, hm', hn, hcc⟩ := hsl
    simp only [List.append_nil]
    cases ao with
    | none =>
      obtain rfl : cap' = 0 := hn.1 rfl
      refine ⟨v, w, ?_, hown, World.grownBy.refl _ _, .inl rfl⟩
      rcases hown with ⟨rfl, rfl⟩ | ⟨g, off, cap, rfl, hb, hlt, hcap, hsp, hel⟩
      · exact run_append_none_own t ty e i hu hi (fun _ => rfl) (Nat.le_refl _)
      · exact run_append_none_own t ty e i hu hi (fun h => by cases h) hcap
    | some ad =>
      rcases hown with ⟨rfl, rfl⟩ | ⟨g, off, cap, rfl, hb, hlt, hcap, hsp, hel⟩
      · obtain ⟨v', w', hrun, hr, hg, hnil⟩ := run_append_own (P := P) w w.heap.size t ty e i z sz bytes hu hi hz0 hz1 hz2 hzs hsz (.slice none 0 0) 0 [] (World.ownsRow_nil w _ e sz) ad 0 cap' [] (by simp) (fun j u h => by simp at h) (fun u h => by simp at h) (by unfold maxLen; omega) (by omega) (Nat.le_refl _)
        obtain rfl := hnil.2 ⟨rfl, rfl⟩
        refine ⟨_, w', hrun, .inl ⟨rfl, rfl⟩, hg, .inl rfl⟩
      · have hrun := run_append_room_cells (P := P) w t ty e i hu hi g off xs.length cap ad 0 cap' [] (by simp) (fun j u h => by simp at h) (fun u h => by simp at h) (by omega) (fun j hj => by simp at hj) (fun j hj => by simp at hj)
        exact ⟨_, _, hrun, .inr ⟨g, off, cap, rfl, hb, hlt, hcap, hsp, hel⟩, World.grownBy.refl _ _, .inl rfl⟩
  have hpos : 0 < ys.length := by cases ys with | nil => exact absurd rfl hys | cons y l => simp
  obtain ⟨ao, cap', rfl, hm', hn, hcc⟩ := hsl
  obtain ⟨y0, hy0⟩ := get_of_lt hpos
  obtain ⟨b0, off0, rfl, _, _⟩ := hcc 0 y0 hy0
  have hfl := flat_len hf ys
  have h1' : ∀ u ∈ ys.flatMap f, u.oneCell' = true := fun u hu => by obtain ⟨y, _, hy⟩ := List.mem_flatMap.1 hu; exact h1 y u hy
  have hc : ∀ j u, (ys.flatMap f)[j]? = some u → w.cell? ((⟨b0, off0, none⟩ : Addr).add j) = some u :=
    flat_cells (f := f) hf hsz (p := fun k u => w.cell? ((⟨b0, off0, none⟩ : Addr).add k) = some u) fun j y hy i' u hu' => by
      obtain ⟨b, off, hb, _, hcell⟩ := hcc j y hy
      cases hb
      rw [addr_add]; exact hcell i' u hu'
  have hidx : ∀ {cs : List Value}, cs.length = xs.length * sz → (∀ j x, xs[j]? = some x → ∀ i u, (f x)[i]? = some u → cs[j * sz + i]? = some u) →
      ∀ j x, (xs ++ ys)[j]? = some x → ∀ i u, (f x)[i]? = some u → (cs ++ ys.flatMap f)[j * sz + i]? = some u := fun {cs} hcs hold j x' hx' p u hu' => by
    rcases Nat.lt_or_ge j xs.length with hlt | hge
    · rw [List.getElem?_append_left hlt] at hx'
      have h2 := hold j x' hx' p u hu'
      rw [List.getElem?_append_left (List.getElem?_eq_some_iff.1 h2).1]; exact h2
    · rw [List.getElem?_append_right hge] at hx'
      have hle := Nat.mul_le_mul_right sz hge
      rw [List.getElem?_append_right (by omega), hcs, show j * sz + p - xs.length * sz = (j - xs.length) * sz + p by rw [Nat.sub_mul]; omega]
      exact flat_get hf ys _ _ hx' _ _ hu'
  have hol := flat_len hf xs
  have hoc := flat_get (f := f) hf xs
  rcases hown with ⟨rfl, rfl⟩ | ⟨g, off, cap, rfl, hb, hlt, hcap, hsp, hel⟩
  · obtain ⟨v', w', hrun, hr, hg, _⟩ := run_append_own (P := P) w w.heap.size t ty e i z sz bytes hu hi hz0 hz1 hz2 hzs hsz (.slice none 0 0) 0 [] (World.ownsRow_nil w _ e sz) ⟨b0, off0, none⟩ ys.length cap' (ys.flatMap f) hfl hc h1' (by unfold maxLen; simp at hm; omega) (by simpa using hlen) (Nat.le_refl _)
    have ho' : OwS f sz w' w.heap.size v' ([] ++ ys) := OwS.of_row hr (by simp) (hidx (by simp) (fun j x hx => by simp at hx))
    refine ⟨v', w', hrun, ho'.mono hbase, hg, ?_⟩
    right
    rcases ho' with ⟨_, h2⟩ | ⟨g, o', c', rfl, hb', _⟩
    · simp at h2; exact absurd h2 hys
    · exact ⟨g, rfl, hb'⟩
  · have hcells : ∀ j u, (xs.flatMap f)[j]? = some u → w.cell? ⟨g, off + j, none⟩ = some u :=
      flat_cells (f := f) hf hsz (p := fun k u => w.cell? ⟨g, off + k, none⟩ = some u) fun j x hx i' u hu' => hel j x hx i' u hu'
    have hspare : xs.length + ys.length ≤ cap → ∀ j, j < (ys.flatMap f).length → (w.cell? ⟨g, off + xs.length * sz + j, none⟩).isSome = true ∧ w.frozen? ⟨g, off + xs.length * sz + j, none⟩ = false := by
      intro hr j hj
      rw [hfl] at hj
      have : xs.length * sz + j < cap * sz := by
        have := Nat.mul_le_mul_right sz hr
        rw [Nat.add_mul] at this; omega
      have := hsp (xs.length * sz + j) this
      rw [Nat.add_assoc]; exact this
    by_cases hr : xs.length + ys.length ≤ cap
    · have hrun := run_append_room_cells (P := P) w t ty e i hu hi g off xs.length cap ⟨b0, off0, none⟩ ys.length cap' (ys.flatMap f) (by rw [hfl, hz1]) hc h1' hr (fun j hj => by rw [hz1]; exact (hspare hr j hj).1) (fun j hj => by rw [hz1]; exact (hspare hr j hj).2)
      rw [hz1] at hrun
      have hspn : ∀ j, j < (ys.flatMap f).length → (w.cell? ⟨g, off + xs.length * sz + j, none⟩).isSome = true := fun j hj => (hspare hr j hj).1
      refine ⟨_, _, hrun, .inr ⟨g, off, cap, by simp, hb, ?_, by simpa using hr, fun j hj => ?_, fun j x' hx' p u hu' => ?_⟩, ⟨?_, ?_, ?_, ?_, ?_⟩, .inl rfl⟩
      · rw [size_setCells]; exact hlt
      · rw [World.frozen?_setCells]
        refine ⟨?_, (hsp j hj).2⟩
        by_cases hin : xs.length * sz ≤ j ∧ j < xs.length * sz + (ys.flatMap f).length
        · have := World.cell?_setCells_in g (ys.flatMap f) (off + xs.length * sz) w hspn (j - xs.length * sz) (by omega)
          rw [show off + xs.length * sz + (j - xs.length * sz) = off + j by omega] at this
          rw [this]; rfl
        · rw [World.cell?_setCells_out g (ys.flatMap f) (off + xs.length * sz) w ⟨g, off + j, none⟩ (fun _ _ => by show off + j < _ ∨ _ ≤ off + j; omega)]
          exact (hsp j hj).1
      · have hp : p < sz := by have := (List.getElem?_eq_some_iff.1 hu').1; rw [hf] at this; exact this
        rcases Nat.lt_or_ge j xs.length with hjl | hge
        · rw [List.getElem?_append_left hjl] at hx'
          have h3 : j * sz + p < xs.length * sz := by
            have := Nat.mul_le_mul_right sz (show j + 1 ≤ xs.length from hjl)
            rw [Nat.add_mul] at this; omega
          rw [World.cell?_setCells_out g (ys.flatMap f) (off + xs.length * sz) w _ (fun _ _ => by left; show off + (j * sz + p) < _; omega)]
          exact hel j x' hx' p u hu'
        · rw [List.getElem?_append_right hge] at hx'
          have hq := flat_get hf ys _ _ hx' _ _ hu'
          have hql := (List.getElem?_eq_some_iff.1 hq).1
          have hle := Nat.mul_le_mul_right sz hge
          have := World.cell?_setCells_in g (ys.flatMap f) (off + xs.length * sz) w hspn ((j - xs.length) * sz + p) hql
          rw [show off + (j * sz + p) = off + xs.length * sz + ((j - xs.length) * sz + p) by rw [Nat.sub_mul]; omega, this]
          rw [List.getElem?_eq_getElem hql] at hq; exact hq
      · exact os_setCells _ _ _ _
      · exact tape_setCells _ _ _ _
      · exact output_setCells _ _ _ _
      · rw [size_setCells]; exact Nat.le_refl _
      · intro k hk hne
        exact block_setCells _ _ _ _ _ (fun e => hne (by simp [Value.ownBlock, e]))
    · obtain ⟨v', w', hrun, hrow, hg⟩ := run_append_arg_grows (P := P) w t ty e i z sz bytes hu hi hz0 hz1 hz2 hzs hsz ⟨g, off, none⟩ xs.length cap (xs.flatMap f) hol (fun j u hj => by rw [Addr.add_lit]; exact hcells j u hj) ⟨b0, off0, none⟩ ys.length cap' (ys.flatMap f) hfl hc (by omega) (by unfold maxLen; omega) hlen
      have ho' : OwS f sz w' w.heap.size v' (xs ++ ys) := OwS.of_row hrow (by simp) (hidx hol hoc)
      refine ⟨v', w', hrun, ho'.mono hbase, ⟨hg.os, hg.tape, hg.output, hg.size, fun k hk _ => hg.block k hk (by simp)⟩, ?_⟩
      right
      rcases ho' with ⟨_, h2⟩ | ⟨g', o', c', rfl, hb', _⟩
      · simp at h2; exact absurd h2.2 hys
      · exact ⟨g', rfl, hb'⟩

section
variable {P : Program} {c : Cx} {m : List (Nat × Value)} {l l' : List Hp} {o : Oper} {x y z : Operand} {v u u' : Value} {T T' S : TypeId}
/-- a slice made without elements: an own one -/
theorem eff_buildNil {α : Type} {f : α → List Value} {e : TypeId} {sz : Nat} (ho : o.op = .buildSlice T 0 #[]) (hT : P.underlying T = some (.slice e))
    (hr : ∀ w : World, (Instr.buildSlice T 0 #[]).run P w = .ok (.slice (some ⟨w.heap.size, 0, none⟩) 0 0) (w.alloc (.cells #[] e))) :
    Eff P c m l o (fun v l'' => IsS v ∧ l'' = Hp.own f sz v ([] : List α) :: l) := Eff.of fun a w s H => by
  have hO : OwS f sz (w.alloc (.cells #[] e)) w.heap.size (.slice (some ⟨w.heap.size, 0, none⟩) 0 0) ([] : List α) := OwS.of_row (row_made w e sz) rfl (fun j x hx => by simp at hx)
  refine ⟨.slice (some ⟨w.heap.size, 0, none⟩) 0 0, w.alloc (.cells #[] e), ?_, _, ⟨⟨_, _, _, rfl⟩, rfl⟩, H.newOwn hO⟩
  simp [execOp, ho, hr, Result.andThen]
/-- 'append(own, src...)' -/
theorem eff_pushAll {α : Type} {f : α → List Value} {e : TypeId} {zv : Value} {sz bytes k : Nat} {xs ys : List α} (ho : o.op = .call { callee := .builtin .append, args := #[x, y], argTypes := #[T, T] }) (E : Elem P T e zv sz bytes) (hf : ∀ x, (f x).length = sz) (h1 : ∀ x u, u ∈ f x → u.oneCell' = true)
    (hx : evo m x = some v) (hy : evo m y = some u) (hu : ∀ w, Sat c.W w (sep l) → SlS f sz w u ys) (hk : l[k]? = some (Hp.own f sz v xs)) (hb : (xs.length + ys.length) * bytes ≤ 140737488355328) (hm : xs.length + ys.length ≤ 140737488355328) :
    Eff P c m l o (fun v' l'' => IsS v' ∧ l'' = l.set k (Hp.own f sz v' (xs ++ ys))) := Eff.of fun a w s H => by
  have H1 := H.at_ hk
  obtain ⟨v', w', hrun, q1, q2, q3⟩ := run_pushAllS w T o.type E c.W.heap.size f hf h1 H1.ows (hu w H) hb hm H.size
  refine ⟨v', w', by simp [execOp, ho, resolve, invoke, builtin, s.ev hx, s.ev hy, hrun, Result.andThen], _, ⟨?_, rfl⟩, ?_⟩
  · rcases q1 with ⟨rfl, _⟩ | ⟨g, o', c', rfl, _⟩
    · exact ⟨_, _, _, rfl⟩
    · exact ⟨_, _, _, rfl⟩
  · exact (H1.reown q1 q2 q3).back hk rfl
end
end Go.Proofs.Ytfpkfbffpkjgbaa

/- Arguments opened to what they read as: slices of slices, whose data meet a test. Over any program. No condition. -/
namespace Go.Proofs.Ytfpkfbffpkjgbaa
open Go.ChangeShapes Go.WideShapes Go.ChangeAt Go.RowKit Go.Deep

section
variable {H : Type} {enc : TypeId × Value → H} {P : Program} {w : World}
theorem sls_ofQ {α : Type} (Q : DataW H → Prop) (f : α → List Value) (G : α → Prop) {T E : TypeId} {sz : Nat} {a : Option Addr} {len cap : Nat} {d : DataW H} {p : List MemPlace} (ht : P.underlying T = some (.slice E)) (hC : P.cellsOf E = sz) (h0 : 0 < sz)
    (hread : ∀ n cs y, DataW.trod enc P w 0 (fun _ => true) true n E cs = some y → Q y.1 → ∃ x, cs = f x ∧ G x) (hQ : ∀ elems spare, d = .slice elems spare → ∀ e ∈ elems, Q e)
    (h : DataW.Trod enc P w 0 (fun _ => true) true T (.slice a len cap) d p) (hsz : len ≤ 140737488355328) : ∃ xs, SlS f sz w (.slice a len cap) xs ∧ ∀ x ∈ xs, G x := by
  obtain ⟨fuel, hf⟩ := h
  rcases open_slice ht hf with ⟨hcs, _⟩ | ⟨x, l, c, m, n, D, Pl, hcs, _, hl, hm, hmm, hx9, hc⟩
  · simp [Value.cells] at hcs
    obtain ⟨rfl, rfl, rfl⟩ := hcs
    exact ⟨[], ⟨none, 0, rfl, Nat.zero_le _, ⟨fun _ => rfl, Nat.le_refl _⟩, fun j x hx => by simp at hx⟩, fun x hx => by cases hx⟩
  · simp [Value.cells] at hcs
    obtain ⟨rfl, rfl, rfl⟩ := hcs
    simp only [Prod.mk.injEq] at hx9
    have hq : ∀ i, i < len → Q (D i) := fun i hi => hQ _ _ hx9.1 _ (List.mem_map.2 ⟨i, List.mem_range.2 hi, rfl⟩)
    simp only [if_true] at hmm
    subst hmm
    rw [hC] at hc
    obtain ⟨xs, hlen, hx⟩ := list_of (Q := fun i y => (∀ j, j < sz → w.cell? ((x.add (i * sz)).add j) = (f y)[j]?) ∧ (f y).length = sz ∧ G y) len (fun i hi => by
      obtain ⟨cs', h1, h2⟩ := hc i (by omega)
      obtain ⟨y, hy, hg⟩ := hread n _ _ h2 (hq i hi)
      subst hy
      obtain ⟨q1, q2, q3⟩ := World.cells?_some h1
      exact ⟨y, q3, q2, hg⟩)
    subst hlen
    refine ⟨xs, ⟨_, _, rfl, hsz, ⟨(fun h => by cases h), by simpa using hl⟩, fun j y hy => ?_⟩, fun y hy => ?_⟩
    · obtain ⟨hcell, hfl, _⟩ := hx j y hy
      obtain ⟨b, off, spot⟩ := x
      have hlen0 : 0 < xs.length := by have := (List.getElem?_eq_some_iff.1 hy).1; omega
      obtain ⟨y0, hy0⟩ := get_of_lt hlen0
      obtain ⟨hcell0, hfl0, _⟩ := hx 0 y0 hy0
      have hc0 := hcell0 0 h0
      rw [List.getElem?_eq_getElem (by omega)] at hc0
      have hspot : spot = none := by
        have := World.cell?_spot hc0
        simpa [Addr.add] using this
      subst hspot
      have hlt : b < w.heap.size := by
        have := World.block_lt_of_cell? w _ hc0
        simpa [Addr.add] using this
      refine ⟨b, off, rfl, hlt, fun i u hu => ?_⟩
      have hi : i < sz := by have := (List.getElem?_eq_some_iff.1 hu).1; omega
      have := hcell i hi
      rw [add_lit', add_lit', hu, Nat.add_assoc] at this
      exact this
    · obtain ⟨i, hi, he⟩ := List.mem_iff_getElem.1 hy
      exact (hx i y (by rw [← he]; exact List.getElem?_eq_getElem hi)).2.2

/-- how many elements the data of a slice has -/
theorem len_of {T E : TypeId} {a : Option Addr} {len cap : Nat} {d : DataW H} {p : List MemPlace} (ht : P.underlying T = some (.slice E)) (h : DataW.Trod enc P w 0 (fun _ => true) true T (.slice a len cap) d p) : len = 0 ∨ ∃ elems spare, d = .slice elems spare ∧ elems.length = len := by
  obtain ⟨fuel, hf⟩ := h
  rcases open_slice ht hf with ⟨hcs, _⟩ | ⟨x, l, c, m, n, D, Pl, hcs, _, hl, hm, hmm, hx9, hc⟩
  · simp [Value.cells] at hcs
    exact .inl hcs.2.1
  · simp [Value.cells] at hcs
    obtain ⟨rfl, rfl, rfl⟩ := hcs
    simp only [Prod.mk.injEq] at hx9
    exact .inr ⟨_, _, hx9.1, by rw [List.length_map, List.length_range]⟩
/-- an element that is a slice -/
theorem elem_slice {n : Nat} {T E : TypeId} {cs : List Value} {y : DataW H × List MemPlace} (ht : P.underlying T = some (.slice E)) (h : DataW.trod enc P w 0 (fun _ => true) true n T cs = some y) :
    ∃ a len cap, cs = [.slice a len cap] ∧ DataW.Trod enc P w 0 (fun _ => true) true T (.slice a len cap) y.1 y.2 := by
  rcases open_slice ht h with ⟨hcs, hx⟩ | ⟨x, l, c, m, n', D, Pl, hcs, _⟩
  · exact ⟨none, 0, 0, hcs, n, by rw [hcs] at h; simpa [Value.cells] using h⟩
  · exact ⟨some x, l, c, hcs, n, by rw [hcs] at h; simpa [Value.cells] using h⟩
end
end Go.Proofs.Ytfpkfbffpkjgbaa

/- Keys of two or three small numbers; m[k] op= x; ranges over maps. Over any program. No condition. -/
namespace Go.Proofs.Ytfpkfbffpkjgbaa
open Go.RowKit Go.ChangeMaps Go.WideShapes Go.MapKept
open Go.WideElems (Fit rd rg rd_key rd_val rg_of rd_mk)
open Go.Maps (Keyed)
set_option linter.unusedVariables false

/-! ### keys -/
abbrev Sm := Fin 2048
theorem bytesLE_len : ∀ (w n : Nat), (bytesLE w n).length = w
  | 0, _ => rfl
  | w + 1, n => by simp [bytesLE, bytesLE_len w]
theorem bytesBE_len (w n : Nat) : (bytesBE w n).length = w := by simp [bytesBE, bytesLE_len]
theorem bytesLE_inj : ∀ (w n m : Nat), bytesLE w n = bytesLE w m → n % 256 ^ w = m % 256 ^ w
  | 0, n, m, _ => by simp [Nat.mod_one]
  | w + 1, n, m, h => by
    simp only [bytesLE, List.cons.injEq] at h
    have h1 : n % 256 = m % 256 := by
      have := congrArg UInt8.toNat h.1
      simpa using this
    have h2 := bytesLE_inj w _ _ h.2
    rw [Nat.pow_succ, Nat.mul_comm, Nat.mod_mul, Nat.mod_mul, h1, h2]
theorem keyByte_inj {a b : Sm} (h : bytesBE 8 (((a.val : Int) % 2 ^ 64).toNat) = bytesBE 8 (((b.val : Int) % 2 ^ 64).toNat)) : a = b := by
  unfold bytesBE at h
  have h1 := bytesLE_inj 8 _ _ (List.reverse_inj.1 h)
  have ha := a.isLt
  have hb := b.isLt
  have ea : ((a.val : Int) % 2 ^ 64).toNat = a.val := by omega
  have eb : ((b.val : Int) % 2 ^ 64).toNat = b.val := by omega
  rw [ea, eb] at h1
  exact Fin.ext (by omega)
def oneB (a : Sm) : List UInt8 := Lit.keyBytes (.int .i64 (a.val : Int))
theorem oneB_len (a : Sm) : (oneB a).length = 8 := bytesBE_len _ _
theorem oneB_inj {a b : Sm} (h : oneB a = oneB b) : a = b := keyByte_inj h
abbrev pairV (p : Sm × Sm) : Value := .agg #[.int .i64 (p.1.val : Int), .int .i64 (p.2.val : Int)]
def pairL (p : Sm × Sm) : Lit := .string (keyBytes [.int .i64 (p.1.val : Int), .int .i64 (p.2.val : Int)])
theorem pairL_inj (p q : Sm × Sm) (h : pairL p = pairL q) : p = q := by
  unfold pairL keyBytes at h
  simp only [List.flatMap_cons, List.flatMap_nil, List.append_nil, Lit.string.injEq] at h
  obtain ⟨h1, h2⟩ := List.append_inj h (by rw [show (Lit.keyBytes _).length = 8 from oneB_len p.1, show (Lit.keyBytes _).length = 8 from oneB_len q.1])
  exact Prod.ext (oneB_inj h1) (oneB_inj h2)
abbrev tripV (p : Sm × Sm × Sm) : Value := .agg #[.int .i64 (p.1.val : Int), .int .i64 (p.2.1.val : Int), .int .i64 (p.2.2.val : Int)]
def tripL (p : Sm × Sm × Sm) : Lit := .string (keyBytes [.int .i64 (p.1.val : Int), .int .i64 (p.2.1.val : Int), .int .i64 (p.2.2.val : Int)])
theorem tripL_inj (p q : Sm × Sm × Sm) (h : tripL p = tripL q) : p = q := by
  unfold tripL keyBytes at h
  simp only [List.flatMap_cons, List.flatMap_nil, List.append_nil, Lit.string.injEq] at h
  obtain ⟨h1, h2⟩ := List.append_inj h (by rw [show (Lit.keyBytes _).length = 8 from oneB_len p.1, show (Lit.keyBytes _).length = 8 from oneB_len q.1])
  obtain ⟨h3, h4⟩ := List.append_inj h2 (by rw [show (Lit.keyBytes _).length = 8 from oneB_len p.2.1, show (Lit.keyBytes _).length = 8 from oneB_len q.2.1])
  exact Prod.ext (oneB_inj h1) (Prod.ext (oneB_inj h3) (oneB_inj h4))
theorem sm_wf (a : Sm) : (Lit.int .i64 (a.val : Int)).wf = true := by
  have := a.isLt
  simp [Lit.wf]
  exact ⟨(by omega : (-9223372036854775808 : Int) ≤ _), (by omega : _ ≤ (9223372036854775807 : Int))⟩
theorem pairT {P : Program} {k : TypeId} (K : Keyed P k) (h : ∀ p, keyOf P k (pairV p) = some (pairL p)) : KeyT P k pairV pairL (fun _ => True) := ⟨K, fun p _ => h p, pairL_inj⟩
theorem tripT {P : Program} {k : TypeId} (K : Keyed P k) (h : ∀ p, keyOf P k (tripV p) = some (tripL p)) : KeyT P k tripV tripL (fun _ => True) := ⟨K, fun p _ => h p, tripL_inj⟩
theorem pairK (p : Sm × Sm) : WideAt.IsKeyLit (pairL p) := trivial
theorem tripK (p : Sm × Sm × Sm) : WideAt.IsKeyLit (tripL p) := trivial

/-! ### m[k] op= x -/
section
variable {α β : Type} {P : Program} {k : TypeId} {kl : α → Lit} {vf : β → Value} {kf : α → Value} {ok : α → Prop} {W w w' : World} {R : Hp} {b : Nat} {ms : List (α × β)} [DecidableEq α]

theorem putM_same {a : α} {x : β} : ∀ {ms : List (α × β)}, getM ms a = some x → putM ms a x = ms
  | [], h => by simp [getM] at h
  | (c, y) :: ms, h => by
    by_cases e : c = a
    · subst e; simp [getM] at h; subst h; simp [putM]
    · simp [getM, e] at h; simp [putM, e, putM_same h]

theorem putM_twice {a : α} {x y : β} : ∀ {ms : List (α × β)}, putM (putM ms a x) a y = putM ms a y
  | [] => by simp [putM]
  | (c, z) :: ms => by
    by_cases e : c = a
    · subst e; simp [putM]
    · simp [putM, e, putM_twice (ms := ms)]
/-- a map, and the stamp of an entry of it -/
def isMapE (P : Program) (k : TypeId) (kl : α → Lit) (vf : β → Value) (kf : α → Value) (ms : List (α × β)) (a : α) (s : Nat) (o : Obj) : Prop :=
  isMap P k kl vf ms o ∧ ∃ es clock e0, o = .map es clock ∧ e0 ∈ es.toList ∧ e0.key = kf a ∧ e0.born = s
def Hp.mapE (P : Program) (k : TypeId) (kl : α → Lit) (vf : β → Value) (kf : α → Value) (b : Nat) (ms : List (α × β)) (a : α) (s : Nat) : Hp := Hp.blk b (isMapE P k kl vf kf ms a s)

theorem nodup_get {γ δ : Type} {f : γ → δ} {l : List γ} (h : (l.map f).Nodup) {i j : Nat} {x y : γ} (hi : l[i]? = some x) (hj : l[j]? = some y) (e : f x = f y) : i = j := by
  have h1 : (l.map f)[i]? = some (f x) := by rw [List.getElem?_map, hi]; rfl
  have h2 : (l.map f)[j]? = some (f y) := by rw [List.getElem?_map, hj]; rfl
  obtain ⟨hi', e1⟩ := List.getElem?_eq_some_iff.1 h1
  obtain ⟨hj', e2⟩ := List.getElem?_eq_some_iff.1 h2
  exact (List.getElem_inj h).1 (by rw [e1, e2, e])

omit [DecidableEq α] in
theorem findIdx_born {es : Array MapEntry} {clock j : Nat} {e : MapEntry} (hs : Stamped es clock) (hj : es.toList[j]? = some e) : es.findIdx? (fun x => (x.born : Int) == (e.born : Int)) = some j := by
  have hj' : es[j]? = some e := by rw [Array.getElem?_toList] at hj; exact hj
  obtain ⟨hlt, he⟩ := Array.getElem?_eq_some_iff.1 hj'
  rw [Array.findIdx?_eq_some_iff_getElem]
  refine ⟨hlt, by simp [he], fun i hi => ?_⟩
  intro hc
  have hc' : es[i].born = e.born := by have := hc; simp at this; omega
  have := nodup_get hs.2.1 (i := i) (j := j) (x := es[i]) (y := e) (by rw [Array.getElem?_toList]; exact Array.getElem?_eq_getElem (by omega)) hj hc'
  omega

theorem Sat.entryM (H : Sat W w (Hp.map P k kl vf b ms * R)) (T : KeyT P k kf kl ok) (hkey : ∀ a : α, WideAt.IsKeyLit (kl a)) {t e : TypeId} (ht : P.underlying t = some (.map k e)) {z : Value} {z0 : β} (hz : (zeroValue e).run P w = .ok z w) (hz0 : z = vf z0) (hroom : ms.length < maxLen) {a : α} (ha : ok a) :
    ∃ w' : World, ∃ s : Nat, (Instr.mapEntry t (.map (some b)) (kf a)).run P w = .ok (.tuple #[vf ((getM ms a).getD z0), .int .i64 (s : Int)]) w' ∧ Sat W w' (Hp.mapE P k kl vf kf b (putM ms a ((getM ms a).getD z0)) a s * R) := by
  obtain ⟨_, o, ho, hm⟩ := H.blk
  have hn := hm.nodup T.keyed
  have hm0 := hm
  obtain ⟨es, clock, rfl, F, hp⟩ := hm
  rcases T.keyed.find w (T.key a ha) es.toList F.keys with ⟨h1, h2⟩ | ⟨j, e0, h1, h2, h3⟩
  · have hnone : getM ms a = none := getM_none.2 fun p hpm hpa => by
      have h4 : toE kl vf p ∈ es.toList.map (rg P k heldR) := hp.mem_iff.2 (List.mem_map.2 ⟨p, hpm, rfl⟩)
      obtain ⟨x, hx, hxe⟩ := List.mem_map.1 h4
      obtain ⟨y, hy⟩ := F.reads x hx
      have h5 := rd_key hy
      rw [rg_of hy] at hxe
      rw [hxe] at h5
      simp only [toE, hpa] at h5
      exact h2 x hx (T.keyed.inj h5 (T.key a ha))
    obtain ⟨w', hrun, hS, _⟩ := H.storeM T hkey ht hroom ha z0
    have hw' : w' = setBlock w b (.map (es.push ⟨kf a, vf z0, clock⟩) (clock + 1)) := by
      simp [Instr.mapUpdate, run_underlying ht, MapKept.run_getObj_map ho, T.keyed.check w false (T.key a ha), h1, MapKept.run_setObj_map _ ho, Result.andThen, setBlock] at hrun
      exact hrun.symm
    refine ⟨w', clock, ?_, ?_⟩
    · rw [hnone, hw']
      simp [Instr.mapEntry, run_underlying ht, MapKept.run_getObj_map ho, T.keyed.check w false (T.key a ha), h1, hz, hz0, MapKept.run_setObj_map _ ho, Result.andThen, setBlock, goInt]
    · rw [hnone]
      obtain ⟨hb, m, hm, h1', h2', hd, rfl, ⟨o1, ho1, rfl⟩, r⟩ := hS
      refine ⟨hb, _, hm, _, h2', hd, rfl, ⟨o1, ⟨ho1, es.push ⟨kf a, vf z0, clock⟩, clock + 1, ⟨kf a, vf z0, clock⟩, ?_, by simp, rfl, rfl⟩, rfl⟩, r⟩
      have := (hm b o1 (by simp [single])).2
      rw [hw'] at this
      rw [heap_setBlock_same ho] at this
      exact (Option.some.inj this).symm
  · have he0 : e0 ∈ es.toList := List.mem_of_getElem? h2
    obtain ⟨y, hy⟩ := F.reads e0 he0
    obtain ⟨zz, hzz, hzd⟩ := rd_val hy
    have h5 := rd_key hy
    rw [h3, T.key a ha] at h5
    cases hzz
    have h6 : rg P k heldR e0 = (kl a, .held e0.val) := by
      rw [rg_of hy]; exact Prod.ext (Option.some.inj h5).symm hzd
    have h7 : rg P k heldR e0 ∈ ms.map (toE kl vf) := hp.mem_iff.1 (List.mem_map.2 ⟨e0, he0, rfl⟩)
    rw [h6] at h7
    obtain ⟨⟨a', x⟩, hpm, hpe⟩ := List.mem_map.1 h7
    simp only [toE, Prod.mk.injEq] at hpe
    have ha' := T.inj _ _ hpe.1
    have hv : vf x = e0.val := by have := hpe.2; injection this
    subst ha'
    have hsome := getM_of hn hpm
    have hj : es[j]? = some e0 := by rw [Array.getElem?_toList] at h2; exact h2
    have hmod : es.modify j (fun e => { e with key := kf a' }) = es := by
      apply Array.ext_getElem?
      intro i
      rw [Array.getElem?_modify]
      split
      · rename_i e; subst e; rw [hj]; cases e0; simp only at h3; rw [← h3]; rfl
      · rfl
    refine ⟨setBlock w b (.map es clock), e0.born, ?_, ?_⟩
    · rw [hsome]
      have hkk : ((es[j]?).map (·.key)).getD (kf a') = kf a' := by rw [hj]; exact h3
      have hbb : ((es[j]?).map (·.born)).getD 0 = e0.born := by rw [hj]; rfl
      simp only [Instr.mapEntry, Sem.run_bind, run_underlying ht, MapKept.run_getObj_map ho, T.keyed.check w false (T.key a' ha), h1, Result.andThen, hkk, T.keyed.stays w (T.key a' ha), hmod, MapKept.run_setObj_map _ ho, hbb, goInt, Sem.run_pure, Option.getD_some, hv]
      rw [hj]; rfl
    · rw [hsome, Option.getD_some, putM_same hsome]
      have hg : w.grownBy (setBlock w b (.map es clock)) (some b) := ⟨rfl, rfl, rfl, by simp [setBlock], fun i _ hi => heap_setBlock_other ho _ (fun e => hi (by rw [e]))⟩
      exact H.blk_change hg fun o' ho' hm' => ⟨_, heap_setBlock_same ho _, hm0, es, clock, e0, rfl, he0, h3, rfl⟩

theorem Sat.entryStoreM {s : Nat} {a : α} (H : Sat W w (Hp.mapE P k kl vf kf b ms a s * R)) (T : KeyT P k kf kl ok) (hkey : ∀ a : α, WideAt.IsKeyLit (kl a)) {t e : TypeId} (ht : P.underlying t = some (.map k e)) (hroom : ms.length < maxLen) (ha : ok a) (x : β) :
    ∃ w', (Instr.entryStore t (.map (some b)) (.int .i64 (s : Int)) (vf x)).run P w = .ok () w' ∧ Sat W w' (Hp.map P k kl vf b (putM ms a x) * R) := by
  obtain ⟨_, o, ho, hm, es, clock, e0, rfl, he0, hk0, hb0⟩ := H.blk
  have H' : Sat W w (Hp.map P k kl vf b ms * R) := H.mono fun h ⟨o, ho, e⟩ => ⟨o, ho.1, e⟩
  obtain ⟨w', hrun, hS, _⟩ := H'.storeM T hkey ht hroom ha x
  obtain ⟨es', clock', heq, F, hp⟩ := hm
  cases heq
  refine ⟨w', ?_, hS⟩
  rcases T.keyed.find w (T.key a ha) es.toList F.keys with ⟨h1, h2⟩ | ⟨j, e1, h1, h2, h3⟩
  · exact absurd hk0 (h2 e0 he0)
  · obtain ⟨i, hi⟩ := List.getElem?_of_mem he0
    have hij := nodup_get F.stamped.2.2 hi h2 (hk0.trans h3.symm)
    subst hij
    rw [hi] at h2
    cases h2
    have hj : es[i]? = some e0 := by rw [Array.getElem?_toList] at hi; exact hi
    have hf := findIdx_born F.stamped hi
    rw [hb0] at hf
    have hmod : es.modify i (fun e => { e with key := kf a, val := vf x }) = es.modify i (fun e => { e with val := vf x }) := by
      apply Array.ext_getElem?
      intro q
      rw [Array.getElem?_modify, Array.getElem?_modify]
      split
      · rename_i e; subst e; rw [hj]; simp [hk0]
      · rfl
    simp [Instr.mapUpdate, run_underlying ht, MapKept.run_getObj_map ho, T.keyed.check w false (T.key a ha), h1, hj, hk0, T.keyed.stays w (T.key a ha), MapKept.run_setObj_map _ ho, Result.andThen, setBlock, hmod] at hrun
    simp [Instr.entryStore, MapKept.run_getObj_map ho, asInt, asIntOf, hf, MapKept.run_setObj_map _ ho, Result.andThen, setBlock]
    exact hrun
end
end Go.Proofs.Ytfpkfbffpkjgbaa

/- Statements that leave their order open, with changes that wait for each other only in part. Over any program. No condition. -/
namespace Go.Proofs.Ytfpkfbffpkjgbaa
open Go.RowKit
set_option linter.unusedVariables false

def dn (d : Done) (i : Nat) : Bool := (d i).isSome
def dv (d : Done) (i : Nat) : Value := (d i).getD undef
theorem dn_upd (d : Done) (i : Nat) (v : Value) (j : Nat) : dn (upd d i v) j = (Nat.beq j i || dn d j) := by
  unfold dn upd
  by_cases e : j = i
  · subst e; simp
  · rw [if_neg e, beq_no e]; rfl
theorem dv_upd (d : Done) (i : Nat) (v : Value) (j : Nat) : dv (upd d i v) j = cond (Nat.beq j i) v (dv d j) := by
  unfold dv upd
  by_cases e : j = i
  · subst e; simp
  · rw [if_neg e, beq_no e]; rfl
theorem dv_of {d : Done} {i : Nat} {v : Value} (h : d i = some v) : dv d i = v := by unfold dv; rw [h]; rfl
theorem dn_some {d : Done} {i : Nat} (h : dn d i = true) : d i = some (dv d i) := by
  unfold dn at h
  unfold dv
  cases e : d i with
  | none => rw [e] at h; cases h
  | some v => rfl

/-- which changes an operation waits for at once -/
def predB (ops : Array Oper) (el : List Nat) (i j : Nat) : Bool := match ops[i]? with
  | some o => o.after.any (fun e => Region.binds .any e && Nat.beq e.on j) && el.contains j
  | none => false
/-- what is done, has all done for which it waits -/
def Clo (ops : Array Oper) (el : List Nat) (d : Done) : Prop := ∀ i ∈ el, ∀ j, predB ops el i j = true → dn d i = true → dn d j = true
theorem Clo.pre {ops : Array Oper} {el : List Nat} {d : Done} (h : Clo ops el d) (i j : Nat) (hi : el.contains i = true) (hp : predB ops el i j = true) (hd : dn d i = true) : dn d j = true := h i (by simpa using hi) j hp hd
theorem Clo.not {ops : Array Oper} {el : List Nat} {d : Done} (h : Clo ops el d) (i j : Nat) (hi : el.contains i = true) (hp : predB ops el i j = true) (hd : dn d j = false) : dn d i = false := by
  cases e : dn d i
  · rfl
  · have := h.pre i j hi hp e; rw [hd] at this; cases this

/-- what is known once the operations that read are walked: the frame, with the changes' results put in -/
def predR (ops : Array Oper) (s i : Nat) : Bool := match ops[s]? with
  | some o => o.after.any fun e => Region.binds .any e && Nat.beq e.on i
  | none => false
structure Fr (c : Cx) (a : Act) (m : List (Nat × Value)) (ops : Array Oper) (el : List Nat) (d : Done) (nd : Nat → Bool) : Prop where
  slots : Slots c a m
  get : ∀ j t, el.contains j = true → nd j = true → dn d j = true → dstOf ops j = some t → a.tmps[t]? = some (dv d j)
theorem Fr.add {c : Cx} {a : Act} {m m' : List (Nat × Value)} {ops : Array Oper} {el : List Nat} {d : Done} {nd : Nat → Bool} (h : Fr c a m ops el d nd) (s : Slots c a m') (j : Nat) {t : Nat} (hj : el.contains j = true) (hn : nd j = true) (ht : dstOf ops j = some t) (hd : dn d j = true) {v : Value} (hv : dv d j = v) : Slots c a ((t, v) :: m') := by
  refine ⟨s.size, s.defers, fun q u hu => ?_⟩
  simp only [look] at hu
  by_cases e : t = q
  · subst e; simp at hu; subst hu; rw [← hv]; exact h.get j t hj hn hd ht
  · rw [beq_no e] at hu; exact s.get q u hu

def freshB (m : List (Nat × Value)) (ops : Array Oper) (el : List Nat) : Bool := el.all fun j => match dstOf ops j with
  | some t => (look m t).isNone
  | none => true

theorem putL_slots {c : Cx} {m : List (Nat × Value)} {ops : Array Oper} {d : Done} {a : Act} (s : Slots c a m) : ∀ (l : List Nat), (∀ j ∈ l, ∀ t, dstOf ops j = some t → look m t = none) → Slots c (putL ops a d l) m
  | [], _ => s
  | j :: l, h => by
    have ih := putL_slots (d := d) s l (fun i hi => h i (List.mem_cons_of_mem _ hi))
    simp only [putL]
    cases hj : d j with
    | none => exact ih
    | some v =>
      refine ⟨?_, ?_, fun t u hu => ?_⟩
      · have := ih.size
        cases e : dstOf ops j <;> simpa [Act.put, e] using this
      · have := ih.defers
        cases e : dstOf ops j <;> simpa [Act.put, e] using this
      · have := ih.get t u hu
        cases e : dstOf ops j with
        | none => simpa [Act.put, e] using this
        | some q =>
          have hne : q ≠ t := fun e' => by
            have := h j (by simp) q e
            rw [e', hu] at this; cases this
          simp only [Act.put, Array.getElem?_setIfInBounds, if_neg hne]
          exact this
theorem putL_get {c : Cx} {ops : Array Oper} {d : Done} {a : Act} (hu : Uniq ops) (ha : a.tmps.size = c.n) {j t : Nat} (hd : dn d j = true) (ht : dstOf ops j = some t) (hlt : t < c.n) : ∀ (l : List Nat), j ∈ l → (putL ops a d l).tmps[t]? = some (dv d j)
  | [], h => by cases h
  | i :: l, h => by
    simp only [putL]
    have hdj := dn_some hd
    by_cases e : i = j
    · subst e
      rw [hdj, ht]
      simp only [Act.put, Array.getElem?_setIfInBounds, if_true]
      rw [if_pos (by rw [putL_size, ha]; exact hlt)]
    · have hl : j ∈ l := by
        rcases List.mem_cons.1 h with h | h
        · exact absurd h.symm e
        · exact h
      have ih := putL_get hu ha hd ht hlt l hl
      cases hi : d i with
      | none => exact ih
      | some v =>
        cases hti : dstOf ops i with
        | none => simpa [Act.put] using ih
        | some q =>
          have hne : q ≠ t := fun e' => e (hu i j t (by rw [hti, e']) ht)
          simp only [Act.put, Array.getElem?_setIfInBounds, if_neg hne]
          exact ih

section
variable {P : Program} {c : Cx} {m : List (Nat × Value)} {l : List Hp} {ops : Array Oper} {Q : Exit → Act → World → Prop} {K : Act → World → Prop} {D : Nat → List Hp} {T : Act → Prop} {el : List Nat} {ct : Done → List Hp}

def Gp (P : Program) (c : Cx) (m : List (Nat × Value)) (ops : Array Oper) (D : Nat → List Hp) (T : Act → Prop) (ord : List Nat) : Prop := ∀ a, Slots c a m → pWalk P ops (fun i w => Sat c.W w (sep (D i))) T ord a
theorem Gp.val {i d : Nat} {rest : List Nat} {o : Oper} {v : Value} (ho : ops[i]? = some o) (hd : o.dst = some d) (hn : Nat.ble (d + 1) c.n = true) (hno : valued o.op = true) (hv : Val P c m (D i) o v) (h : Gp P c ((d, v) :: m) ops D T rest) : Gp P c m ops D T (i :: rest) := fun a s => by
  unfold pWalk
  simp only [ho]
  refine ⟨v, fun w H => ?_, h _ (by rw [hd]; exact s.put hn v)⟩
  have h1 := hv a w s H
  unfold Oper.quietAt at h1
  unfold EffAt
  have hne := noEnter (P := P) hno a.eval w
  generalize (execOp a.eval o).run P w = r at *
  cases r with
  | ok n w' =>
    cases n <;> simp only [Oper.quietUpon] at h1 <;> simp only [EffUpon]
    case value u => exact ⟨h1.2, h1.1⟩
    case skip => exact ⟨h1.2.symm, h1.1⟩
    case enter f args => exact absurd rfl (hne w' f args)
  | halt x w' => simp only [Oper.quietUpon] at h1

/-- what is to be shown of a change -/
def Fop (P : Program) (c : Cx) (m : List (Nat × Value)) (ops : Array Oper) (el : List Nat) (ct : Done → List Hp) (i : Nat) (o : Oper) : Prop :=
  ∀ d, Clo ops el d → dn d i = false → (∀ j, predB ops el i j = true → dn d j = true) → ∀ a w, Fr c a m ops el d (needs ops o) → Sat c.W w (sep (ct d)) → EffAt P o a w fun v w' => Sat c.W w' (sep (ct (upd d i v)))
def AllF (P : Program) (c : Cx) (m : List (Nat × Value)) (ops : Array Oper) (el : List Nat) (ct : Done → List Hp) : List Nat → Prop
  | [] => True
  | i :: r => (∃ o, ops[i]? = some o ∧ Fop P c m ops el ct i o) ∧ AllF P c m ops el ct r
theorem AllF.get : ∀ {r : List Nat} {i : Nat}, AllF P c m ops el ct r → i ∈ r → ∃ o, ops[i]? = some o ∧ Fop P c m ops el ct i o
  | [], _, _, h => by cases h
  | j :: r, i, ⟨h1, h2⟩, h => by
    rcases List.mem_cons.1 h with rfl | h
    · exact h1
    · exact h2.get h

def TF (P : Program) (c : Cx) (ops : Array Oper) (el : List Nat) (ct : Done → List Hp) (Q : Act → World → Prop) (a1 : Act) : Prop :=
  (∀ i ∈ el, ∀ o, ops[i]? = some o → ∀ d w, (Clo ops el d ∧ Sat c.W w (sep (ct d))) → d i = none → (∀ e ∈ o.after, Region.binds .any e = true → e.on ∈ el → (d e.on).isSome = true) → EffAt P o (putL ops a1 d (el.filter (needs ops o))) w fun v w' => Clo ops el (upd d i v) ∧ Sat c.W w' (sep (ct (upd d i v)))) ∧
  (∀ d w, (Clo ops el d ∧ Sat c.W w (sep (ct d))) → (∀ i ∈ el, (d i).isSome = true) → Q (putL ops a1 d el) w)

theorem Gp.done (hu : Uniq ops) (hf : freshB m ops el = true) (hlt : el.all (fun j => match dstOf ops j with | some t => Nat.ble (t + 1) c.n | none => true) = true) (h1 : AllF P c m ops el ct el)
    (h2 : ∀ d, Clo ops el d → (∀ i, el.contains i = true → dn d i = true) → ∀ a, Fr c a m ops el d (fun _ => true) → ∀ w, Sat c.W w (sep (ct d)) → K a w) : Gp P c m ops D (TF P c ops el ct K) [] := fun a s => by
  have hfr : ∀ j ∈ el, ∀ t, dstOf ops j = some t → look m t = none := fun j hj t ht => by
    have := List.all_eq_true.1 hf j hj
    simp only [ht] at this
    simpa using this
  have hlt' : ∀ j ∈ el, ∀ t, dstOf ops j = some t → t < c.n := fun j hj t ht => by
    have := List.all_eq_true.1 hlt j hj
    simp only [ht] at this
    exact Nat.le_of_ble_eq_true this
  refine ⟨fun i hi o ho d w ⟨hc, H⟩ hdi hpre => ?_, fun d w ⟨hc, H⟩ hall => ?_⟩
  · obtain ⟨o', ho', hF⟩ := h1.get hi
    rw [ho] at ho'
    cases ho'
    have hpre' : ∀ j, predB ops el i j = true → dn d j = true := fun j hp => by
      unfold predB at hp
      simp only [ho, Bool.and_eq_true] at hp
      obtain ⟨hp1, hp2⟩ := hp
      obtain ⟨k, hk, h7⟩ : ∃ (k : Nat) (hk : k < o.after.size), (Region.binds .any o.after[k] && Nat.beq o.after[k].on j) = true := by simpa using hp1
      simp only [Bool.and_eq_true] at h7
      have e7 := Nat.eq_of_beq_eq_true h7.2
      have := hpre _ (Array.getElem_mem hk) h7.1 (by rw [e7]; simpa using hp2)
      rw [e7] at this; exact this
    refine (hF d hc (by unfold dn; rw [hdi]; rfl) hpre' _ w ⟨putL_slots s _ (fun j hj => hfr j (List.mem_filter.1 hj).1), fun j t hj hn hd ht => ?_⟩ H).mono fun v w' hS => ⟨fun q hq j hp hdq => ?_, hS⟩
    · have hj' : j ∈ el := by simpa using hj
      exact putL_get hu s.size hd ht (hlt' j hj' t ht) _ (List.mem_filter.2 ⟨hj', hn⟩)
    · rw [dn_upd] at hdq ⊢
      by_cases e : q = i
      · subst e
        rw [hpre' j hp]; simp
      · rw [beq_no e] at hdq
        rw [hc q hq j hp (by simpa using hdq)]; simp
  · exact h2 d hc (fun i hi => by unfold dn; exact hall i (by simpa using hi)) _ ⟨putL_slots s _ hfr, fun j t hj _ hd ht => by
      have hj' : j ∈ el := by simpa using hj
      exact putL_get hu s.size hd ht (hlt' j hj' t ht) _ hj'⟩ w H

theorem uniq_of {ops : Array Oper} (h : ((List.range ops.size).all fun i => (List.range ops.size).all fun j => decide (i = j) || (dstOf ops i).isNone || (dstOf ops i != dstOf ops j)) = true) : Uniq ops := fun i j t hi hj => by
  have := List.all_eq_true.1 (List.all_eq_true.1 h i (List.mem_range.2 (dstOf_lt hi))) j (List.mem_range.2 (dstOf_lt hj))
  simpa [hi, hj] using this

theorem Gx.regionF {id : Nat} {ops : List Oper} (el ord : List Nat) (D : Nat → List Hp) (ct : Done → List Hp) (hm : P.follows .mixedOrders = true) (hB : regF .any ops.toArray el = true) (hord : ((List.range ops.toArray.size).filter fun i => !el.contains i) = ord) (h0 : l = ct (fun _ => none))
    (hD : ∀ i d w, Clo ops.toArray el d → (∀ s, el.contains s = true → predR ops.toArray s i = true → dn d s = false) → Sat c.W w (sep (ct d)) → Sat c.W w (sep (D i)))
    (h : Gp P c m ops.toArray D (TF P c ops.toArray el ct (Q .normal)) ord) : Gx c m l (Code.wp P (.region id ops.toArray true) Q) := fun a w s H => by
  refine wp_region_free el (fun i w => Sat c.W w (sep (D i))) (fun d w => Clo ops.toArray el d ∧ Sat c.W w (sep (ct d))) hm hB ⟨(fun i hi j _ hd => by cases hd), h0 ▸ H.drawn _⟩ (fun i d w ⟨hc, HS⟩ hp => hD i d w hc (fun s hs hps => ?_) HS) (by rw [hord]; exact h a s)
  have := hp s (by simpa using hs) (by
    unfold predR at hps
    split at hps
    · rename_i o ho
      rw [ho]
      simp only
      obtain ⟨k, hk, h7⟩ : ∃ (k : Nat) (hk : k < o.after.size), (Region.binds .any o.after[k] && Nat.beq o.after[k].on i) = true := by simpa using hps
      simp only [Bool.and_eq_true] at h7
      have e7 := Nat.eq_of_beq_eq_true h7.2
      simp only [Array.any_eq_true]
      exact ⟨k, hk, by simp [h7.1, e7]⟩
    · cases hps)
  unfold dn; rw [this]; rfl
end

theorem Eff.at_ {P : Program} {c : Cx} {m : List (Nat × Value)} {l : List Hp} {o : Oper} {a : Act} {w : World} {R : Value → List Hp → Prop} (s : Slots c a m) (H : Sat c.W w (sep l)) (h : Eff P c m l o R) : EffAt P o a w fun v w' => ∃ l', R v l' ∧ Sat c.W w' (sep l') := h a w s H
theorem Gx.use {c : Cx} {m : List (Nat × Value)} {l : List Hp} {K : Act → World → Prop} {a : Act} {w : World} (s : Slots c a m) (H : Sat c.W w (sep l)) (h : Gx c m l K) : K a w := h a w s H
theorem Sat.only {W w : World} {l : List Hp} (H : Sat W w (sep l)) {k : Nat} {p q : Hp} (e : l[k]? = some p) (hpq : p = q) : Sat W w (sep [q]) := by
  subst hpq
  have h1 := (H.at_ e).cast (Hp.mul_comm _ _)
  exact h1.drop.cast (Hp.mul_one _).symm
theorem Sat.noneL {W w : World} {A : Hp} (H : Sat W w A) : Sat W w (sep []) := Sat.drop (P := A) (H.cast (Hp.mul_one _).symm)
theorem sep_ones (n : Nat) (l : List Hp) : sep (l ++ List.replicate n 1) = sep l := by
  rw [sep_append]
  have : ∀ n : Nat, sep (List.replicate n 1) = 1 := fun n => by
    induction n with
    | zero => rfl
    | succ n ih => rw [List.replicate_succ, sep, ih, Hp.one_mul]
  rw [this, Hp.mul_one]
theorem Gx.ones {c : Cx} {m : List (Nat × Value)} {l : List Hp} {K : Act → World → Prop} (n : Nat) (h : Gx c m (l ++ List.replicate n 1) K) : Gx c m l K := fun a w s H => h a w s (H.cast (sep_ones n l).symm)
theorem Sat.factAt {W w : World} {l : List Hp} (H : Sat W w (sep l)) {k : Nat} {q : Hp} {p : Prop} (e : l[k]? = some q) (hq : q = Hp.pure p) : p := by
  subst hq; exact (H.at_ e).pure.1
theorem Sat.listed {W w : World} {l l' : List Hp} (H : Sat W w (sep l)) (e : l = l') : Sat W w (sep l') := e ▸ H

theorem sep_fill : ∀ (l : List Hp) (k : Nat) (q : Hp), l[k]? = some 1 → sep (l.set k q) = q * sep l
  | [], _, _, h => by simp at h
  | z :: l, 0, q, h => by
    simp at h; subst h
    show q * sep l = q * (1 * sep l)
    rw [Hp.one_mul]
  | z :: l, k + 1, q, h => by
    rw [List.set_cons_succ, sep, sep, sep_fill l k q (by simpa using h), Hp.mul_left_comm]
section
variable {P : Program} {c : Cx} {m : List (Nat × Value)} {l l' : List Hp} {K : Act → World → Prop} {o : Oper} {x y z : Operand} {T : TypeId}
theorem Gx.sepEq (e : sep l = sep l') (h : Gx c m l' K) : Gx c m l K := fun a w s H => h a w s (H.cast e)
theorem Gx.sat (f : ∀ w, Sat c.W w (sep l) → Sat c.W w (sep l')) (h : Gx c m l' K) : Gx c m l K := fun a w s H => h a w s (f w H)
theorem Gx.exists_ {α : Type} {l' : α → List Hp} (f : ∀ w, Sat c.W w (sep l) → ∃ x, Sat c.W w (sep (l' x))) (h : ∀ x, Gx c m (l' x) K) : Gx c m l K := fun a w s H => by
  obtain ⟨x, H'⟩ := f w H
  exact h x a w s H'
theorem Sat.at2 {W w : World} {l : List Hp} (H : Sat W w (sep l)) {k k' : Nat} {p q : Hp} (h : l[k]? = some p) (h' : (l.eraseIdx k)[k']? = some q) : Sat W w (p * (q * sep ((l.eraseIdx k).eraseIdx k'))) := (H.at_ h).cast (by rw [(sep_focus _ _ _ h').1])
theorem Sat.at3 {W w : World} {l : List Hp} (H : Sat W w (sep l)) {k k' k'' : Nat} {p q r : Hp} (h : l[k]? = some p) (h' : (l.eraseIdx k)[k']? = some q) (h'' : ((l.eraseIdx k).eraseIdx k')[k'']? = some r) : Sat W w (p * (q * (r * sep (((l.eraseIdx k).eraseIdx k').eraseIdx k'')))) := (H.at2 h h').cast (by rw [(sep_focus _ _ _ h'').1])
theorem Sat.frame1 {W w : World} {R : Hp} {p : Hp} (H : Sat W w (p * R)) : Sat W w (sep [p, R]) := H.cast (by show _ = p * (R * 1); rw [Hp.mul_one])
theorem Sat.frame2 {W w : World} {R : Hp} {p q : Hp} (H : Sat W w (p * (q * R))) : Sat W w (sep [p, q, R]) := H.cast (by show _ = p * (q * (R * 1)); rw [Hp.mul_one])
theorem Sat.frame3 {W w : World} {R : Hp} {p q r : Hp} (H : Sat W w (p * (q * (r * R)))) : Sat W w (sep [p, q, r, R]) := H.cast (by show _ = p * (q * (r * (R * 1))); rw [Hp.mul_one])
theorem Sat.frame4 {W w : World} {R : Hp} {p q r s : Hp} (H : Sat W w (p * (q * (r * (s * R))))) : Sat W w (sep [p, q, r, s, R]) := H.cast (by show _ = p * (q * (r * (s * (R * 1)))); rw [Hp.mul_one])
theorem sep1 (p R : Hp) : sep [p, R] = p * R := by show p * (R * 1) = _; rw [Hp.mul_one]
theorem sep2 (p q R : Hp) : sep [p, q, R] = p * (q * R) := by show p * (q * (R * 1)) = _; rw [Hp.mul_one]
theorem sep3 (p q r R : Hp) : sep [p, q, r, R] = p * (q * (r * R)) := by show p * (q * (r * (R * 1))) = _; rw [Hp.mul_one]
theorem sep4 (p q r s R : Hp) : sep [p, q, r, s, R] = p * (q * (r * (s * R))) := by show p * (q * (r * (s * (R * 1)))) = _; rw [Hp.mul_one]

def sN : Value → Nat | .tuple ⟨[_, .int _ s]⟩ => s.toNat | _ => 0
theorem eff_mapEntry {α β : Type} [DecidableEq α] {k' e : TypeId} {kl : α → Lit} {kf : α → Value} {ok : α → Prop} {vf : β → Value} {b k : Nat} {ms : List (α × β)} {i : α} {r z0 : β} {d : TypeDesc} {sz bytes : Nat} {zv : Value} (ho : o.op = .mapEntry T x y) (hT : P.underlying T = some (.map k' e)) (hE : Ty P e d sz bytes zv) (hz : zv = vf z0) (K : KeyT P k' kf kl ok) (hkey : ∀ a : α, WideAt.IsKeyLit (kl a))
    (hx : evo m x = some (.map (some b))) (hy : evo m y = some (kf i)) (hi : ok i) (hk : l[k]? = some (Hp.map P k' kl vf b ms)) (hroom : ms.length < maxLen) (hr : (getM ms i).getD z0 = r) : Eff P c m l o (fun v l'' => ∃ s : Nat, v = .tuple #[vf r, .int .i64 (s : Int)] ∧ l'' = l.set k (Hp.mapE P k' kl vf kf b (putM ms i r) i s)) := Eff.of fun a w s H => by
  subst hr
  obtain ⟨w', s', h1, h2⟩ := (H.at_ hk).entryM K hkey hT hE.zero hz hroom hi
  refine ⟨_, w', ?_, _, ⟨s', rfl, rfl⟩, Sat.back hk rfl h2⟩
  simp [execOp, ho, s.ev hx, s.ev hy, h1, Result.andThen]
theorem eff_entryStore {α β : Type} [DecidableEq α] {k' e : TypeId} {kl : α → Lit} {kf : α → Value} {ok : α → Prop} {vf : β → Value} {b k s' : Nat} {ms : List (α × β)} {i : α} {r : β} (ho : o.op = .entryStore T x y z) (hT : P.underlying T = some (.map k' e)) (K : KeyT P k' kf kl ok) (hkey : ∀ a : α, WideAt.IsKeyLit (kl a))
    (hx : evo m x = some (.map (some b))) (hy : evo m y = some (.int .i64 (s' : Int))) (hz : evo m z = some (vf r)) (hi : ok i) (hk : l[k]? = some (Hp.mapE P k' kl vf kf b ms i s')) (hroom : ms.length < maxLen) (hl : l.set k (Hp.map P k' kl vf b (putM ms i r)) = l') : Eff P c m l o (fun _ l'' => l'' = l') := Eff.ofSkip fun a w s H => by
  obtain ⟨w', h1, h2⟩ := (H.at_ hk).entryStoreM K hkey hT hroom hi r
  refine ⟨w', ?_, l', rfl, Sat.back hk hl h2⟩
  simp [execOp, ho, s.ev hx, s.ev hy, s.ev hz, h1, Result.andThen]
theorem val_lookup1E {α β : Type} [DecidableEq α] {k' e : TypeId} {kl : α → Lit} {kf : α → Value} {ok : α → Prop} {vf : β → Value} {b k s' : Nat} {ms : List (α × β)} {d : TypeDesc} {sz bytes : Nat} {zv : Value} {i j : α} {r : Value} (ho : o.op = .lookup T x y false) (hT : P.underlying T = some (.map k' e)) (K : KeyT P k' kf kl ok) (hE : Ty P e d sz bytes zv)
    (hx : evo m x = some (.map (some b))) (hy : evo m y = some (kf i)) (hi : ok i) (hk : l[k]? = some (Hp.mapE P k' kl vf kf b ms j s')) (hr : ((getM ms i).map vf).getD zv = r) : Val P c m l o r := Val.of fun a w s H => by
  have H1 := H.at_ hk
  have H' : Sat c.W w (Hp.map P k' kl vf b ms * sep (l.eraseIdx k)) := H1.mono fun h ⟨o, ho, e⟩ => ⟨o, ho.1, e⟩
  have h1 := H'.look K hT hE.zero hi false
  subst hr
  simp [execOp, ho, s.ev hx, s.ev hy, h1, Result.andThen]
  cases getM ms i <;> rfl
end
theorem Sat.fillAt {W w : World} {l : List Hp} {q : Hp} (H : Sat W w (q * sep l)) {k : Nat} (e : l[k]? = some 1) : Sat W w (sep (l.set k q)) := H.cast (sep_fill l k q e).symm
/-- an append whose source stays as nothing -/
theorem eff_pushP {P : Program} {c : Cx} {m : List (Nat × Value)} {l : List Hp} {o : Oper} {x y : Operand} {v : Value} {T : TypeId} {α : Type} {f : α → List Value} {e : TypeId} {zv : Value} {sz bytes k k' b : Nat} {xs : List α} {r : α} {vs : List Value} (ho : o.op = .call { callee := .builtin .append, args := #[x, y], argTypes := #[T, T] }) (E : Elem P T e zv sz bytes) (hf : ∀ x, (f x).length = sz) (h1 : ∀ x u, u ∈ f x → u.oneCell' = true)
    (hx : evo m x = some v) (hy : evo m y = some (.slice (some ⟨b, 0, none⟩) 1 1)) (hk : l[k]? = some (Hp.rec_ b vs)) (hr : f r = vs) (hk' : (l.set k 1)[k']? = some (Hp.own f sz v xs)) (hb : (xs.length + 1) * bytes ≤ 140737488355328) (hm : xs.length + 1 ≤ 140737488355328) :
    Eff P c m l o (fun v' l'' => IsS v' ∧ l'' = (l.set k 1).set k' (Hp.own f sz v' (xs ++ [r]))) := Eff.of fun a w s H => by
  subst hr
  have H1 := H.at_ hk
  have e1 : sep (l.eraseIdx k) = sep (l.set k 1) := by rw [(sep_focus l k _ hk).2 1, Hp.one_mul]
  have H2 : Sat c.W w (Hp.rec_ b (f r) * (Hp.own f sz v xs * sep ((l.set k 1).eraseIdx k'))) := H1.cast (by rw [e1, (sep_focus _ _ _ hk').1])
  obtain ⟨v', w', hrun, q1, q2⟩ := H2.pushRun T o.type E f hf h1 r b hb hm
  refine ⟨v', w', ?_, _, ⟨isS_own q1, rfl⟩, Sat.back hk' rfl q1⟩
  simp [execOp, ho, resolve, invoke, builtin, s.ev hx, s.ev hy, hrun, Result.andThen]
end Go.Proofs.Ytfpkfbffpkjgbaa

/- A guarded change in a chain. Over any program. No condition. -/
namespace Go.Proofs.Ytfpkfbffpkjgbaa
open Go.RowKit
set_option linter.unusedVariables false

theorem Sat.at4 {W w : World} {l : List Hp} (H : Sat W w (sep l)) {k k' k2 k3 : Nat} {p q r s : Hp} (h : l[k]? = some p) (h' : (l.eraseIdx k)[k']? = some q) (h'' : ((l.eraseIdx k).eraseIdx k')[k2]? = some r) (h3 : (((l.eraseIdx k).eraseIdx k').eraseIdx k2)[k3]? = some s) : Sat W w (p * (q * (r * (s * sep ((((l.eraseIdx k).eraseIdx k').eraseIdx k2).eraseIdx k3))))) := (H.at3 h h' h'').cast (by rw [(sep_focus _ _ _ h3).1])
theorem Gw.chgg {P : Program} {c : Cx} {m : List (Nat × Value)} {st : List Value → List Hp} {ops : Array Oper} {eff : Nat → Bool} {K : List Value → Act → World → Prop} {i : Nat} {rest : List Nat} {vs : List Value} {o : Oper} {d g s : Nat} {b : Bool} (ho : ops[i]? = some o) (hg : o.guard = some (g, b)) (hgo : (ops[g]?).bind (·.dst) = some s) (hs : look m s = some (.bool b)) (he : eff i = true) (hd : o.dst = some d) (hn : Nat.ble (d + 1) c.n = true) (R : Value → Prop) (hv : Eff P c m (st vs) o (fun v l' => R v ∧ sep l' = sep (st (vs ++ [v])))) (h : ∀ v, R v → Gw P c ((d, v) :: m) st ops eff K rest (vs ++ [v])) : Gw P c m st ops eff K (i :: rest) vs := fun a sl => by
  unfold gWalk
  have hw : Region.wanted o (yielded ops a.tmps) = true := by rw [wanted_slot sl hg hgo hs]; simp
  simp only [ho, hw, if_true, he]
  refine ⟨R, fun w H => (hv a w sl H).mono fun u w' ⟨l', ⟨hR, e⟩, H'⟩ => ⟨hR, H'.cast e⟩, fun u hR => h u hR _ (by rw [hd]; exact sl.put hn u)⟩
section
variable {P : Program} {c : Cx} {m : List (Nat × Value)} {l : List Hp} {o : Oper} {x y : Operand} {T T' : TypeId}
theorem cells_nil {b of : Nat} : Cells c l b of [] := fun w H i u hu => by simp at hu
theorem cells_cons {b of : Nat} {u : Value} {us : List Value} (h : Cell c l b of u) (t : Cells c l b (of + 1) us) : Cells c l b of (u :: us) := fun w H i u' hu => by
  cases i with
  | zero => cases hu; exact h w H
  | succ i => have := t w H i u' hu; rwa [show of + 1 + i = of + (i + 1) by omega] at this
theorem val_neqR {b' : Bool} {cs ds : Array Value} (ho : o.op = .binOp .neq T x y T') (hx : evo m x = some (.agg cs)) (hy : evo m y = some (.agg ds)) (hq : P.eqGuardType P.depth T = false) (hr : ∀ w, (Op.equal T (.agg cs) (.agg ds)).run P w = .ok b' w) : Val P c m l o (.bool (!b')) := Val.of fun a w s H => by
  simp [execOp, ho, s.ev hx, s.ev hy, eqGuard, binOp, hq, hr, Result.andThen]
theorem val_eqlR {b' : Bool} {cs ds : Array Value} (ho : o.op = .binOp .eql T x y T') (hx : evo m x = some (.agg cs)) (hy : evo m y = some (.agg ds)) (hq : P.eqGuardType P.depth T = false) (hr : ∀ w, (Op.equal T (.agg cs) (.agg ds)).run P w = .ok b' w) : Val P c m l o (.bool b') := Val.of fun a w s H => by
  simp [execOp, ho, s.ev hx, s.ev hy, eqGuard, binOp, hq, hr, Result.andThen]
end
end Go.Proofs.Ytfpkfbffpkjgbaa

/- Ranges over maps: a map and its iterator as one part. Over any program. No condition. -/
namespace Go.Proofs.Ytfpkfbffpkjgbaa
open Go.RowKit Go.ChangeMaps Go.WideShapes Go.MapKept
open Go.WideElems (Fit rd rg rd_key rd_val rg_of rd_mk)
open Go.Maps (Keyed)
set_option linter.unusedVariables false

section
variable {α β : Type} {P : Program} {k : TypeId} {kl : α → Lit} {vf : β → Value} {kf : α → Value} {ok : α → Prop} {W w w' : World} {R : Hp} {b r : Nat} {ms left : List (α × β)}

structure ItF (P : Program) (k : TypeId) (kl : α → Lit) (vf : β → Value) (ms left : List (α × β)) (es : Array MapEntry) (clock since c0 : Nat) (seen : Array Nat) : Prop where
  fit : Fit P k heldR es clock
  perm : (es.toList.map (rg P k heldR)).Perm (ms.map (toE kl vf))
  old : ∀ x ∈ es.toList, x.born < since
  le : since ≤ c0
  le' : since ≤ clock
  left : ((leftOf es seen).toList.map (rg P k heldR)).Perm (left.map (toE kl vf))
def Hp.iter (P : Program) (k : TypeId) (kl : α → Lit) (vf : β → Value) (b r : Nat) (ms left : List (α × β)) : Hp := fun h => ∃ (es : Array MapEntry) (clock since c0 : Nat) (seen : Array Nat), (Hp.blk b (· = .map es clock) * Hp.blk r (· = .mapIter (some b) since seen c0)) h ∧ ItF P k kl vf ms left es clock since c0 seen
def Hp.iterE (P : Program) (k : TypeId) (kl : α → Lit) (vf : β → Value) (kf : α → Value) (b r : Nat) (ms left : List (α × β)) (a : α) (x : β) : Hp := fun h => ∃ (es : Array MapEntry) (clock since : Nat) (seen : Array Nat) (e : MapEntry), (Hp.blk b (· = .map es clock) * Hp.blk r (· = .mapIter (some b) since (seen.push e.born) clock)) h ∧ ItF P k kl vf ms left es clock since clock (seen.push e.born) ∧ e ∈ es.toList ∧ e.key = kf a ∧ e.val = vf x

theorem Sat.iter (H : Sat W w (Hp.iter P k kl vf b r ms left * R)) : ∃ (es : Array MapEntry) (clock since c0 : Nat) (seen : Array Nat), Sat W w (Hp.blk b (· = .map es clock) * (Hp.blk r (· = .mapIter (some b) since seen c0) * R)) ∧ ItF P k kl vf ms left es clock since c0 seen := by
  obtain ⟨hb, m, hm, h1, h2, hd, e, ⟨es, clock, since, c0, seen, hst, hF⟩, r⟩ := H
  exact ⟨es, clock, since, c0, seen, Sat.assoc ⟨hb, m, hm, h1, h2, hd, e, hst, r⟩, hF⟩
theorem Sat.iterE {a : α} {x : β} (H : Sat W w (Hp.iterE P k kl vf kf b r ms left a x * R)) : ∃ (es : Array MapEntry) (clock since : Nat) (seen : Array Nat) (e : MapEntry), Sat W w (Hp.blk b (· = .map es clock) * (Hp.blk r (· = .mapIter (some b) since (seen.push e.born) clock) * R)) ∧ ItF P k kl vf ms left es clock since clock (seen.push e.born) ∧ e ∈ es.toList ∧ e.key = kf a ∧ e.val = vf x := by
  obtain ⟨hb, m, hm, h1, h2, hd, e, ⟨es, clock, since, seen, e0, hst, hF⟩, r⟩ := H
  exact ⟨es, clock, since, seen, e0, Sat.assoc ⟨hb, m, hm, h1, h2, hd, e, hst, r⟩, hF⟩
theorem Sat.iterI {es : Array MapEntry} {clock since c0 : Nat} {seen : Array Nat} (H : Sat W w (Hp.blk b (· = .map es clock) * (Hp.blk r (· = .mapIter (some b) since seen c0) * R))) (F : ItF P k kl vf ms left es clock since c0 seen) : Sat W w (Hp.iter P k kl vf b r ms left * R) :=
  (H.cast (Hp.mul_assoc _ _ _).symm).mono fun m h => ⟨es, clock, since, c0, seen, h, F⟩
theorem Sat.iterEI {a : α} {x : β} {es : Array MapEntry} {clock since : Nat} {seen : Array Nat} {e : MapEntry} (H : Sat W w (Hp.blk b (· = .map es clock) * (Hp.blk r (· = .mapIter (some b) since (seen.push e.born) clock) * R))) (F : ItF P k kl vf ms left es clock since clock (seen.push e.born)) (he : e ∈ es.toList) (hk : e.key = kf a) (hv : e.val = vf x) : Sat W w (Hp.iterE P k kl vf kf b r ms left a x * R) :=
  (H.cast (Hp.mul_assoc _ _ _).symm).mono fun m h => ⟨es, clock, since, seen, e, h, F, he, hk, hv⟩
theorem grown_self (w : World) (row : Option Nat) : w.grownBy w row := ⟨rfl, rfl, rfl, Nat.le_refl _, fun _ _ _ => rfl⟩

theorem filter_once {es : List MapEntry} {p : MapEntry → Bool} {e : MapEntry} (hn : (es.map (·.born)).Nodup) (he : e ∈ es) (hp : p e = true) : (es.filter p).Perm (e :: es.filter (fun x => p x && !(x.born == e.born))) := by
  induction es with
  | nil => cases he
  | cons y es ih =>
    rw [List.map_cons, List.nodup_cons] at hn
    cases he with
    | head =>
      rw [List.filter_cons_of_pos hp, List.filter_cons_of_neg (by simp)]
      refine List.Perm.cons _ (List.Perm.of_eq (List.filter_congr fun x hx => ?_))
      have : x.born ≠ e.born := fun h => hn.1 (List.mem_map.2 ⟨x, hx, h⟩)
      simp [this]
    | tail _ he =>
      have h1 : y.born ≠ e.born := fun h => hn.1 (List.mem_map.2 ⟨e, he, h.symm⟩)
      have h2 := ih hn.2 he
      cases hy : p y
      · rw [List.filter_cons_of_neg (by simp [hy]), List.filter_cons_of_neg (by simp [hy])]; exact h2
      · rw [List.filter_cons_of_pos hy, List.filter_cons_of_pos (by simp [hy, h1])]
        exact (h2.cons y).trans (List.Perm.swap _ _ _)
end

section
variable {P : Program} {c : Cx} {m : List (Nat × Value)} {l l' : List Hp} {o : Oper} {x y z : Operand} {T : TypeId}

theorem eff_range {α β : Type} {k' e : TypeId} {kl : α → Lit} {vf : β → Value} {b k : Nat} {ms : List (α × β)} (ho : o.op = .range T x) (hT : P.underlying T = some (.map k' e)) (hx : evo m x = some (.map (some b))) (hk : l[k]? = some (Hp.map P k' kl vf b ms)) :
    Eff P c m l o (fun v l'' => ∃ r, v = ptr r 0 ∧ l'' = l.set k (Hp.iter P k' kl vf b r ms ms)) := Eff.of fun a w s H => by
  have H1 := H.at_ hk
  obtain ⟨hlo, o1, ho1, es, clock, rfl, F, hp⟩ := H1.blk
  have H2 : Sat c.W w (Hp.blk b (· = Obj.map es clock) * sep (l.eraseIdx k)) := H1.blk_change (grown_self w _) fun o ho hm => ⟨o, ho, by rw [ho1] at ho; exact (Option.some.inj ho).symm⟩
  have H3 := (H2.alloc_blk (p := (· = Obj.mapIter (some b) clock #[] clock)) (.mapIter (some b) clock #[] clock) rfl).sw
  have hrun := run_range_map (P := P) w T k' e b es clock hT ho1
  refine ⟨_, _, ?_, _, ⟨w.heap.size, rfl, rfl⟩, Sat.back hk rfl (H3.iterI ⟨F, hp, F.stamped.1, Nat.le_refl _, Nat.le_refl _, ?_⟩)⟩
  · simp [execOp, ho, s.ev hx, hrun, Result.andThen]
  · have e1 : (leftOf es #[]).toList = es.toList := by
      simp only [leftOf, Array.toList_filter]
      exact List.filter_eq_self.2 fun x _ => by simp
    rw [e1]; exact hp

theorem eff_next {α β : Type} {k' : TypeId} {kl : α → Lit} {kf : α → Value} {ok : α → Prop} {vf : β → Value} {b r k : Nat} {ms left : List (α × β)} (ho : o.op = .next x false) (K : KeyT P k' kf kl ok) (hok : ∀ p ∈ left, ok p.1) (hx : evo m x = some (ptr r 0)) (hk : l[k]? = some (Hp.iter P k' kl vf b r ms left)) :
    Eff P c m l o (fun v l'' => (left = [] ∧ v = .tuple #[.bool false] ∧ l'' = l.set k (Hp.map P k' kl vf b ms)) ∨ ∃ a x rest, left.Perm ((a, x) :: rest) ∧ v = .tuple #[.bool true, kf a, vf x] ∧ l'' = l.set k (Hp.iterE P k' kl vf kf b r ms rest a x)) := Eff.of fun a w s H => by
  have H1 := H.at_ hk
  obtain ⟨es, clock, since, c0, seen, H2, F⟩ := H1.iter
  obtain ⟨_, _, hb, rfl⟩ := H2.blk
  obtain ⟨_, _, hr, rfl⟩ := H2.sw.blk
  rcases run_next_at (P := P) w o.type r b since c0 seen es clock hr hb F.old F.le with ⟨h0, hrun⟩ | ⟨e, he, w1, hal, hrun⟩
  · have hl : left = [] := by
      have := F.left.length_eq
      simp at this
      exact List.length_eq_zero_iff.1 (by omega)
    refine ⟨_, w, ?_, _, .inl ⟨hl, rfl, rfl⟩, Sat.back hk rfl ((H2.sw.drop).mono fun m h => ?_)⟩
    · simp [execOp, ho, s.ev hx, ptr, hrun, Result.andThen]
    · obtain ⟨o1, ho1, e1⟩ := h
      exact ⟨o1, ⟨es, clock, ho1, F.fit, F.perm⟩, e1⟩
  · obtain ⟨hem, hes⟩ := mem_left he
    obtain ⟨y0, hy0⟩ := F.fit.reads e hem
    obtain ⟨z0, hz, hzd⟩ := rd_val hy0
    have hkey := rd_key hy0
    cases hz
    have hrg : rg P k' heldR e = (y0.1, .held e.val) := by rw [rg_of hy0]; exact Prod.ext rfl hzd
    have hmem : rg P k' heldR e ∈ left.map (toE kl vf) := F.left.mem_iff.1 (List.mem_map.2 ⟨e, he, rfl⟩)
    obtain ⟨⟨ka, xv⟩, hpm, hpe⟩ := List.mem_map.1 hmem
    obtain ⟨l1, l2, rfl⟩ := List.append_of_mem hpm
    have hpe' := hpe
    rw [hrg] at hpe
    simp only [toE, Prod.mk.injEq] at hpe
    have hv : vf xv = e.val := by have := hpe.2; injection this
    have hka : e.key = kf ka := K.keyed.inj (hkey.trans (congrArg some hpe.1.symm)) (K.key ka (hok _ hpm))
    have hst := (stamped_iff es clock).1 F.fit.stamped
    have hL : (leftOf es seen).toList.Perm (e :: (leftOf es (seen.push e.born)).toList) := by
      have h1 := filter_once (p := fun x => !seen.contains x.born) hst.2.1 hem (by simp only [hes, Bool.not_false])
      have e1 : (leftOf es seen).toList = es.toList.filter (fun x => !seen.contains x.born) := by simp [leftOf]
      have e2 : (leftOf es (seen.push e.born)).toList = es.toList.filter (fun x => !seen.contains x.born && !(x.born == e.born)) := by
        simp only [leftOf, Array.toList_filter]
        exact List.filter_congr fun x _ => by rw [contains_push]; cases seen.contains x.born <;> simp
      rw [e1, e2]; exact h1
    have hleft : ((leftOf es (seen.push e.born)).toList.map (rg P k' heldR)).Perm ((l1 ++ l2).map (toE kl vf)) := by
      have h1 := (hL.map (rg P k' heldR)).symm.trans (F.left.trans ((List.perm_middle (a := (ka, xv)) (l₁ := l1) (l₂ := l2)).map (toE kl vf)))
      rw [List.map_cons, List.map_cons, ← hpe'] at h1
      exact h1.cons_inv
    have Hw : Sat c.W w1 (Hp.blk r (· = Obj.mapIter (some b) since seen c0) * (Hp.blk b (· = Obj.map es clock) * sep (l.eraseIdx k))) := by
      rcases hal with rfl | rfl
      · exact H2.sw
      · exact H2.sw.drew
    have hr1 : w1.heap[r]? = some (.mapIter (some b) since seen c0) := by rcases hal with rfl | rfl <;> exact hr
    have hg : w1.grownBy (setBlock w1 r (.mapIter (some b) since (seen.push e.born) clock)) (some r) := ⟨rfl, rfl, rfl, by simp [setBlock], fun i _ hi => (heap_set (o' := .mapIter (some b) since (seen.push e.born) clock) hr1).2 i (fun e => hi (by rw [e]))⟩
    have H3 : Sat c.W (setBlock w1 r (.mapIter (some b) since (seen.push e.born) clock)) (Hp.blk r (· = Obj.mapIter (some b) since (seen.push e.born) clock) * (Hp.blk b (· = Obj.map es clock) * sep (l.eraseIdx k))) :=
      Hw.blk_change hg fun o ho hm => ⟨_, (heap_set (o' := .mapIter (some b) since (seen.push e.born) clock) hr1).1, rfl⟩
    refine ⟨_, _, ?_, _, .inr ⟨ka, xv, l1 ++ l2, List.perm_middle, rfl, rfl⟩, Sat.back hk rfl (H3.sw.iterEI ⟨F.fit, F.perm, F.old, F.le', F.le', hleft⟩ hem hka hv.symm)⟩
    simp [execOp, ho, s.ev hx, ptr, hrun, Result.andThen, hka, hv]

theorem eff_entry {α β : Type} {k' : TypeId} {kl : α → Lit} {kf : α → Value} {vf : β → Value} {b r k : Nat} {ms left : List (α × β)} {i : α} {u : β} (ho : o.op = .entry x) (hx : evo m x = some (ptr r 0)) (hk : l[k]? = some (Hp.iterE P k' kl vf kf b r ms left i u)) :
    Eff P c m l o (fun v l'' => v = .tuple #[kf i, vf u] ∧ l'' = l.set k (Hp.iter P k' kl vf b r ms left)) := Eff.of fun a w s H => by
  have H1 := H.at_ hk
  obtain ⟨es, clock, since, seen, e, H2, F, he, hka, hv⟩ := H1.iterE
  obtain ⟨_, _, hb, rfl⟩ := H2.blk
  obtain ⟨_, _, hr, rfl⟩ := H2.sw.blk
  have hst := (stamped_iff es clock).1 F.fit.stamped
  have hrun := run_entry_at (P := P) w r b since seen es clock e hr hb he hst.2.1
  refine ⟨_, w, ?_, _, ⟨rfl, rfl⟩, Sat.back hk rfl (H2.iterI F)⟩
  simp [execOp, ho, s.ev hx, ptr, hrun, Result.andThen, hka, hv]
theorem Gx.retC2 {W : World} {n : Nat} {fn : Func} {t t' T b k sz bytes : Nat} {d : TypeDesc} {z' v' : Value} {us : List Value} {R : Value → List Hp → Prop} (hr : fn.results = #[.cell t T, .tmp t']) (hT : Ty P T d sz bytes z') (hd : aggD d = true) (ht : look m t = some (ptr b 0)) (hl : us.length = sz) (hk : l[k]? = some (Hp.rec_ b us)) (ht' : look m t' = some v') (h : R (.tuple #[.agg us.toArray, v']) l) : Gx ⟨W, n, []⟩ m l (bodyPost P fn (Ret W R) .ret) := fun a w s H => by
  have h1 := run_loadCells_list (P := P) (w := w) ⟨b, 0, none⟩ us (fun j v hj => by rw [addr_add, Nat.zero_add]; exact (H.at_ hk).cell j hj)
  rw [hl] at h1
  refine ⟨s.defers, .tuple #[.agg us.toArray, v'], ?_, _, l, rfl, h, H⟩
  have h2 := s.get t _ ht
  have h3 := s.get t' v' ht'
  simp [results, hr, Array.getD_eq_getD_getElem?, h2, h3, ptr, asAddr, loadVar, hT.agg, hd, hT.size, h1, Result.andThen]
theorem val_index {E n i sz bytes : Nat} {d : TypeDesc} {z' v : Value} {q : IntKind} {cs : Array Value} (ho : o.op = .index T x y) (hT : P.underlying T = some (.array n E)) (hE : Ty P E d sz bytes z') (hd : aggD d = false) (hz : sz = 1) (hx : evo m x = some (.agg cs)) (hy : evo m y = some (.int q (i : Int))) (hi : i < n) (hv : cs[i]? = some v) : Val P c m l o v := Val.of fun a w s H => by
  subst hz
  have hi' : (i : Int) < (n : Int) := by omega
  simp [execOp, ho, s.ev hx, s.ev hy, Instr.index, asIntOf, run_underlying hT, hE.size, hi', hi, part, hE.agg, hd, hv, Result.andThen]
end
end Go.Proofs.Ytfpkfbffpkjgbaa

/- Operations on bits. Over any program. No condition. -/
namespace Go.Proofs.Ytfpkfbffpkjgbaa
open Go.RowKit
set_option linter.unusedVariables false
set_option linter.unusedSimpArgs false

section
variable {P : Program} {c : Cx} {m : List (Nat × Value)} {l : List Hp} {o : Oper} {x y z : Operand} {v u u' : Value} {T T' S : TypeId} {k k' : IntKind} {i j r : Int}
theorem val_shl {b : Nat} (ho : o.op = .binOp .shl T x y T') (hx : evo m x = some (.int k i)) (hy : evo m y = some (.int k' j)) (hj : j = (b : Int)) (hb : b ≤ k.bits) (hr : k.wrap (i * 2 ^ b) = r) : Val P c m l o (.int k r) := Val.of fun a w s H => by
  subst hj
  have h1 : ¬ ((b : Int) < 0) := by omega
  have h2 : min b k.bits = b := Nat.min_eq_left hb
  simp [execOp, ho, s.ev hx, s.ev hy, eqGuard, binOp, Op.shift, h1, h2, hr]
theorem val_shr {b : Nat} (ho : o.op = .binOp .shr T x y T') (hx : evo m x = some (.int k i)) (hy : evo m y = some (.int k' j)) (hj : j = (b : Int)) (hb : b ≤ k.bits) (hr : i.fdiv (2 ^ b) = r) : Val P c m l o (.int k r) := Val.of fun a w s H => by
  subst hj
  have h1 : ¬ ((b : Int) < 0) := by omega
  have h2 : min b k.bits = b := Nat.min_eq_left hb
  simp [execOp, ho, s.ev hx, s.ev hy, eqGuard, binOp, Op.shift, h1, h2, hr]
theorem val_and (ho : o.op = .binOp .and T x y T') (hx : evo m x = some (.int k i)) (hy : evo m y = some (.int k j)) (hr : k.wrap ((BitVec.ofInt k.bits i &&& BitVec.ofInt k.bits j).toNat) = r) : Val P c m l o (.int k r) := Val.of fun a w s H => by
  subst hr
  simp [execOp, ho, s.ev hx, s.ev hy, eqGuard, binOp, Op.intBits]
theorem val_or (ho : o.op = .binOp .or T x y T') (hx : evo m x = some (.int k i)) (hy : evo m y = some (.int k j)) (hr : k.wrap ((BitVec.ofInt k.bits i ||| BitVec.ofInt k.bits j).toNat) = r) : Val P c m l o (.int k r) := Val.of fun a w s H => by
  subst hr
  simp [execOp, ho, s.ev hx, s.ev hy, eqGuard, binOp, Op.intBits]
theorem val_andNot (ho : o.op = .binOp .andNot T x y T') (hx : evo m x = some (.int k i)) (hy : evo m y = some (.int k j)) (hr : k.wrap ((BitVec.ofInt k.bits i &&& ~~~ BitVec.ofInt k.bits j).toNat) = r) : Val P c m l o (.int k r) := Val.of fun a w s H => by
  subst hr
  simp [execOp, ho, s.ev hx, s.ev hy, eqGuard, binOp, Op.intBits]
end
theorem u32_wrap {a : Nat} (h : a < 4294967296) : IntKind.u32.wrap (a : Int) = (a : Int) := by
  unfold IntKind.wrap
  have : IntKind.u32.bits = 32 := rfl
  simp [IntKind.bits, IntKind.signed]; omega
theorem u32_of (a : Nat) : BitVec.ofInt 32 (a : Int) = BitVec.ofNat 32 a := BitVec.ofInt_natCast ..
theorem and32 {a b : Nat} (ha : a < 4294967296) (hb : b < 4294967296) : IntKind.u32.wrap ((BitVec.ofInt IntKind.u32.bits (a : Int) &&& BitVec.ofInt IntKind.u32.bits (b : Int)).toNat) = ((a &&& b : Nat) : Int) := by
  show IntKind.u32.wrap ((BitVec.ofInt 32 (a : Int) &&& BitVec.ofInt 32 (b : Int)).toNat : Int) = _
  rw [u32_of, u32_of, show (BitVec.ofNat 32 a &&& BitVec.ofNat 32 b).toNat = a &&& b from ?_, u32_wrap]
  · exact Nat.lt_of_le_of_lt Nat.and_le_left ha
  · rw [BitVec.toNat_and, BitVec.toNat_ofNat, BitVec.toNat_ofNat, Nat.mod_eq_of_lt ha, Nat.mod_eq_of_lt hb]
theorem or32 {a b : Nat} (ha : a < 4294967296) (hb : b < 4294967296) : IntKind.u32.wrap ((BitVec.ofInt IntKind.u32.bits (a : Int) ||| BitVec.ofInt IntKind.u32.bits (b : Int)).toNat) = ((a ||| b : Nat) : Int) := by
  show IntKind.u32.wrap ((BitVec.ofInt 32 (a : Int) ||| BitVec.ofInt 32 (b : Int)).toNat : Int) = _
  rw [u32_of, u32_of, show (BitVec.ofNat 32 a ||| BitVec.ofNat 32 b).toNat = a ||| b from ?_, u32_wrap]
  · exact Nat.or_lt_two_pow (n := 32) ha hb
  · rw [BitVec.toNat_or, BitVec.toNat_ofNat, BitVec.toNat_ofNat, Nat.mod_eq_of_lt ha, Nat.mod_eq_of_lt hb]
theorem andNot32 {a b r : Nat} (ha : a < 4294967296) (hb : b < 4294967296) (hr : r < 4294967296) (h : ∀ i, i < 32 → r.testBit i = (a.testBit i && !b.testBit i)) : IntKind.u32.wrap ((BitVec.ofInt IntKind.u32.bits (a : Int) &&& ~~~ BitVec.ofInt IntKind.u32.bits (b : Int)).toNat) = (r : Int) := by
  show IntKind.u32.wrap ((BitVec.ofInt 32 (a : Int) &&& ~~~ BitVec.ofInt 32 (b : Int)).toNat : Int) = _
  rw [u32_of, u32_of, show (BitVec.ofNat 32 a &&& ~~~ BitVec.ofNat 32 b) = BitVec.ofNat 32 r from ?_, BitVec.toNat_ofNat, Nat.mod_eq_of_lt hr, u32_wrap hr]
  apply BitVec.eq_of_getLsbD_eq
  intro i hi
  rw [BitVec.getLsbD_and, BitVec.getLsbD_not, BitVec.getLsbD_ofNat, BitVec.getLsbD_ofNat, BitVec.getLsbD_ofNat, h i hi]
  simp [hi]
theorem shr32 (a b : Nat) : (a : Int).fdiv (2 ^ b) = ((a >>> b : Nat) : Int) := by
  rw [Nat.shiftRight_eq_div_pow, Int.fdiv_eq_ediv_of_nonneg _ (by exact Int.le_of_lt (Int.pow_pos (by decide)))]
  push_cast; rfl
theorem shl32 {a b r : Nat} (hr : a * 2 ^ b = r) (h : r < 4294967296) : IntKind.u32.wrap ((a : Int) * 2 ^ b) = (r : Int) := by
  have : ((a : Int) * 2 ^ b) = (r : Int) := by rw [← hr]; push_cast; rfl
  rw [this, u32_wrap h]
/-- a list of numbers, as bits -/
def mk (l : List Nat) : Nat := l.foldl (fun m i => m ||| 2 ^ i) 0
theorem mk_snoc (l : List Nat) (i : Nat) : mk (l ++ [i]) = mk l ||| 2 ^ i := by simp [mk]
theorem foldl_bit (i : Nat) : ∀ (l : List Nat) (m : Nat), (l.foldl (fun m i => m ||| 2 ^ i) m).testBit i = (m.testBit i || decide (i ∈ l))
  | [], m => by simp
  | j :: l, m => by
    rw [List.foldl_cons, foldl_bit i l, Nat.testBit_or, Nat.testBit_two_pow]
    by_cases e : j = i
    · subst e; simp
    · have e2 : ¬ i = j := fun h => e h.symm
      simp [e, e2]
theorem mk_bit (l : List Nat) (i : Nat) : (mk l).testBit i = decide (i ∈ l) := by unfold mk; rw [foldl_bit]; simp
theorem mk_lt {l : List Nat} (h : ∀ i ∈ l, i < 32) : mk l < 4294967296 := by
  refine Nat.lt_of_not_le fun hc => ?_
  obtain ⟨j, hj, hb⟩ := Nat.exists_ge_and_testBit_of_ge_two_pow (n := 32) hc
  rw [mk_bit] at hb
  have := h j (of_decide_eq_true hb)
  omega
theorem mk_test {l : List Nat} (i : Nat) : (mk l >>> i &&& 1) = if i ∈ l then 1 else 0 := by
  rw [Nat.and_one_is_mod, Nat.shiftRight_eq_div_pow]
  have h := mk_bit l i
  rw [Nat.testBit_eq_decide_div_mod_eq] at h
  by_cases e : i ∈ l
  · rw [if_pos e]; simp [e] at h; exact h
  · rw [if_neg e]; simp [e] at h; omega
theorem mk_not {l : List Nat} {i : Nat} (hi : ¬ i ∈ l) : ∀ j, j < 32 → (mk l).testBit j = ((mk (l ++ [i])).testBit j && !(2 ^ i).testBit j) := fun j _ => by
  rw [mk_bit, mk_bit, Nat.testBit_two_pow]
  by_cases e : i = j
  · subst e; simp [hi]
  · have e2 : ¬ j = i := fun h => e h.symm
    simp [e, e2]
end Go.Proofs.Ytfpkfbffpkjgbaa

/- Own slices cut. Over any program. No condition. -/
namespace Go.Proofs.Ytfpkfbffpkjgbaa
open Go.RowKit
set_option linter.unusedVariables false
set_option linter.unusedSimpArgs false

theorem own_cut {α : Type} {f : α → List Value} {sz : Nat} {v : Value} {xs : List α} {h : Part} {lo hi : Nat} (h1 : lo ≤ hi) (h2 : hi ≤ xs.length) (H : Hp.own f sz v xs h) : Hp.own f sz (sCut sz lo hi v) ((xs.take hi).drop lo) h := by
  have hl : ((xs.take hi).drop lo).length = hi - lo := by simp; omega
  rcases H with ⟨rfl, rfl, rfl⟩ | ⟨g, off, cap, rfl, hc, o, ho, rfl⟩
  · simp at h2
    obtain rfl : lo = 0 := by omega
    subst h2
    exact .inl ⟨by simp [sCut], by simp, rfl⟩
  · obtain ⟨hs, he⟩ := ho
    by_cases hcl : cap = lo
    · have e0 : hi - lo = 0 := by omega
      refine .inr ⟨g, off, cap - lo, ?_, by rw [hl]; omega, o, ⟨fun j hj => ?_, fun j x hx => ?_⟩, rfl⟩
      · rw [hl]; simp [sCut, hcl]
      · rw [hcl] at hj; simp at hj
      · have := (List.getElem?_eq_some_iff.1 hx).1; rw [hl] at this; omega
    · refine .inr ⟨g, off + lo * sz, cap - lo, ?_, by rw [hl]; omega, o, ⟨fun j hj => ?_, fun j x hx i u hu => ?_⟩, rfl⟩
      · rw [hl]; simp [sCut, hcl, addr_add]
      · have : lo * sz + j < cap * sz := by
          rw [Nat.sub_mul] at hj; omega
        have := hs (lo * sz + j) this
        rw [← Nat.add_assoc] at this; exact this
      · have hj := (List.getElem?_eq_some_iff.1 hx).1
        rw [hl] at hj
        rw [List.getElem?_drop, List.getElem?_take, if_pos (by omega)] at hx
        have := he (lo + j) x hx i u hu
        rw [show off + lo * sz + (j * sz + i) = off + ((lo + j) * sz + i) by rw [Nat.add_mul]; omega]
        exact this
section
variable {P : Program} {c : Cx} {m m' : List (Nat × Value)} {l l' : List Hp} {o : Oper} {x y z : Operand} {v u u' : Value} {T T' S : TypeId} {K : Act → World → Prop}
theorem Gx.ownCut {α : Type} {f : α → List Value} {sz : Nat} {xs : List α} {k : Nat} (lo hi : Nat) (hk : l[k]? = some (Hp.own f sz v xs)) (h1 : lo ≤ hi) (h2 : hi ≤ xs.length) (hl : l.set k (Hp.own f sz (sCut sz lo hi v) ((xs.take hi).drop lo)) = l') (h : Gx c m l' K) : Gx c m l K :=
  Gx.part hk (fun _ H => own_cut h1 h2 H) (hl ▸ h)
theorem sCut_isS {sz lo hi : Nat} (h : IsS v) : IsS (sCut sz lo hi v) := by obtain ⟨a, n, q, rfl⟩ := h; exact ⟨_, _, _, rfl⟩
theorem val_cutO {α : Type} {f : α → List Value} {sz bytes : Nat} {e : TypeId} {d : TypeDesc} {z' : Value} {xs : List α} {k k' : IntKind} {i i' : Int} {lo up n : Nat} (ho : o.op = .slice T x (some y) (some z) none) (hT : P.underlying T = some (.slice e)) (hE : Ty P e d sz bytes z') (hx : evo m x = some v) (hk : l[n]? = some (Hp.own f sz v xs))
    (hy : evo m y = some (.int k i)) (hi : i = (lo : Int)) (hz : evo m z = some (.int k' i')) (hi' : i' = (up : Int)) (h1 : lo ≤ up) (h2 : up ≤ xs.length) : Val P c m l o (sCut sz lo up v) := Val.of fun a w s H => by
  have e1 : (underlying T).run P w = .ok (.slice e) w := run_underlying hT w
  subst hi hi'
  rcases (H.at_ hk).ows with ⟨rfl, rfl⟩ | ⟨g, off, cap, rfl, hb, hlt, hcap, hsp, hel⟩
  · simp at h2; subst h2
    obtain rfl : lo = 0 := by omega
    simp [execOp, ho, s.ev hx, s.ev hy, s.ev hz, Instr.sliceAt, Instr.slice, e1, Result.andThen, Instr.sliceBounds, Instr.sliceBound, asIntOf, hE.size, sCut]
  · have q1 : (0 : Int) ≤ (up : Int) ∧ (up : Int) ≤ (cap : Int) := by omega
    have q3 : up ≤ cap := by omega
    have q2 : (0 : Int) ≤ (lo : Int) ∧ (lo : Int) ≤ (up : Int) := by omega
    simp [execOp, ho, s.ev hx, s.ev hy, s.ev hz, Instr.sliceAt, Instr.slice, e1, Result.andThen, Instr.sliceBounds, Instr.sliceBound, asIntOf, q1, q2, q3, h1, hE.size, sCut]
theorem val_cutToO {α : Type} {f : α → List Value} {sz bytes : Nat} {e : TypeId} {d : TypeDesc} {z' : Value} {xs : List α} {k' : IntKind} {i' : Int} {up n : Nat} (ho : o.op = .slice T x none (some z) none) (hT : P.underlying T = some (.slice e)) (hE : Ty P e d sz bytes z') (hx : evo m x = some v) (hk : l[n]? = some (Hp.own f sz v xs))
    (hz : evo m z = some (.int k' i')) (hi' : i' = (up : Int)) (h2 : up ≤ xs.length) : Val P c m l o (sCut sz 0 up v) := Val.of fun a w s H => by
  have e1 : (underlying T).run P w = .ok (.slice e) w := run_underlying hT w
  subst hi'
  rcases (H.at_ hk).ows with ⟨rfl, rfl⟩ | ⟨g, off, cap, rfl, hb, hlt, hcap, hsp, hel⟩
  · simp at h2; subst h2
    simp [execOp, ho, s.ev hx, s.ev hz, Instr.sliceAt, Instr.slice, e1, Result.andThen, Instr.sliceBounds, Instr.sliceBound, asIntOf, hE.size, sCut]
  · have q1 : (0 : Int) ≤ (up : Int) ∧ (up : Int) ≤ (cap : Int) := by omega
    have q3 : up ≤ cap := by omega
    simp [execOp, ho, s.ev hx, s.ev hz, Instr.sliceAt, Instr.slice, e1, Result.andThen, Instr.sliceBounds, Instr.sliceBound, asIntOf, q1, q3, hE.size, sCut]
theorem val_cutFromO {α : Type} {f : α → List Value} {sz bytes : Nat} {e : TypeId} {d : TypeDesc} {z' : Value} {xs : List α} {k : IntKind} {i : Int} {lo n : Nat} (ho : o.op = .slice T x (some y) none none) (hT : P.underlying T = some (.slice e)) (hE : Ty P e d sz bytes z') (hx : evo m x = some v) (hk : l[n]? = some (Hp.own f sz v xs))
    (hy : evo m y = some (.int k i)) (hi : i = (lo : Int)) (h1 : lo ≤ xs.length) : Val P c m l o (sCut sz lo xs.length v) := Val.of fun a w s H => by
  have e1 : (underlying T).run P w = .ok (.slice e) w := run_underlying hT w
  subst hi
  rcases (H.at_ hk).ows with ⟨rfl, rfl⟩ | ⟨g, off, cap, rfl, hb, hlt, hcap, hsp, hel⟩
  · simp at h1; subst h1
    simp [execOp, ho, s.ev hx, s.ev hy, Instr.sliceAt, Instr.slice, e1, Result.andThen, Instr.sliceBounds, Instr.sliceBound, asIntOf, hE.size, sCut]
  · have q2 : (0 : Int) ≤ (lo : Int) ∧ (lo : Int) ≤ (xs.length : Int) := by omega
    simp [execOp, ho, s.ev hx, s.ev hy, Instr.sliceAt, Instr.slice, e1, Result.andThen, Instr.sliceBounds, Instr.sliceBound, asIntOf, q2, h1, hE.size, sCut]
end
end Go.Proofs.Ytfpkfbffpkjgbaa

/- Slices of single cells, read as elements. Over any program. No condition. -/
namespace Go.Proofs.Ytfpkfbffpkjgbaa
open Go.RowKit
theorem sls_one {α : Type} {f : α → Value} {w : World} {a : Option Addr} {len cap : Nat} {xs : List α} (h : Sl f w (.slice a len cap) xs) (hc : len ≤ cap) : SlS (fun x => [f x]) 1 w (.slice a len cap) xs := by
  obtain ⟨a', cap', e, hm, hn, hcell⟩ := h
  cases e
  refine ⟨a, cap, rfl, hm, ⟨hn, hc⟩, fun j x hx => ?_⟩
  obtain ⟨b, off, e, hb, hc2⟩ := hcell j x hx
  refine ⟨b, off, e, hb, fun i u hu => ?_⟩
  cases i with
  | zero => simp at hu; subst hu; rw [Nat.mul_one, Nat.add_zero]; exact hc2
  | succ i => simp at hu
end Go.Proofs.Ytfpkfbffpkjgbaa

/- Parts of many parts; maps that are nil; keys that are numbers. Over any program. No condition. -/
namespace Go.Proofs.Ytfpkfbffpkjgbaa
open Go.RowKit
set_option linter.unusedVariables false
set_option linter.unusedSimpArgs false

section
variable {P : Program} {c : Cx} {m m' : List (Nat × Value)} {l l' : List Hp} {o : Oper} {x y z : Operand} {v u u' : Value} {T T' S : TypeId} {K : Act → World → Prop}
theorem sep_snoc (l : List Hp) (R : Hp) : sep (l ++ [R]) = sep l * R := by rw [sep_append]; show sep l * (R * 1) = _; rw [Hp.mul_one]
/-- one of many, at its place, the rest behind all -/
theorem Gx.focus {α : Type} {p : α → Hp} {L : List α} {n k : Nat} {e : α} (hl : l[n]? = some (Hp.big p L)) (hx : L[k]? = some e) (h : ∀ R, Hp.big p L = p e * R → (∀ y, Hp.big p (L.set k y) = p y * R) → Gx c m (l.set n (p e) ++ [R]) K) : Gx c m l K := fun a w s H => by
  obtain ⟨R, h1, h2⟩ := Hp.big_focus p L k e hx
  refine h R h1 h2 a w s (H.cast ?_)
  rw [sep_snoc, (sep_focus l n _ hl).2, (sep_focus l n _ hl).1, h1]
  ac_rfl
/-- two parts as one -/
theorem Gx.merge (n r : Nat) {p q s : Hp} (hn : l[n]? = some p) (hr : (l.eraseIdx n)[r]? = some q) (e : s = p * q) (hl : s :: (l.eraseIdx n).eraseIdx r = l') (h : Gx c m l' K) : Gx c m l K := fun a w st H => by
  refine h a w st (H.cast ?_)
  rw [← hl, (sep_focus l n _ hn).1, (sep_focus _ r _ hr).1, ← Hp.mul_assoc, ← e]; rfl
/-- one part as two -/
theorem Gx.cleave (n : Nat) {p q s : Hp} (hn : l[n]? = some s) (e : s = p * q) (hl : p :: q :: l.eraseIdx n = l') (h : Gx c m l' K) : Gx c m l K := fun a w st H => by
  refine h a w st (H.cast ?_)
  rw [← hl, (sep_focus l n _ hn).1, e, Hp.mul_assoc]; rfl
theorem val_eqlMapN {k' e : TypeId} (ho : o.op = .binOp .eql T x y T') (hT : P.underlying T = some (.map k' e)) (hx : evo m x = some (.map none)) (hy : evo m y = some (.map none)) : Val P c m l o (.bool true) := Val.of fun a w s H => by
  simp [execOp, ho, s.ev hx, s.ev hy, eqGuard, binOp, run_equal_map_nil _ _ _ _ _ hT, Result.andThen]
theorem val_eqlMapS {k' e : TypeId} {b : Nat} (ho : o.op = .binOp .eql T x y T') (hT : P.underlying T = some (.map k' e)) (hx : evo m x = some (.map (some b))) (hy : evo m y = some (.map none)) : Val P c m l o (.bool false) := Val.of fun a w s H => by
  simp [execOp, ho, s.ev hx, s.ev hy, eqGuard, binOp, run_equal_map_nil _ _ _ _ _ hT, Result.andThen]
end
/-! keys that are small numbers -/
abbrev natV (n : Nat) : Value := .int .i64 ((n : Nat) : Int)
def natL (n : Nat) : Lit := .int .i64 ((n : Nat) : Int)
theorem natT {P : Program} {k : TypeId} (hk : P.underlying k = some (.int .i64)) : KeyT P k natV natL (fun n => n < 4611686018427387904) := by
  have T := intKeyT hk
  refine ⟨T.keyed, fun n hn => T.key _ ?_, fun a b h => ?_⟩
  · simp [Lit.wf]; exact ⟨(by omega : (-9223372036854775808 : Int) ≤ _), (by omega : _ ≤ (9223372036854775807 : Int))⟩
  · unfold natL at h; injection h with _ h; omega
theorem natK (n : Nat) : WideAt.IsKeyLit (natL n) := trivial
abbrev mapV (b : Nat) : Value := .map (some b)
theorem getM_no {α β : Type} [DecidableEq α] {ms : List (α × β)} {a : α} (h : ∀ p ∈ ms, p.1 ≠ a) : getM ms a = none := by
  induction ms with
  | nil => rfl
  | cons p l ih =>
    obtain ⟨b, y⟩ := p
    have := h (b, y) (by simp)
    simp only [getM]
    rw [if_neg this]
    exact ih fun q hq => h q (by simp [hq])
theorem getM_at {α β : Type} [DecidableEq α] {ms : List (α × β)} {k : Nat} {a : α} {x : β} (hn : ms.Pairwise (fun p q => p.1 ≠ q.1)) (h : ms[k]? = some (a, x)) : getM ms a = some x := getM_of hn (List.mem_of_getElem? h)
theorem putM_new {α β : Type} [DecidableEq α] {ms : List (α × β)} {a : α} (x : β) (h : ∀ p ∈ ms, p.1 ≠ a) : putM ms a x = ms ++ [(a, x)] := by
  induction ms with
  | nil => rfl
  | cons p l ih =>
    obtain ⟨b, y⟩ := p
    have := h (b, y) (by simp)
    simp only [putM]
    rw [if_neg this, ih fun q hq => h q (by simp [hq])]; rfl
theorem putM_keyI {α β : Type} [DecidableEq α] {ms : List (α × β)} {a : α} {x : β} {b : α} : b ∈ (putM ms a x).map (·.1) ↔ b = a ∨ b ∈ ms.map (·.1) := by
  induction ms with
  | nil => simp [putM]
  | cons p l ih =>
    obtain ⟨d, y⟩ := p
    by_cases e : d = a
    · subst e; simp [putM]
    · simp only [putM, if_neg e, List.map_cons, List.mem_cons, ih]
      constructor
      · rintro (h | h | h)
        · exact .inr (.inl h)
        · exact .inl h
        · exact .inr (.inr h)
      · rintro (h | h | h)
        · exact .inr (.inl h)
        · exact .inl h
        · exact .inr (.inr h)
theorem delM_keys {α β : Type} [DecidableEq α] {ms : List (α × β)} {a b : α} (hn : ms.Pairwise (fun p q => p.1 ≠ q.1)) : b ∈ (delM ms a).map (·.1) ↔ b ≠ a ∧ b ∈ ms.map (·.1) := by
  rw [delM_eq a hn]
  constructor
  · intro h
    obtain ⟨p, hp, rfl⟩ := List.mem_map.1 h
    obtain ⟨h1, h2⟩ := List.mem_filter.1 hp
    exact ⟨by simpa using h2, List.mem_map.2 ⟨p, h1, rfl⟩⟩
  · rintro ⟨h1, h⟩
    obtain ⟨p, hp, rfl⟩ := List.mem_map.1 h
    exact List.mem_map.2 ⟨p, List.mem_filter.2 ⟨hp, by simpa using h1⟩, rfl⟩
theorem delM_at {α β : Type} [DecidableEq α] : ∀ {ms : List (α × β)} {k : Nat} {a : α} {x : β}, ms.Pairwise (fun p q => p.1 ≠ q.1) → ms[k]? = some (a, x) → delM ms a = ms.eraseIdx k
  | [], k, a, x, _, h => by simp at h
  | (b, y) :: l, 0, a, x, hn, h => by simp at h; obtain ⟨rfl, rfl⟩ := h; simp [delM]
  | (b, y) :: l, k + 1, a, x, hn, h => by
    have h' : l[k]? = some (a, x) := by simpa using h
    have hne : b ≠ a := (List.pairwise_cons.1 hn).1 (a, x) (List.mem_of_getElem? h')
    simp only [delM, if_neg hne]
    rw [delM_at (List.pairwise_cons.1 hn).2 h']; rfl
end Go.Proofs.Ytfpkfbffpkjgbaa

/- Calls of a function value that work on parts; a slice compared with nil; many own slices. Over any program. No condition. -/
namespace Go.Proofs.Ytfpkfbffpkjgbaa
open Go.RowKit
set_option linter.unusedVariables false
set_option linter.unusedSimpArgs false
section
variable {P : Program} {c : Cx} {m m' : List (Nat × Value)} {l l' : List Hp} {o : Oper} {x y z : Operand} {v u u' : Value} {T T' S : TypeId} {K : Act → World → Prop}
theorem eff_callV {f : FuncId} {x : Operand} {xs : List Operand} {ts : Array TypeId} {vs fs cs : List Value} {R : Value → List Hp → Prop} (ho : o.op = .call { callee := .value x, args := xs.toArray, argTypes := ts }) (F : Fnc P f) (hf : evo m x = some (.func (.func f) fs.toArray cs.toArray)) (hx : evoL m xs = some vs)
    (h : ∀ w, Sat c.W w (sep l) → Calls P f (fs ++ vs ++ cs).toArray w (Ret c.W R)) : Eff P c m l o R := fun a w s H => by
  have h1 := s.evL hx
  have : (execOp a.eval o).run P w = .ok (.enter f (fs ++ vs ++ cs).toArray) w := by
    have hF := F (fs ++ vs ++ cs).toArray w
    simp [execOp, ho, resolve, s.ev hf, Deferred.ofValue, invoke, h1, Result.andThen, hF] at hF ⊢
    exact hF
  refine EffAt.call this ((h w H).mono ?_)
  rintro e w' ⟨v, l', rfl, h2, h3⟩
  exact ⟨v, rfl, l', h2, h3⟩
theorem val_eqlSl {α : Type} {f : α → List Value} {sz : Nat} {xs : List α} {e : TypeId} (ho : o.op = .binOp .eql T x y T') (hT : P.underlying T = some (.slice e)) (hx : evo m x = some v) (hy : evo m y = some (.slice none 0 0)) (hs : SlS f sz c.W v xs) (h0 : 0 < xs.length) : Val P c m l o (.bool false) := Val.of fun a w s H => by
  obtain ⟨ad, cap, rfl, hm, hn, hc⟩ := hs
  obtain ⟨y0, hy0⟩ := get_of_lt h0
  obtain ⟨b, off, rfl, _, _⟩ := hc 0 y0 hy0
  simp [execOp, ho, s.ev hx, s.ev hy, eqGuard, binOp, run_equal_slice_nil _ _ _ _ _ _ hT, Result.andThen]
end
theorem big_nil {α : Type} {f : α → List Value} {sz : Nat} : ∀ (n : Nat) (h : Part), (1 : Hp) h → Hp.big (fun r : Value × List α => Hp.own f sz r.1 r.2) (List.replicate n (.slice none 0 0, [])) h
  | 0, h, H => H
  | n + 1, h, H => by
    show (Hp.own f sz (.slice none 0 0) [] * Hp.big _ (List.replicate n _)) h
    exact ⟨fun _ => none, h, fun k => .inl rfl, by funext k; rfl, .inl ⟨rfl, rfl, rfl⟩, big_nil n h H⟩
theorem Sat.bigAt {α : Type} {W w : World} {p : α → Hp} {L : List α} {R : Hp} (H : Sat W w (Hp.big p L * R)) {k : Nat} {x : α} (hx : L[k]? = some x) : ∃ R', Sat W w (p x * R') := by
  obtain ⟨R0, h1, _⟩ := Hp.big_focus p L k x hx
  rw [h1] at H
  exact ⟨R0 * R, H.cast (Hp.mul_assoc ..)⟩
theorem Sat.wider {W W' w : World} {A : Hp} (hW : Below W.heap.size W W') (H : Sat W' w A) : Sat W w A := ((Sat.ofBelow hW).nest H).cast (Hp.mul_one _)
section
variable {P : Program} {m : List (Nat × Value)} {l : List Hp}
theorem Gx.ret1N {W W' : World} {n : Nat} {fn : Func} {t : Nat} {v : Value} {R : Value → List Hp → Prop} (hW : Below W.heap.size W W') (hr : fn.results = #[.tmp t]) (ht : look m t = some v) (h : R v l) : Gx ⟨W', n, []⟩ m l (bodyPost P fn (Ret W R) .ret) := fun a w s H => by
  obtain ⟨h1, v', h2, v'', l'', h3, ⟨h4, rfl⟩, h5⟩ := Gx.ret1 (P := P) (W := W') (n := n) (fn := fn) (R := fun v' l' => v' = v ∧ l' = l) (l := l) hr ht ⟨rfl, rfl⟩ a w s H
  exact ⟨h1, v', h2, v, _, by rw [h3, h4], h, h5.wider hW⟩
theorem Gx.ret2N {W W' : World} {n : Nat} {fn : Func} {t t' : Nat} {v v' : Value} {R : Value → List Hp → Prop} (hW : Below W.heap.size W W') (hr : fn.results = #[.tmp t, .tmp t']) (ht : look m t = some v) (ht' : look m t' = some v') (h : R (.tuple #[v, v']) l) : Gx ⟨W', n, []⟩ m l (bodyPost P fn (Ret W R) .ret) := fun a w s H => by
  obtain ⟨h1, u', h2, v'', l'', h3, ⟨h4, rfl⟩, h5⟩ := Gx.ret2 (P := P) (W := W') (n := n) (fn := fn) (R := fun u l' => u = .tuple #[v, v'] ∧ l' = l) (l := l) hr ht ht' ⟨rfl, rfl⟩ a w s H
  exact ⟨h1, u', h2, _, _, by rw [h3, h4], h, h5.wider hW⟩
end
end Go.Proofs.Ytfpkfbffpkjgbaa

/- Pointers that are nil or not. Over any program. No condition. -/
namespace Go.Proofs.Ytfpkfbffpkjgbaa
open Go.RowKit
set_option linter.unusedVariables false
set_option linter.unusedSimpArgs false
section
variable {P : Program} {c : Cx} {m : List (Nat × Value)} {l : List Hp} {o : Oper} {x y : Operand} {T T' : TypeId}
theorem val_eqlP {p : Option Addr} (ho : o.op = .binOp .eql T x y T') {E : TypeId} (hT0 : P.underlying T = some (.pointer E)) (hE : P.pointee T = E) (hx : evo m x = some (.pointer p)) (hy : evo m y = some (.pointer none)) : Val P c m l o (.bool p.isNone) := Val.of fun a w s H => by
  have hT : P.underlying T = some (.pointer (P.pointee T)) := by rw [hT0, hE]
  simp [execOp, ho, s.ev hx, s.ev hy, eqGuard, binOp, run_equal_pointer_nil w T p hT, Result.andThen]
theorem val_neqP {p : Option Addr} (ho : o.op = .binOp .neq T x y T') {E : TypeId} (hT0 : P.underlying T = some (.pointer E)) (hE : P.pointee T = E) (hx : evo m x = some (.pointer p)) (hy : evo m y = some (.pointer none)) : Val P c m l o (.bool (!p.isNone)) := Val.of fun a w s H => by
  have hT : P.underlying T = some (.pointer (P.pointee T)) := by rw [hT0, hE]
  simp [execOp, ho, s.ev hx, s.ev hy, eqGuard, binOp, run_equal_pointer_nil w T p hT, Result.andThen]
end
end Go.Proofs.Ytfpkfbffpkjgbaa

/- Lookups in a map while a range runs over it. Over any program. No condition. -/
namespace Go.Proofs.Ytfpkfbffpkjgbaa
open Go.RowKit Go.ChangeMaps Go.WideShapes Go.MapKept
open Go.Maps (Keyed)
set_option linter.unusedVariables false

section
variable {P : Program} {c : Cx} {m : List (Nat × Value)} {l l' : List Hp} {o : Oper} {x y z : Operand} {T : TypeId}
theorem val_lookupI {α β : Type} [DecidableEq α] {k' e : TypeId} {kl : α → Lit} {kf : α → Value} {ok : α → Prop} {vf : β → Value} {b r0 k : Nat} {ms left : List (α × β)} {q : Bool} {d : TypeDesc} {sz bytes : Nat} {zv : Value} {i : α} (ho : o.op = .lookup T x y q) (hT : P.underlying T = some (.map k' e)) (K : KeyT P k' kf kl ok) (hE : Ty P e d sz bytes zv)
    (hx : evo m x = some (.map (some b))) (hy : evo m y = some (kf i)) (hi : ok i) (hk : l[k]? = some (Hp.iter P k' kl vf b r0 ms left)) : Val P c m l o (match getM ms i with | some x => if q then .tuple #[vf x, .bool true] else vf x | none => if q then .tuple #[zv, .bool false] else zv) := Val.of fun a w s H => by
  obtain ⟨es, clock, since, c0, seen, H2, F⟩ := (H.at_ hk).iter
  have H3 : Sat c.W w (Hp.map P k' kl vf b ms * _) := H2.blk_change (grown_self w _) fun o ho hm => ⟨o, ho, es, clock, hm, F.fit, F.perm⟩
  have h1 := H3.look K hT hE.zero hi q
  simp [execOp, ho, s.ev hx, s.ev hy, h1, Result.andThen]
  cases getM ms i <;> rfl
theorem val_lookup1I {α β : Type} [DecidableEq α] {k' e : TypeId} {kl : α → Lit} {kf : α → Value} {ok : α → Prop} {vf : β → Value} {b r0 k : Nat} {ms left : List (α × β)} {d : TypeDesc} {sz bytes : Nat} {zv : Value} {i : α} {r : Value} (ho : o.op = .lookup T x y false) (hT : P.underlying T = some (.map k' e)) (K : KeyT P k' kf kl ok) (hE : Ty P e d sz bytes zv)
    (hx : evo m x = some (.map (some b))) (hy : evo m y = some (kf i)) (hi : ok i) (hk : l[k]? = some (Hp.iter P k' kl vf b r0 ms left)) (hr : ((getM ms i).map vf).getD zv = r) : Val P c m l o r := by
  have := val_lookupI (c := c) (m := m) (o := o) ho hT K hE hx hy hi hk
  subst hr
  cases e : getM ms i <;> rw [e] at this <;> exact this
/-! a literal slice is a slice of one's own -/
theorem flat_at {α : Type} {f : α → List Value} {sz : Nat} (hf : ∀ x, (f x).length = sz) : ∀ {xs : List α} {j : Nat} {x : α} {i : Nat} {u : Value}, xs[j]? = some x → (f x)[i]? = some u → (xs.flatMap f)[j * sz + i]? = some u
  | [], j, x, i, u, h, _ => by simp at h
  | y :: l, 0, x, i, u, h, hu => by
    simp at h; subst h
    rw [List.flatMap_cons, Nat.zero_mul, Nat.zero_add, List.getElem?_append_left (List.getElem?_eq_some_iff.1 hu).1]; exact hu
  | y :: l, j + 1, x, i, u, h, hu => by
    have := flat_at hf (xs := l) (j := j) (x := x) (i := i) (u := u) (by simpa using h) hu
    rw [List.flatMap_cons, List.getElem?_append_right (by rw [hf, Nat.succ_mul]; omega), hf, show (j + 1) * sz + i - sz = j * sz + i from by rw [Nat.succ_mul]; omega]; exact this
theorem flat_sz {α : Type} {f : α → List Value} {sz : Nat} (hf : ∀ x, (f x).length = sz) : ∀ (xs : List α), (xs.flatMap f).length = xs.length * sz
  | [] => by simp
  | y :: l => by rw [List.flatMap_cons, List.length_append, hf, flat_sz hf l, List.length_cons, Nat.succ_mul]; omega
theorem own_of_rec {α : Type} {f : α → List Value} {sz b : Nat} {xs : List α} {vs : List Value} (hf : ∀ x, (f x).length = sz) (hv : vs = xs.flatMap f) : ∀ h, Hp.rec_ b vs h → Hp.own f sz (.slice (some ⟨b, 0, none⟩) xs.length xs.length) xs h := by
  rintro h ⟨o, ho, rfl⟩
  subst hv
  refine .inr ⟨b, 0, xs.length, rfl, Nat.le_refl _, o, ⟨fun j hj => ?_, fun j x hx i u hu => ?_⟩, rfl⟩
  · rw [← flat_sz hf] at hj
    obtain ⟨h1, h2⟩ := ho j _ (List.getElem?_eq_getElem hj)
    rw [Nat.zero_add]; exact ⟨by rw [h1]; rfl, h2⟩
  · rw [Nat.zero_add]; exact (ho _ u (flat_at hf hx hu)).1
/-- the results' cell is forgotten -/
theorem Gx.retC2d {W : World} {n : Nat} {fn : Func} {t t' T b k sz bytes : Nat} {d : TypeDesc} {z' v' : Value} {us : List Value} {R : Value → List Hp → Prop} (hr : fn.results = #[.cell t T, .tmp t']) (hT : Ty P T d sz bytes z') (hd : aggD d = true) (ht : look m t = some (ptr b 0)) (hl : us.length = sz) (hk : l[k]? = some (Hp.rec_ b us)) (ht' : look m t' = some v') (h : R (.tuple #[.agg us.toArray, v']) (l.eraseIdx k)) : Gx ⟨W, n, []⟩ m l (bodyPost P fn (Ret W R) .ret) := fun a w s H => by
  obtain ⟨q1, q2, q3, v, l2, q5, q6, q7⟩ := Gx.retC2 (R := fun v l' => v = (.tuple #[.agg us.toArray, v']) ∧ l' = l) hr hT hd ht hl hk ht' ⟨rfl, rfl⟩ a w s H
  obtain ⟨rfl, rfl⟩ := q6
  exact ⟨q1, q2, q3, _, _, q5, h, (q7.at_ hk).drop⟩
end
end Go.Proofs.Ytfpkfbffpkjgbaa

/- 'clear' of a part of an own slice; elements of a part of an own slice. Over any program. No condition. -/
namespace Go.Proofs.Ytfpkfbffpkjgbaa
open Go.RowKit
set_option linter.unusedVariables false
set_option linter.unusedSimpArgs false

theorem zero_flat {α : Type} {f : α → List Value} {sz n : Nat} {r : α} {cells : Array Value} (hf : ∀ x, (f x).length = sz) (hz : cells.toList = f r) : (Builtin.zeroCells cells n).toList = (List.replicate n r).flatMap f := by
  have hsz : cells.size = sz := by rw [← Array.length_toList, hz, hf]
  refine List.ext_getElem? fun i => ?_
  by_cases hi : i < n * sz
  · have hs : 0 < sz := by
      rcases Nat.eq_zero_or_pos sz with h | h
      · rw [h] at hi; simp at hi
      · exact h
    have hm : i % sz < sz := Nat.mod_lt _ hs
    have hd : i / sz < n := (Nat.div_lt_iff_lt_mul hs).2 hi
    obtain ⟨u, hu⟩ : ∃ u, (f r)[i % sz]? = some u := ⟨_, List.getElem?_eq_getElem (by rw [hf]; exact hm)⟩
    have h1 := flat_at hf (xs := List.replicate n r) (j := i / sz) (x := r) (by rw [List.getElem?_replicate, if_pos hd]) hu
    rw [Nat.div_add_mod' i sz] at h1
    rw [h1]
    have h2 : cells[i % sz]? = some u := by rw [← Array.getElem?_toList, hz]; exact hu
    simp [Builtin.zeroCells, hsz, hi]
    rw [Array.getElem!_eq_getD, Array.getD_eq_getD_getElem?, h2]; rfl
  · rw [List.getElem?_eq_none (by simp [Builtin.zeroCells, hsz]; omega), List.getElem?_eq_none (by rw [flat_sz hf]; simp; omega)]
/-- n elements from the lo-th on are z -/
def clr {α : Type} (xs : List α) (z : α) : Nat → Nat → List α
  | _, 0 => xs
  | lo, n + 1 => clr (xs.set lo z) z (lo + 1) n
theorem clr_len {α : Type} (z : α) : ∀ (n lo : Nat) (xs : List α), (clr xs z lo n).length = xs.length
  | 0, _, _ => rfl
  | n + 1, lo, xs => by simp only [clr]; rw [clr_len z n, List.length_set]
theorem clr_take {α : Type} (z : α) : ∀ (n lo k : Nat) (xs : List α), k ≤ lo → (clr xs z lo n).take k = xs.take k
  | 0, _, _, _, _ => rfl
  | n + 1, lo, k, xs, h => by
    simp only [clr]
    rw [clr_take z n (lo + 1) k _ (by omega), List.take_set_of_le h]
theorem setCells_app (b : Nat) : ∀ (us vs : List Value) (o : Nat) (w : World), w.setCells b o (us ++ vs) = (w.setCells b o us).setCells b (o + us.length) vs
  | [], vs, o, w => rfl
  | u :: us, vs, o, w => by
    rw [List.cons_append, World.setCells, World.setCells, setCells_app b us vs, List.length_cons, show o + 1 + us.length = o + (us.length + 1) from by omega]
theorem OwS.cleared {α : Type} {f : α → List Value} {sz base g o n cap : Nat} {z : α} (hf : ∀ x, (f x).length = sz) : ∀ (q lo : Nat) (w : World) (xs : List α), OwS f sz w base (.slice (some ⟨g, o, none⟩) n cap) xs → lo + q ≤ xs.length → OwS f sz (w.setCells g (o + lo * sz) ((List.replicate q z).flatMap f)) base (.slice (some ⟨g, o, none⟩) n cap) (clr xs z lo q)
  | 0, lo, w, xs, h, _ => h
  | q + 1, lo, w, xs, h, hl => by
    obtain ⟨x, hx⟩ : ∃ x, xs[lo]? = some x := ⟨_, List.getElem?_eq_getElem (by omega)⟩
    have h1 := h.storedA hf z hx
    have h2 := OwS.cleared hf (z := z) q (lo + 1) _ _ h1 (by rw [List.length_set]; omega)
    rw [List.replicate_succ, List.flatMap_cons, setCells_app, hf]
    rw [show o + (lo + 1) * sz = o + lo * sz + sz from by rw [Nat.succ_mul]; omega] at h2
    exact h2
section
variable {P : Program} {c : Cx} {m m' : List (Nat × Value)} {l l' : List Hp} {o : Oper} {x y z : Operand} {v u u' : Value} {T T' S : TypeId}
theorem eff_clear {α : Type} {f : α → List Value} {e : TypeId} {d : TypeDesc} {sz bytes k lo up : Nat} {z' : Value} {xs : List α} (ho : o.op = .call { callee := .builtin .clear, args := #[x], argTypes := #[T] }) (hT : P.underlying T = some (.slice e)) (hE : Ty P e d sz bytes z') (hx : evo m x = some (sCut sz lo up v)) (hk : l[k]? = some (Hp.own f sz v xs))
    (hf : ∀ x, (f x).length = sz) (h1 : ∀ x u, u ∈ f x → u.oneCell' = true) (r : α) (hz : z'.cells.toList = f r) (hlu : lo ≤ up) (hu : up ≤ xs.length) (hl : l.set k (Hp.own f sz v (clr xs r lo (up - lo))) = l') : Eff P c m l o (fun _ l'' => l'' = l') := Eff.of fun a w s H => by
  have e1 : (underlying T).run P w = .ok (.slice e) w := run_underlying hT w
  have H1 := H.at_ hk
  have hO := H1.ows
  rcases hO with ⟨rfl, rfl⟩ | ⟨g, off, cap, rfl, hb, hlt, hcap, hsp, hel⟩
  · simp at hu
    obtain rfl : lo = 0 := by omega
    subst hu
    refine ⟨.tuple #[], w, ?_, l', rfl, ?_⟩
    · simp [execOp, ho, resolve, invoke, builtin, s.ev hx, Builtin.clear_, sCut, e1, Result.andThen]
    · exact Sat.back hk (by rw [← hl]; rfl) H1
  · by_cases hn : up - lo = 0
    · refine ⟨.tuple #[], w, ?_, l', rfl, ?_⟩
      · by_cases hcl : cap = lo <;> simp [execOp, ho, resolve, invoke, builtin, s.ev hx, Builtin.clear_, sCut, e1, Result.andThen, hn, hcl]
      · rw [hn] at hl
        exact Sat.back hk (by rw [← hl]; rfl) H1
    · have hne : cap ≠ lo := by omega
      have hO2 := OwS.cleared hf (z := r) (up - lo) lo w xs H1.ows (by omega)
      have hM := setCells_meta g ((List.replicate (up - lo) r).flatMap f) (off + lo * sz) w
      have H3 : Sat c.W (w.setCells g (off + lo * sz) ((List.replicate (up - lo) r).flatMap f)) (Hp.own f sz (.slice (some ⟨g, off, none⟩) xs.length cap) (clr xs r lo (up - lo)) * sep (l.eraseIdx k)) := H1.reown hO2 ⟨hM.1, hM.2.1, hM.2.2.1, by rw [hM.2.2.2.1]; exact Nat.le_refl _, fun q _ hq => hM.2.2.2.2 q (fun e => hq (by rw [e]; rfl))⟩ (.inl rfl)
      refine ⟨.tuple #[], _, ?_, l', rfl, Sat.back hk hl H3⟩
      have hfl := flat_sz hf (List.replicate (up - lo) r)
      rw [List.length_replicate] at hfl
      have hsub : lo * sz + (up - lo) * sz ≤ cap * sz := by
        rw [← Nat.add_mul]; exact Nat.mul_le_mul_right sz (by omega)
      have h2 := run_storeCells_cells (P := P) g (off + lo * sz) ((List.replicate (up - lo) r).flatMap f) 0 w (fun q hq => by rw [Nat.add_zero, Nat.add_assoc]; rw [hfl] at hq; exact (hsp _ (by omega)).1) (fun q hq => by rw [Nat.add_zero, Nat.add_assoc]; rw [hfl] at hq; exact (hsp _ (by omega)).2) (fun q hq => by
        obtain ⟨y, _, hy⟩ := List.mem_flatMap.1 hq; exact h1 y q hy)
      obtain ⟨q, hq⟩ : ∃ q, up - lo = q + 1 := ⟨up - lo - 1, by omega⟩
      rw [hq] at h2 ⊢
      simp [execOp, ho, resolve, invoke, builtin, s.ev hx, Builtin.clear_, sCut, e1, Result.andThen, hne, hq, addr_add, hE.zero, zero_flat hf hz, h2]
theorem val_ixaC {α : Type} {f : α → List Value} {e : TypeId} {d : TypeDesc} {sz bytes lo up n : Nat} {z' : Value} {xs : List α} {k : IntKind} {i : Int} {j : Nat} {y' : α} (ho : o.op = .indexAddr T x y) (hT : P.underlying T = some (.slice e)) (hE : Ty P e d sz bytes z') (hx : evo m x = some (sCut sz lo up v)) (hn : l[n]? = some (Hp.own f sz v xs)) (hy : evo m y = some (.int k i)) (hi : i = (j : Int)) (hj : xs[lo + j]? = some y') (h1 : lo + j < up) (h2 : up ≤ xs.length) :
    Val P c m l o (ptr (sB v) (sO v + (lo + j) * sz)) := Val.of fun a w s H => by
  subst hi
  rcases (H.at_ hn).ows with ⟨rfl, rfl⟩ | ⟨g, off, cap, rfl, hb, hlt, hcap, hsp, hel⟩
  · simp at hj
  · have hne : cap ≠ lo := by omega
    have h3 := run_ixa (P := P) (T := T) (w := w) (b := g) (of := off + lo * sz) (n := up - lo) (cap := cap - lo) (k := k) (j := j) hT hE (by omega)
    simp [execOp, ho, s.ev hx, s.ev hy, sCut, hne, addr_add, h3, Result.andThen, sB, sO]
    rw [Nat.add_mul]; omega
theorem len_cutO {α : Type} {f : α → List Value} {sz k lo up : Nat} {xs : List α} (hk : l[k]? = some (Hp.own f sz v xs)) : Len c l (sCut sz lo up v) (up - lo) := fun w H => by
  obtain ⟨a, cap, rfl, _⟩ := (H.at_ hk).ows.form
  exact ⟨_, _, rfl⟩
theorem val_eqlSN {e : TypeId} (ho : o.op = .binOp .eql T x y T') (hT : P.underlying T = some (.slice e)) (hy : evo m y = some (.slice none 0 0)) {ad : Option Addr} {n cap : Nat} (hx : evo m x = some (.slice ad n cap)) : Val P c m l o (.bool ad.isNone) := Val.of fun a w s H => by
  cases ad <;> simp [execOp, ho, s.ev hx, s.ev hy, eqGuard, binOp, Lib.run_equalIn_slice_nil _ _ _ _ _ _ _ _ _ hT, Op.equal, Op.maxDepth, Result.andThen]
end
end Go.Proofs.Ytfpkfbffpkjgbaa

/- Own slices of single cells, told to the cell: cells written anew, a new row; what lies in new memory alone. Over any program. No condition. -/
namespace Go.Proofs.Ytfpkfbffpkjgbaa
open Go.RowKit
set_option linter.unusedVariables false
set_option linter.unusedSimpArgs false
section
variable {α : Type} {p : α → Value} {W w w' : World} {R : Hp} {g o n cap base : Nat} {xs ys zs : List α}
theorem OwS.over (h : OwS (fun x => [p x]) 1 w base (.slice (some ⟨g, o, none⟩) n cap) xs) (lo : Nat) (zs : List α) (hlo : lo + zs.length ≤ cap) (hy : ys.length ≤ cap)
    (hc : ∀ j y, ys[j]? = some y → (lo ≤ j ∧ zs[j - lo]? = some y) ∨ ((j < lo ∨ lo + zs.length ≤ j) ∧ xs[j]? = some y)) : OwS (fun x => [p x]) 1 (w.setCells g (o + lo) (zs.map p)) base (.slice (some ⟨g, o, none⟩) ys.length cap) ys := by
  rcases h with ⟨e, _⟩ | ⟨g', o', cap', e, hb, hlt, hcap, hs, he⟩
  · cases e
  · cases e
    have hM := setCells_meta g (zs.map p) (o + lo) w
    have hin : ∀ j, j < (zs.map p).length → (w.cell? ⟨g, o + lo + j, none⟩).isSome = true := fun j hj => by
      rw [List.length_map] at hj
      rw [Nat.add_assoc]; exact (hs (lo + j) (by omega)).1
    refine .inr ⟨g, o, cap, rfl, hb, by rw [hM.2.2.2.1]; exact hlt, hy, fun j hj => ?_, fun j y hj i u hu => ?_⟩
    · rw [World.frozen?_setCells]
      exact ⟨World.isSome_setCells g _ _ _ _ (hs j hj).1, (hs j hj).2⟩
    · cases i with
      | succ i => simp at hu
      | zero =>
        simp at hu; subst hu
        rw [Nat.mul_one, Nat.add_zero]
        rcases hc j y hj with ⟨h1, h2⟩ | ⟨h1, h2⟩
        · have hl := (List.getElem?_eq_some_iff.1 h2).1
          have := World.cell?_setCells_in g (zs.map p) (o + lo) w hin (j - lo) (by rw [List.length_map]; exact hl)
          rw [show o + lo + (j - lo) = o + j by omega] at this
          rw [this, List.getElem_map]
          obtain ⟨_, e⟩ := List.getElem?_eq_some_iff.1 h2
          rw [e]
        · rw [World.cell?_setCells_out g _ _ _ _ (fun _ _ => by rw [List.length_map]; dsimp only; omega)]
          have := he j y h2 0 (p y) rfl
          rwa [Nat.mul_one, Nat.add_zero] at this
theorem Sat.over (H : Sat W w (Hp.own (fun x => [p x]) 1 (.slice (some ⟨g, o, none⟩) n cap) xs * R)) (lo : Nat) (zs : List α) (hlo : lo + zs.length ≤ cap) (hy : ys.length ≤ cap)
    (hc : ∀ j y, ys[j]? = some y → (lo ≤ j ∧ zs[j - lo]? = some y) ∨ ((j < lo ∨ lo + zs.length ≤ j) ∧ xs[j]? = some y)) : Sat W (w.setCells g (o + lo) (zs.map p)) (Hp.own (fun x => [p x]) 1 (.slice (some ⟨g, o, none⟩) ys.length cap) ys * R) := by
  have hM := setCells_meta g (zs.map p) (o + lo) w
  exact H.reown (H.ows.over lo zs hlo hy hc) ⟨hM.1, hM.2.1, hM.2.2.1, by rw [hM.2.2.2.1]; exact Nat.le_refl _, fun q _ hq => hM.2.2.2.2 q (fun e => hq (by rw [e]; rfl))⟩ (.inl rfl)
/-- a row that was just laid -/
theorem OwS.laid {cs : Array Value} {t : TypeId} (w : World) (hs : cs.size = cap) (hx : xs.length ≤ cap) (hc : ∀ (j : Nat) (x : α), xs[j]? = some x → cs[j]? = some (p x)) : OwS (fun x => [p x]) 1 (w.alloc (.cells cs t)) w.heap.size (.slice (some ⟨w.heap.size, 0, none⟩) xs.length cap) xs := by
  have hh : (w.alloc (.cells cs t)).heap[w.heap.size]? = some (.cells cs t (0, 0)) := heap_alloc_new w _
  refine .inr ⟨w.heap.size, 0, cap, rfl, Nat.le_refl _, by simp, hx, fun j hj => ?_, fun j x hj i u hu => ?_⟩
  · rw [Nat.zero_add, cell_of_row _ _ j _ t (0, 0) hh, frozen_of_row _ _ j _ t hh]
    refine ⟨?_, rfl⟩
    rw [Option.isSome_iff_exists]
    exact ⟨_, Array.getElem?_eq_getElem (by omega)⟩
  · cases i with
    | succ i => simp at hu
    | zero =>
      simp at hu; subst hu
      rw [Nat.zero_add, Nat.mul_one, Nat.add_zero, cell_of_row _ _ _ _ t (0, 0) hh]
      exact hc j x hj
end
/-- what lies in new memory alone is owned -/
theorem Sat.ofOwS {α : Type} {f : α → List Value} {sz : Nat} {w w' : World} {v : Value} {xs : List α} (hb : Below w.heap.size w w') (h : OwS f sz w' w.heap.size v xs) : Sat w w' (Hp.own f sz v xs) := by
  rcases h with ⟨rfl, rfl⟩ | ⟨g, off, cap, rfl, hb', hlt', hc', hs', he'⟩
  · exact ⟨hb, fun _ => none, fun k o hk => (by cases hk), .inl ⟨rfl, rfl, rfl⟩⟩
  · obtain ⟨o', ho'⟩ : ∃ o', w'.heap[g]? = some o' := ⟨_, Array.getElem?_eq_getElem hlt'⟩
    have hrow := isRow_of (w := w') (base := w.heap.size) (.inr ⟨g, off, cap, rfl, hb', hlt', hc', hs', he'⟩) ho'
    refine ⟨hb, single g o', fun k q hk => ?_, .inr ⟨g, off, cap, rfl, hc', o', hrow.1, rfl⟩⟩
    unfold single at hk
    split at hk
    · rename_i e; subst e; cases hk; exact ⟨hb', ho'⟩
    · cases hk
end Go.Proofs.Ytfpkfbffpkjgbaa

/- 'copy' into an own slice of single cells. Over any program. No condition. -/
namespace Go.Proofs.Ytfpkfbffpkjgbaa
open Go.RowKit
set_option linter.unusedVariables false
set_option linter.unusedSimpArgs false
/-- what is copied lies over what was there -/
def ovw {α : Type} (xs ys : List α) (lo q : Nat) : List α := xs.take lo ++ ys.take q ++ xs.drop (lo + q)
theorem ovw_len {α : Type} {xs ys : List α} {lo q : Nat} (h1 : lo + q ≤ xs.length) (h2 : q ≤ ys.length) : (ovw xs ys lo q).length = xs.length := by
  unfold ovw; simp; omega
theorem ovw_at {α : Type} {xs ys : List α} {lo q : Nat} (h1 : lo + q ≤ xs.length) (h2 : q ≤ ys.length) (j : Nat) : (ovw xs ys lo q)[j]? = if j < lo then xs[j]? else if j < lo + q then ys[j - lo]? else xs[j]? := by
  unfold ovw
  have e1 : (xs.take lo).length = lo := by simp; omega
  have e2 : (xs.take lo ++ ys.take q).length = lo + q := by simp; omega
  by_cases c : j < lo
  · rw [if_pos c, List.append_assoc, List.getElem?_append_left (by omega), List.getElem?_take, if_pos c]
  · rw [if_neg c]
    by_cases d : j < lo + q
    · rw [if_pos d, List.getElem?_append_left (by omega), List.getElem?_append_right (by omega), e1, List.getElem?_take, if_pos (by omega)]
    · rw [if_neg d, List.getElem?_append_right (by omega), e2, List.getElem?_drop]; congr 1; omega
section
variable {P : Program} {c : Cx} {m m' : List (Nat × Value)} {l l' : List Hp} {o : Oper} {x y z : Operand} {v u u' : Value} {T T' S : TypeId}
theorem eff_copyO {α : Type} {p : α → Value} {e : TypeId} {k lo up q : Nat} {dv : Value} {xs ys : List α} (ho : o.op = .call { callee := .builtin .copy, args := #[x, y], argTypes := #[T, T'] }) (hT : P.underlying T = some (.slice e)) (hE : (P.info? e).map (·.size) = some 1) (hx : evo m x = some dv) (hdv : ∀ w, Sat c.W w (sep l) → dv = sCut 1 lo up v) (hy : evo m y = some u) (hk : l[k]? = some (Hp.own (fun x => [p x]) 1 v xs))
    (hs : ∀ w, Sat c.W w (sep l) → SlS (fun x => [p x]) 1 w u ys) (h1 : ∀ x, (p x).oneCell' = true) (hlu : lo ≤ up) (hu : up ≤ xs.length) (hq : q = Nat.min ys.length (up - lo)) (hl : l.set k (Hp.own (fun x => [p x]) 1 v (ovw xs ys lo q)) = l') : Eff P c m l o (fun r l'' => r = .int .i64 ((q : Nat) : Int) ∧ l'' = l') := fun a w s H => by
  have e0 := hdv w H
  have H1 := H.at_ hk
  obtain ⟨a', scap, rfl, hm, hn, hcell⟩ := hs w H
  have hql : q ≤ ys.length := by rw [hq]; exact Nat.min_le_left ..
  have hqu : q ≤ up - lo := by rw [hq]; exact Nat.min_le_right ..
  have hol := ovw_len (xs := xs) (ys := ys) (lo := lo) (q := q) (by omega) hql
  have hrun : ∀ (w' : World), (Builtin.copy_ #[T, T'] o.type #[dv, .slice a' ys.length scap]).run P w = .ok (goInt q) w' → Sat c.W w' (sep l') → EffAt P o a w fun r w' => ∃ l'', (r = .int .i64 ((q : Nat) : Int) ∧ l'' = l') ∧ Sat c.W w' (sep l'') := fun w' hr H' => by
    have h9 : (execOp a.eval o).run P w = .ok (.value (goInt q)) w' := by
      simp [execOp, ho, resolve, invoke, builtin, s.ev hx, s.ev hy, hr, Result.andThen]
    unfold EffAt; rw [h9]; exact ⟨l', ⟨rfl, rfl⟩, H'⟩
  rcases H1.ows with ⟨rfl, rfl⟩ | ⟨g, off, cap, rfl, hb, hlt, hcap, hsp, hel⟩
  · simp at hu
    have : q = 0 := by omega
    subst this
    refine hrun w ?_ (Sat.back hk (by rw [← hl]; congr 1; unfold ovw; simp) H1)
    rw [e0, show sCut 1 lo up (.slice none 0 0) = .slice (if 0 = lo then none else Option.map (fun a : Addr => a.add (lo * 1)) none) (up - lo) (0 - lo) from rfl]
    exact run_copy_none w T T' o.type e _ a' _ _ _ _ hT hE hq.symm
  · by_cases h0 : q = 0
    · subst h0
      refine hrun w ?_ (Sat.back hk (by rw [← hl]; congr 1; unfold ovw; simp) H1)
      rw [e0, show sCut 1 lo up (.slice (some ⟨g, off, none⟩) xs.length cap) = .slice (if cap = lo then some ⟨g, off, none⟩ else (some (⟨g, off, none⟩ : Addr)).map (·.add (lo * 1))) (up - lo) (cap - lo) from rfl]
      exact run_copy_none w T T' o.type e _ a' _ _ _ _ hT hE hq.symm
    · have hne : cap ≠ lo := by omega
      obtain ⟨y0, hy0⟩ := get_of_lt (xs := ys) (k := 0) (by omega)
      obtain ⟨b, of, e1, hbl, _⟩ := hcell 0 y0 hy0
      subst e1
      have hcs : ∀ j y, ys[j]? = some y → w.cell? ((⟨b, of, none⟩ : Addr).add j) = some (p y) := fun j y hj => by
        obtain ⟨b', of', e1, _, h2⟩ := hcell j y hj
        cases e1
        have := h2 0 (p y) rfl
        rw [addr_add]
        rwa [Nat.mul_one, Nat.add_zero] at this
      have H2 := H1.over (ys := ovw xs ys lo q) lo (ys.take q) (by rw [List.length_take]; omega) (by omega) (fun j y hj => by
        rw [ovw_at (by omega) hql] at hj
        rw [List.length_take, Nat.min_eq_left hql, List.getElem?_take]
        by_cases q1 : j < lo
        · rw [if_pos q1] at hj; exact .inr ⟨.inl q1, hj⟩
        · rw [if_neg q1] at hj
          by_cases q2 : j < lo + q
          · rw [if_pos q2] at hj; exact .inl ⟨by omega, by rw [if_pos (by omega)]; exact hj⟩
          · rw [if_neg q2] at hj; exact .inr ⟨.inr (by omega), hj⟩)
      rw [hol] at H2
      refine hrun _ ?_ (Sat.back hk hl H2)
      rw [e0, show sCut 1 lo up (.slice (some ⟨g, off, none⟩) xs.length cap) = .slice (if cap = lo then some ⟨g, off, none⟩ else (some (⟨g, off, none⟩ : Addr)).map (·.add (lo * 1))) (up - lo) (cap - lo) from rfl, if_neg hne, Option.map_some, addr_add, Nat.mul_one]
      have hlen : ((ys.take q).map p).length = q := by rw [List.length_map, List.length_take]; omega
      have := run_copy_cells (P := P) w T T' o.type e g (off + lo) (up - lo) (cap - lo) ⟨b, of, none⟩ ys.length scap ((ys.take q).map p) hT hE (by rw [hlen]; exact hq) (fun j z hj => by
        rw [List.getElem?_map] at hj
        cases hy2 : (ys.take q)[j]? with
        | none => rw [hy2] at hj; cases hj
        | some y =>
          rw [hy2] at hj; cases hj
          rw [List.getElem?_take] at hy2
          split at hy2
          · exact hcs j y hy2
          · cases hy2) (fun j hj => by rw [Nat.add_assoc]; exact (hsp _ (by omega)).1) (fun j hj => by rw [Nat.add_assoc]; exact (hsp _ (by omega)).2) (fun z hz => by
        obtain ⟨y, _, rfl⟩ := List.mem_map.1 hz; exact h1 y)
      rw [hlen] at this
      exact this
theorem sCut_own {α : Type} {f : α → List Value} {sz k : Nat} {xs : List α} (hk : l[k]? = some (Hp.own f sz v xs)) : ∀ w, Sat c.W w (sep l) → v = sCut sz 0 xs.length v := fun w H => by
  rcases (H.at_ hk).ows with ⟨rfl, rfl⟩ | ⟨g, off, cap, rfl, hb, hlt, hcap, hsp, hel⟩
  · rfl
  · show _ = Value.slice (if cap = 0 then some ⟨g, off, none⟩ else (some (⟨g, off, none⟩ : Addr)).map (·.add (0 * sz))) (xs.length - 0) (cap - 0)
    rw [Option.map_some, addr_add, Nat.zero_mul, Nat.add_zero, ite_self, Nat.sub_zero, Nat.sub_zero]
end
end Go.Proofs.Ytfpkfbffpkjgbaa

/- Two places of one slice, compared. Over any program. No condition. -/
namespace Go.Proofs.Ytfpkfbffpkjgbaa
open Go.RowKit
set_option linter.unusedVariables false
set_option linter.unusedSimpArgs false
section
variable {P : Program} {c : Cx} {m : List (Nat × Value)} {l : List Hp} {o : Oper} {x y : Operand} {T T' : TypeId}
theorem run_equalInPP {P : Program} (d : Nat) (w : World) (t E : TypeId) (b i j n : Nat) (h : P.underlying t = some (.pointer E)) (hz : ∀ w, (sizeOf E).run P w = .ok (n + 1) w) :
    (Op.equalIn (d + 1) t (.pointer (some ⟨b, i, none⟩)) (.pointer (some ⟨b, j, none⟩))).run P w = .ok (decide (i = j)) w := by
  have hs : (sameAddr ⟨b, i, none⟩ ⟨b, j, none⟩).run P w = .ok (decide (i = j)) w := by
    unfold sameAddr
    rw [if_pos (by simp)]
    show Result.ok ((⟨b, i, none⟩ : Addr) == ⟨b, j, none⟩) w = _
    congr 1
    by_cases e : i = j
    · subst e; simp
    · rw [decide_eq_false e]
      exact beq_eq_false_iff_ne.2 (fun h => e (by cases h; rfl))
  simp [Op.equalIn, run_underlying h, hz, hs]
theorem run_equalPP {P : Program} (w : World) (t E : TypeId) (b i j n : Nat) (h : P.underlying t = some (.pointer E)) (hz : ∀ w, (sizeOf E).run P w = .ok (n + 1) w) :
    (Op.equal t (.pointer (some ⟨b, i, none⟩)) (.pointer (some ⟨b, j, none⟩))).run P w = .ok (decide (i = j)) w := run_equalInPP 9999 w t E b i j n h hz
theorem val_neqPP {b i j n : Nat} (ho : o.op = .binOp .neq T x y T') {E : TypeId} (hT : P.underlying T = some (.pointer E)) (hz : ∀ w, (sizeOf E).run P w = .ok (n + 1) w) (hx : evo m x = some (.pointer (some ⟨b, i, none⟩))) (hy : evo m y = some (.pointer (some ⟨b, j, none⟩))) {q : Prop} [Decidable q] (hq : i ≠ j ↔ q) : Val P c m l o (.bool (decide q)) := Val.of fun a w s H => by
  have e : (!decide (i = j)) = decide q := by
    by_cases h : i = j
    · rw [decide_eq_true h, decide_eq_false (fun h2 => hq.2 h2 h)]; rfl
    · rw [decide_eq_false h, decide_eq_true (hq.1 h)]; rfl
  simp [execOp, ho, s.ev hx, s.ev hy, eqGuard, binOp, run_equalPP w T E b i j n hT hz, Result.andThen, e]
theorem val_makeInterface {v : Value} (ho : o.op = .makeInterface T x) (hx : evo m x = some v) (hr : ∀ w, (Instr.makeInterface T v).run P w = .ok (.iface T v) w) : Val P c m l o (.iface T v) := Val.of fun a w s H => by
  simp [execOp, ho, s.ev hx, hr, Result.andThen]
end
end Go.Proofs.Ytfpkfbffpkjgbaa

/- A string's byte by its place. Over any program. No condition. -/
namespace Go.Proofs.Ytfpkfbffpkjgbaa
open Go.RowKit
set_option linter.unusedVariables false
set_option linter.unusedSimpArgs false
section
variable {P : Program} {c : Cx} {m : List (Nat × Value)} {l : List Hp} {o : Oper} {x y : Operand} {T T' : TypeId}
theorem val_indexS {i : Nat} {q : IntKind} {s0 : ByteArray} {b : UInt8} (ho : o.op = .index T x y) (hT : P.underlying T = some .string) (hx : evo m x = some (.string s0)) (hy : evo m y = some (.int q (i : Int))) (hv : s0[i]? = some b) : Val P c m l o (.int .u8 (b.toNat : Int)) := Val.of fun a w s H => by
  have hv' : s0[((i : Nat) : Int).toNat]? = some b := hv
  simp [execOp, ho, s.ev hx, s.ev hy, Instr.index, asIntOf, run_underlying hT, hv, hv', Result.andThen]
end
end Go.Proofs.Ytfpkfbffpkjgbaa

/- A statement that stores, and leaves the order of its reads open. Over any program. No condition. -/
namespace Go.Proofs.Ytfpkfbffpkjgbaa
open Go.RowKit
set_option linter.unusedVariables false

section
variable {P : Program} {ops : Array Oper} {md : Region.Mode} {eff : Nat → Bool} {C : List Value → World → Prop} {T : List Value → Act → Prop} {i : Nat} {rest : List Nat} {vs : List Value} {a : Act} {o : Oper}

/-- an operation that reads alone, of this stage alone -/
theorem gWalk_val0 (D : World → Prop) (ho : ops[i]? = some o) (hw : Region.wanted o (yielded ops a.tmps) = true) (he : eff i = false)
    (hno : valued o.op = true) (hhi : decide (hiOf md ops eff i ≤ vs.length) = true) (hD : ∀ w, C vs w → D w)
    (h : ∀ K : Act → Prop, (∀ a, gWalk P md ops eff C T rest vs a → K a) → o.quiet P a D K) : gWalk P md ops eff C T (i :: rest) vs a := by
  obtain ⟨v, h1, h2⟩ := h _ (fun _ h => h)
  unfold gWalk
  simp only [ho, hw, if_true, he, Bool.false_eq_true, if_false]
  refine ⟨v, fun us hp hl w hc => ?_, h2⟩
  have : vs = us := hp.eq_of_length_le (Nat.le_trans hl (of_decide_eq_true hhi))
  subst this
  have h3 := h1 w (hD w hc)
  unfold Oper.quietAt at h3
  unfold EffAt
  have hn := noEnter (P := P) hno a.eval w
  generalize (execOp a.eval o).run P w = r at *
  cases r with
  | ok n w' =>
    cases n <;> simp only [Oper.quietUpon] at h3 <;> simp only [EffUpon]
    case value u => obtain ⟨e1, e2⟩ := h3; subst e1; exact ⟨e2, hc⟩
    case skip => obtain ⟨e1, e2⟩ := h3; subst e1; exact ⟨e2.symm, hc⟩
    case enter f args => exact absurd rfl (hn w' f args)
  | halt x w' => simp only [Oper.quietUpon] at h3

/-- a store -/
theorem gWalk_st (nw : World → World) (ho : ops[i]? = some o) (hw : Region.wanted o (yielded ops a.tmps) = true) (he : eff i = true)
    (hrun : ∀ w, C vs w → (execOp a.eval o).run P w = .ok .skip (nw w)) (hC : ∀ w, C vs w → C (vs ++ [undef]) (nw w))
    (h2 : gWalk P md ops eff C T rest (vs ++ [undef]) (a.put o.dst undef)) : gWalk P md ops eff C T (i :: rest) vs a := by
  refine gWalk_eff (fun u => u = undef) ho hw he (fun w hc => ?_) (fun u hu => by subst hu; exact h2)
  unfold EffAt
  rw [hrun w hc]
  exact ⟨rfl, hC w hc⟩
/-- a value that is made in memory -/
theorem gWalk_mk (val : World → Value) (nw : World → World) (ho : ops[i]? = some o) (hw : Region.wanted o (yielded ops a.tmps) = true) (he : eff i = true)
    (hrun : ∀ w, C vs w → (execOp a.eval o).run P w = .ok (.value (val w)) (nw w)) (R : Value → Prop) (hC : ∀ w, C vs w → R (val w) ∧ C (vs ++ [val w]) (nw w))
    (h2 : ∀ v, R v → gWalk P md ops eff C T rest (vs ++ [v]) (a.put o.dst v)) : gWalk P md ops eff C T (i :: rest) vs a := by
  refine gWalk_eff R ho hw he (fun w hc => ?_) h2
  unfold EffAt
  rw [hrun w hc]
  exact hC w hc
end
/-- a store into an element of one cell -/
theorem Sat.put1 {α : Type} {f : α → List Value} {W w : World} {R : Hp} {g off n cap : Nat} {xs : List α} (H : Sat W w (Hp.own f 1 (.slice (some ⟨g, off, none⟩) n cap) xs * R)) (hf : ∀ x, (f x).length = 1) {j : Nat} (hj : j < xs.length) {u : Value} {y : α} (hy : f y = [u]) :
    Sat W (w.setCell ⟨g, off + j, none⟩ u) (Hp.own f 1 (.slice (some ⟨g, off, none⟩) n cap) (xs.set j y) * R) := by
  obtain ⟨x, hx⟩ := get_of_lt hj
  have h := (H.spell hx).put0 hf hj u y (by decide) (by
    rw [hy]
    have := hf x
    match hfx : f x, this with
    | [z], _ => rfl)
  rwa [Nat.mul_one] at h
theorem Sat.cell1 {α : Type} {f : α → List Value} {W w : World} {R : Hp} {g off n cap : Nat} {xs : List α} (H : Sat W w (Hp.own f 1 (.slice (some ⟨g, off, none⟩) n cap) xs * R)) {j : Nat} {x : α} (hx : xs[j]? = some x) {u : Value} (hu : f x = [u]) :
    w.cell? ⟨g, off + j, none⟩ = some u ∧ w.frozen? ⟨g, off + j, none⟩ = false := by
  have h := H.ows.el hx 0 (u := u) (by rw [hu]; rfl) (by decide)
  simpa using h
/-- stage by stage -/
def stC (p : World → Prop) (q : World → Prop) : List Value → World → Prop
  | [], w => p w
  | _ :: _, w => q w
end Go.Proofs.Ytfpkfbffpkjgbaa

/- A range over a function, in parts of memory that share nothing: the iterator may keep state of its own. Over any program. No condition. -/
namespace Go.Proofs.Ytfpkfbffpkjgbaa
open Go.RowKit
set_option linter.unusedVariables false

/-- a block, just so -/
def Hp.obj (b : Nat) (o : Obj) : Hp := Hp.blk b (fun x => x = o)
theorem Sat.obj {W w : World} {b : Nat} {o : Obj} {R : Hp} (H : Sat W w (Hp.obj b o * R)) : w.heap[b]? = some o := by
  obtain ⟨_, x, hx, rfl⟩ := H.blk; exact hx
theorem Sat.putObj {W w : World} {b : Nat} {o : Obj} {R : Hp} (H : Sat W w (Hp.obj b o * R)) (o' : Obj) : Sat W (w.putObj b o') (Hp.obj b o' * R) :=
  H.blk_change (grownBy_putObj' w b o') fun x hx _ => ⟨o', World.putObj_heap_same (Array.getElem?_eq_some_iff.1 hx).1, rfl⟩
theorem Sat.allocObj {W w : World} {R : Hp} (H : Sat W w R) (o : Obj) {b : Nat} (hb : w.heap.size = b) : Sat W (w.alloc o) (Hp.obj b o * R) := by
  subst hb; exact H.alloc_blk o rfl

/-- the record of a loop over a function -/
def recOf_ (fn : FuncId) (tmps : Array Value) (ps : Array Tmp) (assign body : Code) (d : Nat) (st : LoopState) : Loop := { state := st, pending := none, fn, tmps, params := ps, assign, body, defers := d }

/-- where the body of a round may be left: off its end -/
def roundEnd (p : World → Prop) : Exit → Act → World → Prop
  | .normal, _, w => p w
  | _, _, _ => False

/-- what the iterator is told of yield: k rounds are over, one more goes -/
def Yields (P : Program) (W : World) (l : Nat) (encs : Nat → Array Value) (n : Nat) (B : Nat → Hp) : Prop :=
  ∀ k w R, k < n → Sat W w (B k * R) → YieldAt Fence.wide 0 P l (encs k) w fun e w' => e = .returned (.bool true) ∧ Sat W w' (B (k + 1) * R)

theorem wp_rangeFunc {P : Program} {g : Operand} {ps : Array Tmp} {assign body : Code} {Q : Exit → Act → World → Prop} {a : Act} {W w : World}
    {gf : Nat} {lb : Array Value} (hg : a.eval g = .func (.func gf) #[] lb) (eg : ∀ args w, (callFunc gf args).run P w = .ok (.enter gf args) w)
    (encs : Nat → Array Value) (n : Nat) (hps : ∀ k, (encs k).size = ps.size) (A : Nat → Hp) (R0 R1 : Hp) (H : Sat W w (A 0 * R0))
    (iter : ∀ (l : Nat) (B : Nat → Hp) (w1 : World), Yields P W l encs n B → Sat W w1 (B 0 * R0) → Calls P gf (#[.func (.yield l) #[] #[]] ++ lb) w1 fun e w' => (∃ v, e = .returned v) ∧ Sat W w' (B n * R1))
    (a₁ : Nat → Act)
    (hassign : ∀ (l k : Nat) (w1 : World) (K : Act → World → Prop), k < n → K (a₁ k) w1 →
      assign.wpIn (Fence.wide.inRound l) 0 P (Exit.then K (fun _ _ _ => False)) { tmps := (ps.zip (encs k)).foldl (fun t (p, v) => t.setIfInBounds p v) a.tmps, defers := [] } w1)
    (hbody : ∀ (l k : Nat) (w1 : World) (R : Hp), k < n → Sat W w1 (A k * R) → body.wpIn (Fence.wide.inRound l) 0 P (roundEnd fun w' => Sat W w' (A (k + 1) * R)) (a₁ k) w1)
    (hdone : ∀ (D : Nat) (w' : World), W.heap.size ≤ D → Sat W w' (Hp.obj D (.deferred (some [])) * (A n * R1)) → Q .normal { a with defers := { target := .collected D, args := #[] } :: a.defers } w') :
    (Code.rangeFunc g ps assign body).wp P Q a w := by
  refine wpIn_wide (n := 0) |>.1 (wpIn_rangeFunc fun fn _ => ?_)
  have H1 := (H.allocObj (.deferred (some [])) rfl).allocObj (.loop (recOf_ fn a.tmps ps assign body w.heap.size .ready)) (b := w.heap.size + 1) (by simp)
  obtain ⟨W1, hW1⟩ : ∃ W1, W1 = (w.alloc (.deferred (some []))).alloc (.loop (recOf_ fn a.tmps ps assign body w.heap.size .ready)) := ⟨_, rfl⟩
  rw [← hW1] at H1
  refine ⟨w.heap.size + 1, [{ target := .collected w.heap.size, args := #[] }], W1, { target := .fn (.func gf) lb, args := #[.func (.yield (w.heap.size + 1)) #[] #[]] }, W1, gf,
    #[.func (.yield (w.heap.size + 1)) #[] #[]] ++ lb, W1, by rw [hW1]; exact run_enterLoop_outer _ _ _ _ _, ?_, fun _ _ => trivial, ?_, fun h => by simp [Fence.wide] at h, ?_⟩
  · simp only [resolve, hg]
    simp [go_sem]
  · simp [invoke, go_sem, eg]
  · refine callsIn_wide.2 ?_
    have hY : Yields P W (w.heap.size + 1) encs n (fun k => Hp.obj (w.heap.size + 1) (.loop (recOf_ fn a.tmps ps assign body w.heap.size .ready)) * (Hp.obj w.heap.size (.deferred (some [])) * A k)) := by
      intro k w2 R hk hs
      have hs1 := hs.assoc
      have hl := hs1.obj
      refine ⟨fn, _, assign, body, run_yield (P := P) (args := encs k) hl (hps k), roundIn_of_wpIn trivial (hassign _ k w2 _ hk ⟨_, run_beginRound hl rfl, ?_⟩)⟩
      have hs2 := hs1.putObj (.loop (recOf_ fn a.tmps ps assign body w.heap.size .busy))
      have hs3 : Sat W (w2.putObj (w.heap.size + 1) (.loop (recOf_ fn a.tmps ps assign body w.heap.size .busy))) (A k * (Hp.obj (w.heap.size + 1) (.loop (recOf_ fn a.tmps ps assign body w.heap.size .busy)) * (Hp.obj w.heap.size (.deferred (some [])) * R))) := hs2.cast (by ac_rfl)
      refine wpIn_mono (hbody _ k _ _ hk hs3) fun e a3 w3 hp => ?_
      cases e with
      | normal =>
        have h4 : Sat W w3 (A (k + 1) * (Hp.obj (w.heap.size + 1) (.loop (recOf_ fn a.tmps ps assign body w.heap.size .busy)) * (Hp.obj w.heap.size (.deferred (some [])) * R))) := hp
        have h5 := h4.sw
        have h6 := h5.putObj (.loop (recOf_ fn a.tmps ps assign body w.heap.size .ready))
        exact ⟨_, _, run_endRound none h5.obj, rfl, h6.cast (by ac_rfl)⟩
      | exit id => exact False.elim hp
      | goto t => exact False.elim hp
      | ret => exact False.elim hp
      | panic c => exact False.elim hp
      | outgrown => exact False.elim hp
    refine (iter _ _ _ hY (H1.cast (by ac_rfl))).mono ?_
    rintro e w2 ⟨⟨v, rfl⟩, hs⟩
    have hs1 := hs.assoc
    have hl := hs1.obj
    have h2 := hs1.putObj (.loop { recOf_ fn a.tmps ps assign body w.heap.size .ready with state := .exhausted })
    exact ⟨none, _, run_endLoop (P := P) hl (by simp [recOf_]), hdone _ _ (Nat.le_trans H.size (Nat.le_refl _)) (h2.drop.cast (by ac_rfl))⟩

/-- a contract of a function that ranges over functions -/
theorem calls_marks {P : Program} {f : FuncId} {fn : Func} {c : Code} {args : Array Value} {w : World} {R : Ending → World → Prop} (hf : P.funcs[f]? = some fn) (hb : fn.body = some c)
    (h : c.wp P (bodyPostM Fence.wide 0 P fn R) { tmps := args ++ Array.replicate (fn.ntmps - args.size) undef, defers := [] } w) : Calls P f args w R :=
  (callsIn_wide (n := 0)).1 (callsIn_of_wp_marks hf hb trivial (wpIn_wide.2 h))

section
variable {α : Type} {P : Program} {W w : World} {R : Hp} {e : TypeId} {z : Value} {sz bytes : Nat} {f : α → List Value} {xs : List α} {v : Value}
/-- 'append(out, y)' in a round -/
theorem wpListIn_pushH {F : Fence} {n : Nat} {ops : Array Oper} {rest : List Oper} {o : Oper} {a : Act} {Q : Exit → Act → World → Prop} (hgd : o.guard = none) (s x : Operand) (t : TypeId) (ho : o.op = .call { callee := .builtin .append, args := #[s, x], argTypes := #[t, t] })
    (E : Elem P t e z sz bytes) (f : α → List Value) (hf : ∀ x, (f x).length = sz) (h1 : ∀ x u, u ∈ f x → u.oneCell' = true) (y : α) (b0 : Nat) (hs : a.eval s = v) (hx : a.eval x = .slice (some ⟨b0, 0, none⟩) 1 1)
    (H : Sat W w (Hp.rec_ b0 (f y) * (Hp.own f sz v xs * R)))
    (hlen : (xs.length + 1) * bytes ≤ 140737488355328) (hm : xs.length + 1 ≤ 140737488355328)
    (h : ∀ v' w', isSl v' (xs.length + 1) → Sat W w' (Hp.own f sz v' (xs ++ [y]) * R) → wpListIn F n P ops Q rest (a.put o.dst v') w') : wpListIn F n P ops Q (o :: rest) a w := by
  refine wpListIn_plain hgd fun K hK => ?_
  obtain ⟨v', w', hrun, q1, q2⟩ := H.pushRun t o.type E f hf h1 y b0 hlen hm
  unfold Oper.wpIn
  refine ⟨?_, ?_⟩
  · simp [Oper.about, ho, resolve, Target.leads, Sem.run_pure]
  · rw [Oper.semAt_plain F _ _ (by rw [ho]; intro c hc'; cases hc')]
    simp [execOp, ho, resolve, invoke, builtin, hs, hx, hrun, Result.andThen]
    exact hK _ _ (h v' w' q2 q1)
end
/-- the end of a function that ranged over a function: the mark is come to -/
theorem marks_ret {P : Program} {fn : Func} {R : Ending → World → Prop} {tmps : Array Value} {D : Nat} {W w : World} {A : Hp} (H : Sat W w (Hp.obj D (.deferred (some [])) * A)) {v : Value} (hr : ∀ w', (results fn tmps).run P w' = .ok v w')
    (h : ∀ w', Sat W w' (Hp.obj D (.deferred none) * A) → R (.returned v) w') : bodyPostM Fence.wide 0 P fn R .ret { tmps := tmps, defers := [{ target := .collected D, args := #[] }] } w := by
  refine ⟨by simp, .inl ⟨_, _, rfl, run_takeDeferred H.obj, ?_⟩⟩
  exact ⟨_, hr _, h _ (H.putObj _)⟩
end Go.Proofs.Ytfpkfbffpkjgbaa

/- A range over a function whose rounds keep one state, and may end the whole function early. Over any program. No condition. -/
namespace Go.Proofs.Ytfpkfbffpkjgbaa
open Go.RowKit
set_option linter.unusedVariables false

/-- where the body of a round may be left: by a return -/
def roundRet (p : World → Prop) : Exit → Act → World → Prop
  | .ret, _, w => p w
  | _, _, _ => False

/-- what the iterator is told of yield: at what is good the state stays; at what is not it is left -/
def YieldsC {α : Type} (P : Program) (W : World) (l : Nat) (enc : α → Array Value) (S : α → Prop) (good : α → Bool) (B Z : Hp) : Prop :=
  (∀ p, S p → good p = true → ∀ w R, Sat W w (B * R) → YieldAt Fence.wide 0 P l (enc p) w fun e w' => e = .returned (.bool true) ∧ Sat W w' (B * R)) ∧
  (∀ p, S p → good p = false → ∀ w R, Sat W w (B * R) → YieldAt Fence.wide 0 P l (enc p) w fun e w' => e = .returned (.bool false) ∧ Sat W w' (Z * R))

theorem wp_rangeFuncC {α : Type} {P : Program} {g : Operand} {ps : Array Tmp} {assign body : Code} {Q : Exit → Act → World → Prop} {a : Act} {W w : World}
    {gf : Nat} {lb : Array Value} (hg : a.eval g = .func (.func gf) #[] lb) (eg : ∀ args w, (callFunc gf args).run P w = .ok (.enter gf args) w)
    (enc : α → Array Value) (S : α → Prop) (good : α → Bool) (ok : Bool) (hps : ∀ p, (enc p).size = ps.size) (B Z R0 R1 : Hp) (H : Sat W w (B * R0))
    (iter : ∀ (l : Nat) (B' Z' : Hp) (w1 : World), YieldsC P W l enc S good B' Z' → Sat W w1 (B' * R0) → Calls P gf (#[.func (.yield l) #[] #[]] ++ lb) w1 fun e w' => (∃ v, e = .returned v) ∧ ((ok = true ∧ Sat W w' (B' * R1)) ∨ (ok = false ∧ Sat W w' (Z' * R1))))
    (A₁ : α → Act → Prop)
    (hassign : ∀ (l : Nat) (p : α) (w1 : World) (R : Hp) (K : Act → World → Prop), S p → Sat W w1 (B * R) → (∀ a₁ w2, A₁ p a₁ → Sat W w2 (B * R) → K a₁ w2) →
      assign.wpIn (Fence.wide.inRound l) 0 P (Exit.then K (fun _ _ _ => False)) { tmps := (ps.zip (enc p)).foldl (fun t (p, v) => t.setIfInBounds p v) a.tmps, defers := [] } w1)
    (hbody : ∀ (l : Nat) (p : α) (a₁ : Act) (w1 : World) (R : Hp), S p → good p = true → A₁ p a₁ → Sat W w1 (B * R) → body.wpIn (Fence.wide.inRound l) 0 P (roundEnd fun w' => Sat W w' (B * R)) a₁ w1)
    (hstop : ∀ (l : Nat) (p : α) (a₁ : Act) (w1 : World) (R : Hp), S p → good p = false → A₁ p a₁ → Sat W w1 (B * R) → body.wpIn (Fence.wide.inRound l) 0 P (roundRet fun w' => Sat W w' (Z * R)) a₁ w1)
    (hdone : ok = true → ∀ (D : Nat) (w' : World), Sat W w' (Hp.obj D (.deferred (some [])) * (B * R1)) → Q .normal { a with defers := { target := .collected D, args := #[] } :: a.defers } w')
    (hret : ok = false → ∀ (D : Nat) (w' : World), Sat W w' (Hp.obj D (.deferred (some [])) * (Z * R1)) → Q .ret { a with defers := { target := .collected D, args := #[] } :: a.defers } w') :
    (Code.rangeFunc g ps assign body).wp P Q a w := by
  refine wpIn_wide (n := 0) |>.1 (wpIn_rangeFunc fun fn _ => ?_)
  have H1 := (H.allocObj (.deferred (some [])) rfl).allocObj (.loop (recOf_ fn a.tmps ps assign body w.heap.size .ready)) (b := w.heap.size + 1) (by simp)
  obtain ⟨W1, hW1⟩ : ∃ W1, W1 = (w.alloc (.deferred (some []))).alloc (.loop (recOf_ fn a.tmps ps assign body w.heap.size .ready)) := ⟨_, rfl⟩
  rw [← hW1] at H1
  refine ⟨w.heap.size + 1, [{ target := .collected w.heap.size, args := #[] }], W1, { target := .fn (.func gf) lb, args := #[.func (.yield (w.heap.size + 1)) #[] #[]] }, W1, gf,
    #[.func (.yield (w.heap.size + 1)) #[] #[]] ++ lb, W1, by rw [hW1]; exact run_enterLoop_outer _ _ _ _ _, ?_, fun _ _ => trivial, ?_, fun h => by simp [Fence.wide] at h, ?_⟩
  · simp only [resolve, hg]
    simp [go_sem]
  · simp [invoke, go_sem, eg]
  · refine callsIn_wide.2 ?_
    have hY : YieldsC P W (w.heap.size + 1) enc S good (Hp.obj (w.heap.size + 1) (.loop (recOf_ fn a.tmps ps assign body w.heap.size .ready)) * (Hp.obj w.heap.size (.deferred (some [])) * B))
        (Hp.obj (w.heap.size + 1) (.loop { recOf_ fn a.tmps ps assign body w.heap.size .done with pending := some .ret }) * (Hp.obj w.heap.size (.deferred (some [])) * Z)) := by
      refine ⟨fun p hS hp w2 R hs => ?_, fun p hS hp w2 R hs => ?_⟩
      · have hs1 := hs.assoc
        have hl := hs1.obj
        refine ⟨fn, _, assign, body, run_yield (P := P) (args := enc p) hl (hps p), roundIn_of_wpIn trivial (hassign _ p w2 _ _ hS (hs1.cast (Q := B * (Hp.obj (w.heap.size + 1) (.loop (recOf_ fn a.tmps ps assign body w.heap.size .ready)) * (Hp.obj w.heap.size (.deferred (some [])) * R))) (by ac_rfl)) fun a₁ w3 ha₁ hsB => ?_)⟩
        have hs1 : Sat W w3 (Hp.obj (w.heap.size + 1) (.loop (recOf_ fn a.tmps ps assign body w.heap.size .ready)) * (Hp.obj w.heap.size (.deferred (some [])) * (B * R))) := hsB.cast (by ac_rfl)
        refine ⟨_, run_beginRound hs1.obj rfl, ?_⟩
        have hs2 := hs1.putObj (.loop (recOf_ fn a.tmps ps assign body w.heap.size .busy))
        have hs3 : Sat W (w3.putObj (w.heap.size + 1) (.loop (recOf_ fn a.tmps ps assign body w.heap.size .busy))) (B * (Hp.obj (w.heap.size + 1) (.loop (recOf_ fn a.tmps ps assign body w.heap.size .busy)) * (Hp.obj w.heap.size (.deferred (some [])) * R))) := hs2.cast (by ac_rfl)
        refine wpIn_mono (hbody _ p a₁ _ _ hS hp ha₁ hs3) fun e a3 w4 hp => ?_
        cases e with
        | normal =>
          have h4 : Sat W w4 (B * (Hp.obj (w.heap.size + 1) (.loop (recOf_ fn a.tmps ps assign body w.heap.size .busy)) * (Hp.obj w.heap.size (.deferred (some [])) * R))) := hp
          have h5 := h4.sw
          have h6 := h5.putObj (.loop (recOf_ fn a.tmps ps assign body w.heap.size .ready))
          exact ⟨_, _, run_endRound none h5.obj, rfl, h6.cast (by ac_rfl)⟩
        | exit id => exact False.elim hp
        | goto t => exact False.elim hp
        | ret => exact False.elim hp
        | panic c => exact False.elim hp
        | outgrown => exact False.elim hp
      · have hs1 := hs.assoc
        have hl := hs1.obj
        refine ⟨fn, _, assign, body, run_yield (P := P) (args := enc p) hl (hps p), roundIn_of_wpIn trivial (hassign _ p w2 _ _ hS (hs1.cast (Q := B * (Hp.obj (w.heap.size + 1) (.loop (recOf_ fn a.tmps ps assign body w.heap.size .ready)) * (Hp.obj w.heap.size (.deferred (some [])) * R))) (by ac_rfl)) fun a₁ w3 ha₁ hsB => ?_)⟩
        have hs1 : Sat W w3 (Hp.obj (w.heap.size + 1) (.loop (recOf_ fn a.tmps ps assign body w.heap.size .ready)) * (Hp.obj w.heap.size (.deferred (some [])) * (B * R))) := hsB.cast (by ac_rfl)
        refine ⟨_, run_beginRound hs1.obj rfl, ?_⟩
        have hs2 := hs1.putObj (.loop (recOf_ fn a.tmps ps assign body w.heap.size .busy))
        have hs3 : Sat W (w3.putObj (w.heap.size + 1) (.loop (recOf_ fn a.tmps ps assign body w.heap.size .busy))) (B * (Hp.obj (w.heap.size + 1) (.loop (recOf_ fn a.tmps ps assign body w.heap.size .busy)) * (Hp.obj w.heap.size (.deferred (some [])) * R))) := hs2.cast (by ac_rfl)
        refine wpIn_mono (hstop _ p a₁ _ _ hS hp ha₁ hs3) fun e a3 w4 hp => ?_
        cases e with
        | ret =>
          have h4 : Sat W w4 (Z * (Hp.obj (w.heap.size + 1) (.loop (recOf_ fn a.tmps ps assign body w.heap.size .busy)) * (Hp.obj w.heap.size (.deferred (some [])) * R))) := hp
          have h5 := h4.sw
          have h6 := h5.putObj (.loop { recOf_ fn a.tmps ps assign body w.heap.size .done with pending := some .ret })
          exact ⟨_, _, run_endRound (some .ret) h5.obj, rfl, h6.cast (by ac_rfl)⟩
        | exit id => exact False.elim hp
        | goto t => exact False.elim hp
        | normal => exact False.elim hp
        | panic c => exact False.elim hp
        | outgrown => exact False.elim hp
    refine (iter _ _ _ _ hY (H1.cast (by ac_rfl))).mono ?_
    rintro e w2 ⟨⟨v, rfl⟩, ⟨hok, hs⟩ | ⟨hok, hs⟩⟩
    · have hs1 := hs.assoc
      have hl := hs1.obj
      have h2 := hs1.putObj (.loop { recOf_ fn a.tmps ps assign body w.heap.size .ready with state := .exhausted })
      exact ⟨none, _, run_endLoop (P := P) hl (by simp [recOf_]), hdone hok _ _ (h2.drop.cast (by ac_rfl))⟩
    · have hs1 := hs.assoc
      have hl := hs1.obj
      have h2 := hs1.putObj (.loop { recOf_ fn a.tmps ps assign body w.heap.size .done with pending := some .ret, state := .exhausted })
      exact ⟨some .ret, _, run_endLoop (P := P) hl (by simp [recOf_]), wpIn_ret (hret hok _ _ (h2.drop.cast (by ac_rfl)))⟩
end Go.Proofs.Ytfpkfbffpkjgbaa

/- A statement in order that calls yield. Over any program. No condition. -/
namespace Go.Proofs.Ytfpkfbffpkjgbaa
open Go.RowKit
set_option linter.unusedVariables false
set_option linter.unusedSimpArgs false
section
variable {P : Program} {c : Cx} {m m' : List (Nat × Value)} {l l' : List Hp} {K : Act → World → Prop} {Q : Exit → Act → World → Prop} {ops : Array Oper} {o : Oper} {rest : List Oper} {d : Nat} {x y : Operand} {v : Value}
theorem Gx.regionI {id : Nat} {ops : List Oper} (h : Gx c m l (wpListIn Fence.wide 0 P ops.toArray Q ops)) : Gx c m l (Code.wp P (.region id ops.toArray false) Q) := fun a w s H => (wpIn_wide (n := 0)).1 (wpIn_region_lit (h a w s H))
theorem Gx.doneI (h : Gx c m l (Q .normal)) : Gx c m l (wpListIn Fence.wide 0 P ops Q []) := fun a w s H => wpListIn_nil (h a w s H)
theorem Gx.moveI (hg : o.guard = none) (hop : o.op = .move x) (hd : o.dst = some d) (hn : Nat.ble (d + 1) c.n = true) (hx : evo m x = some v) (h : Gx c ((d, v) :: m) l (wpListIn Fence.wide 0 P ops Q rest)) : Gx c m l (wpListIn Fence.wide 0 P ops Q (o :: rest)) := fun a w s H => wpListIn_plain hg fun K hK => by
  unfold Oper.wpIn
  refine ⟨fun f _ => trivial, ?_⟩
  rw [Oper.semAt_plain Fence.wide _ _ (by rw [hop]; intro c' hc; cases hc)]
  simp only [execOp, hop, s.ev hx, Sem.run_pure, Oper.uponIn_value]
  exact hK _ _ (h _ _ (by rw [hd]; exact s.put hn _) H)
theorem Gx.notI {T : TypeId} {b : Bool} (hg : o.guard = none) (hop : o.op = .unOp .not T x) (hd : o.dst = some d) (hn : Nat.ble (d + 1) c.n = true) (hx : evo m x = some (.bool b)) (h : Gx c ((d, .bool (!b)) :: m) l (wpListIn Fence.wide 0 P ops Q rest)) : Gx c m l (wpListIn Fence.wide 0 P ops Q (o :: rest)) := fun a w s H => wpListIn_plain hg fun K hK => by
  unfold Oper.wpIn
  refine ⟨fun f _ => trivial, ?_⟩
  rw [Oper.semAt_plain Fence.wide _ _ (by rw [hop]; intro c' hc; cases hc)]
  have e : (execOp a.eval o).run P w = .ok (.value (.bool (!b))) w := by simp [execOp, hop, s.ev hx, Op.unary, Result.andThen]
  rw [e]
  exact hK _ _ (h _ _ (by rw [hd]; exact s.put hn _) H)
theorem Gx.yieldI {lp : Nat} {xs : List Operand} {ts : Array TypeId} {vs : List Value} {l2 : List Hp} (hg : o.guard = none) (hop : o.op = .call { callee := .value x, args := xs.toArray, argTypes := ts }) (hd : o.dst = some d) (hn : Nat.ble (d + 1) c.n = true)
    (hf : evo m x = some (.func (.yield lp) #[] #[])) (hx : evoL m xs = some vs)
    (hy : ∀ w, Sat c.W w (sep l) → YieldAt Fence.wide 0 P lp vs.toArray w fun e w' => e = .returned v ∧ Sat c.W w' (sep l2))
    (h : Gx c ((d, v) :: m) l2 (wpListIn Fence.wide 0 P ops Q rest)) : Gx c m l (wpListIn Fence.wide 0 P ops Q (o :: rest)) := fun a w s H => wpListIn_plain hg fun K hK => by
  obtain ⟨fn, tmps, assign, body, hrun, hR⟩ := hy w H
  unfold Oper.wpIn
  refine ⟨fun f _ => trivial, ?_⟩
  rw [Oper.semAt_plain Fence.wide _ _ (by rw [hop]; intro c' hc; cases hc)]
  have h1 := s.evL hx
  have e : (execOp a.eval o).run P w = .ok (.round lp fn tmps assign body) w := by
    simp [execOp, hop, resolve, s.ev hf, Deferred.ofValue, invoke, h1, Result.andThen, hrun]
  rw [e]
  refine ⟨fun hh => by simp [Fence.wide] at hh, hR.mono ?_⟩
  rintro e' w' ⟨rfl, H'⟩
  exact hK _ _ (h _ _ (by rw [hd]; exact s.put hn _) H')
end
end Go.Proofs.Ytfpkfbffpkjgbaa

/- A function that ranges over a function, and the rounds' bodies. Over any program. No condition. -/
namespace Go.Proofs.Ytfpkfbffpkjgbaa
open Go.RowKit
set_option linter.unusedVariables false
set_option linter.unusedSimpArgs false
section
variable {P : Program} {c : Cx} {m m' : List (Nat × Value)} {l l' : List Hp} {Q : Exit → Act → World → Prop} {ops : Array Oper} {o : Oper} {rest : List Oper} {d lp : Nat} {x y : Operand} {v : Value}
/-- in a round -/
def Rx (P : Program) (lp : Nat) (x : Code) (Q : Exit → Act → World → Prop) : Act → World → Prop := fun a w => x.wpIn (Fence.wide.inRound lp) 0 P Q a w
def Rl (P : Program) (lp : Nat) (ops : Array Oper) (Q : Exit → Act → World → Prop) (rest : List Oper) : Act → World → Prop := fun a w => wpListIn (Fence.wide.inRound lp) 0 P ops Q rest a w
theorem Rx.seq {x y : Code} (h : Gx c m l (Rx P lp x (Exit.then (Rx P lp y Q) Q))) : Gx c m l (Rx P lp (.seq x y) Q) := fun a w s H => wpIn_seq (h a w s H)
theorem Rx.block {id : Nat} {x : Code} (h : Gx c m l (Rx P lp x (Exit.inBlock id Q))) : Gx c m l (Rx P lp (.block id x) Q) := fun a w s H => wpIn_block (h a w s H)
theorem Rx.skip (h : Gx c m l (Q .normal)) : Gx c m l (Rx P lp .skip Q) := fun a w s H => wpIn_skip (h a w s H)
theorem Rx.ret (h : Gx c m l (Q .ret)) : Gx c m l (Rx P lp .ret Q) := fun a w s H => wpIn_ret (h a w s H)
theorem Rx.condT {x y : Code} {g : Operand} (hg : evo m g = some (.bool true)) (h : Gx c m l (Rx P lp x Q)) : Gx c m l (Rx P lp (.cond g x y) Q) := fun a w s H => wpIn_cond_true (s.ev hg) (h a w s H)
theorem Rx.condF {x y : Code} {g : Operand} (hg : evo m g = some (.bool false)) (h : Gx c m l (Rx P lp y Q)) : Gx c m l (Rx P lp (.cond g x y) Q) := fun a w s H => wpIn_cond_false (s.ev hg) (h a w s H)
theorem Rx.decT {x y : Code} {g : Operand} {p : Prop} [Decidable p] (hg : evo m g = some (.bool (decide p))) (hp : p) (h : Gx c m l (Rx P lp x Q)) : Gx c m l (Rx P lp (.cond g x y) Q) := Rx.condT (by rw [hg, decide_eq_true hp]) h
theorem Rx.decF {x y : Code} {g : Operand} {p : Prop} [Decidable p] (hg : evo m g = some (.bool (decide p))) (hp : ¬ p) (h : Gx c m l (Rx P lp y Q)) : Gx c m l (Rx P lp (.cond g x y) Q) := Rx.condF (by rw [hg, decide_eq_false hp]) h
theorem Gx.retCell {W : World} {n : Nat} {fn : Func} {t T b k sz bytes : Nat} {d : TypeDesc} {z' v : Value} {R : Value → List Hp → Prop} (hr : fn.results = #[.cell t T]) (hT : Ty P T d sz bytes z') (hd : aggD d = false) (ht : look m t = some (ptr b 0)) (hk : l[k]? = some (Hp.rec_ b [v])) (h : R v l) : Gx ⟨W, n, []⟩ m l (bodyPost P fn (Ret W R) .ret) := fun a w s H => by
  refine ⟨s.defers, v, ?_, v, l, rfl, h, H⟩
  have h2 := s.get t _ ht
  have hc := (H.at_ hk).cell 0 rfl
  simp [results, hr, Array.getD_eq_getD_getElem?, h2, ptr, asAddr, loadVar, hT.agg, hd, Result.andThen, load, Sem.run, hc]
theorem Gx.retCell2 {W : World} {n : Nat} {fn : Func} {t T b k sz bytes t' T' b' k' sz' bytes' : Nat} {d d' : TypeDesc} {z' z'' v v' : Value} {R : Value → List Hp → Prop} (hr : fn.results = #[.cell t T, .cell t' T']) (hT : Ty P T d sz bytes z') (hd : aggD d = false) (hT' : Ty P T' d' sz' bytes' z'') (hd' : aggD d' = false) (ht : look m t = some (ptr b 0)) (ht' : look m t' = some (ptr b' 0)) (hk : l[k]? = some (Hp.rec_ b [v])) (hk' : l[k']? = some (Hp.rec_ b' [v'])) (h : R (.tuple #[v, v']) l) : Gx ⟨W, n, []⟩ m l (bodyPost P fn (Ret W R) .ret) := fun a w s H => by
  refine ⟨s.defers, .tuple #[v, v'], ?_, _, l, rfl, h, H⟩
  have h2 := s.get t _ ht
  have h3 := s.get t' _ ht'
  have hc := (H.at_ hk).cell 0 rfl
  have hc' := (H.at_ hk').cell 0 rfl
  simp [results, hr, Array.getD_eq_getD_getElem?, h2, h3, ptr, asAddr, loadVar, hT.agg, hd, hT'.agg, hd', Result.andThen, load, Sem.run, hc, hc']
theorem Slots.two {W : World} {n : Nat} {a : Act} {t1 t2 : Nat} {v1 v2 : Value} (s : Slots ⟨W, n, []⟩ a m) (h1 : Nat.ble (t1 + 1) n = true) (h2 : Nat.ble (t2 + 1) n = true) : Slots ⟨W, n, []⟩ { tmps := (#[t1, t2].zip #[v1, v2]).foldl (fun t (p, v) => t.setIfInBounds p v) a.tmps, defers := [] } ((t2, v2) :: (t1, v1) :: m) := by
  have q := (s.put (d := t1) h1 v1).put (d := t2) h2 v2
  have e : (#[t1, t2].zip #[v1, v2]).foldl (fun t (p, v) => t.setIfInBounds p v) a.tmps = ((a.put (some t1) v1).put (some t2) v2).tmps := by simp [Act.put]
  exact ⟨by rw [e]; exact q.size, rfl, fun t v h => by rw [e]; exact q.get t v h⟩
theorem Rx.region {id : Nat} {ops : List Oper} (h : Gx c m l (Rl P lp ops.toArray Q ops)) : Gx c m l (Rx P lp (.region id ops.toArray false) Q) := fun a w s H => wpIn_region_lit (h a w s H)
theorem Rx.done (h : Gx c m l (Q .normal)) : Gx c m l (Rl P lp ops Q []) := fun a w s H => wpListIn_nil (h a w s H)
theorem EffAt.inR {o : Oper} {a : Act} {w : World} {R : Value → World → Prop} {K : Act → World → Prop} (hnd : ∀ c', o.op ≠ .defer c') (he : EffAt P o a w R) (h : ∀ v w', R v w' → K (a.put o.dst v) w') : o.wpIn (Fence.wide.inRound lp) 0 P a w K Q := by
  unfold Oper.wpIn
  refine ⟨fun f _ => trivial, ?_⟩
  rw [Oper.semAt_plain (Fence.wide.inRound lp) _ _ hnd]
  unfold EffAt at he
  generalize (execOp a.eval o).run P w = r at *
  cases r with
  | ok n w' =>
    cases n <;> simp only [EffUpon] at he
    case value u => exact h _ _ he
    case skip => exact h _ _ he
    case enter f args =>
      refine ⟨fun hh => by simp [Fence.wide, Fence.inRound] at hh, CallsIn.inRound lp ((callsIn_wide (n := 0)).2 (he.mono ?_))⟩
      rintro e w'' ⟨v, rfl, hv⟩
      exact h _ _ hv
  | _ => exact he.elim
theorem Rx.eff {R : Value → List Hp → Prop} (hnd : ∀ c', o.op ≠ .defer c') (hg : o.guard = none) (hd : o.dst = some d) (hn : Nat.ble (d + 1) c.n = true) (he : Eff P c m l o R) (h : ∀ v l', R v l' → Gx c ((d, v) :: m) l' (Rl P lp ops Q rest)) : Gx c m l (Rl P lp ops Q (o :: rest)) := fun a w s H =>
  wpListIn_plain hg fun K hK => (he a w s H).inR hnd fun u w' ⟨l', hR, H'⟩ => hK _ _ (h u l' hR _ _ (by rw [hd]; exact s.put hn _) H')
theorem Rx.eff0 {R : Value → List Hp → Prop} (hnd : ∀ c', o.op ≠ .defer c') (hg : o.guard = none) (hd : o.dst = none) (he : Eff P c m l o R) (h : ∀ v l', R v l' → Gx c m l' (Rl P lp ops Q rest)) : Gx c m l (Rl P lp ops Q (o :: rest)) := fun a w s H =>
  wpListIn_plain hg fun K hK => (he a w s H).inR hnd fun u w' ⟨l', hR, H'⟩ => hK _ _ (h u l' hR _ _ (by rw [hd]; exact s) H')
theorem Rx.val (hnd : ∀ c', o.op ≠ .defer c') (hg : o.guard = none) (hd : o.dst = some d) (hn : Nat.ble (d + 1) c.n = true) (hv : Val P c m l o v) (h : Gx c ((d, v) :: m) l (Rl P lp ops Q rest)) : Gx c m l (Rl P lp ops Q (o :: rest)) := fun a w s H =>
  wpListIn_plain hg fun K hK => (hv.eff s H).inR hnd fun u w' ⟨e, H'⟩ => hK _ _ (by subst e; exact h _ _ (by rw [hd]; exact s.put hn _) H')
/-- a function that ranges over functions -/
theorem Gx.enterM {f : FuncId} {fn : Func} {x : Code} {args : Array Value} {W w : World} {R : Ending → World → Prop} {l : List Hp} {n : Nat} (hf : P.funcs[f]? = some fn) (hb : fn.body = some x) (hn : fn.ntmps = n) (ha : Nat.ble args.size n = true) (H : Sat W w (sep l))
    (h : Gx ⟨W, n, []⟩ (argSlots 0 args.toList) l (Code.wp P x (bodyPostM Fence.wide 0 P fn R))) : Calls P f args w R := by
  have ha' := Nat.le_of_ble_eq_true ha
  refine calls_marks hf hb (h _ w ⟨?_, rfl, fun t v e => ?_⟩ H)
  · simp [hn]; omega
  · have h1 := (look_args _ _ _ _ e).2
    rw [Nat.sub_zero, Array.getElem?_toList] at h1
    have h2 := (Array.getElem?_eq_some_iff.1 h1).1
    rw [Array.getElem?_append_left h2]
    exact h1
theorem Gx.retM0 {W : World} {n : Nat} {fn : Func} {R : Ending → World → Prop} (h : Gx ⟨W, n, []⟩ m l (bodyPost P fn R .ret)) : Gx ⟨W, n, []⟩ m l (bodyPostM Fence.wide 0 P fn R .ret) := fun a w s H => by
  obtain ⟨h1, h2⟩ := h a w s H
  show LeavesInM Fence.wide 0 P fn a.tmps R a.defers .returning w
  rw [h1]
  exact h2
theorem Gx.retM1 {W : World} {n D : Nat} {fn : Func} {R : Ending → World → Prop} (h : Gx ⟨W, n, []⟩ m (Hp.obj D (.deferred none) :: l) (bodyPost P fn R .ret)) : Gx ⟨W, n, [{ target := .collected D, args := #[] }]⟩ m (Hp.obj D (.deferred (some [])) :: l) (bodyPostM Fence.wide 0 P fn R .ret) := fun a w s H => by
  have H' : Sat W w (Hp.obj D (.deferred (some [])) * sep l) := H
  obtain ⟨h1, h2⟩ := h { a with defers := [] } _ ⟨s.size, rfl, s.get⟩ (H'.putObj (.deferred none))
  show LeavesInM Fence.wide 0 P fn a.tmps R a.defers .returning w
  rw [s.defers]
  exact ⟨by simp, .inl ⟨D, _, rfl, run_takeDeferred H'.obj, h2⟩⟩
/-- the range: rounds that keep one state; the first that is not good ends the function -/
theorem Gx.rangeC {α : Type} {W : World} {n gf : Nat} {g : Operand} {ps : Array Tmp} {assign body : Code} {lb : Array Value} {B Z R0 R1 : Hp} {lB lZ : List Hp} {S : α → Prop} {good : α → Bool} {ok : Bool} {enc : α → Array Value} (mr : α → List (Nat × Value)) (hg : evo m g = some (.func (.func gf) #[] lb)) (eg : Fnc P gf)
    (hps : ∀ p, (enc p).size = ps.size) (hl : sep l = B * R0) (hB : ∀ R, B * R = sep (lB ++ [R])) (hZ : ∀ R, Z * R = sep (lZ ++ [R]))
    (iter : ∀ (lp : Nat) (B' Z' : Hp) (w1 : World), YieldsC P W lp enc S good B' Z' → Sat W w1 (B' * R0) → Calls P gf (#[.func (.yield lp) #[] #[]] ++ lb) w1 fun e w' => (∃ v, e = .returned v) ∧ ((ok = true ∧ Sat W w' (B' * R1)) ∨ (ok = false ∧ Sat W w' (Z' * R1))))
    (hslots : ∀ (p : α) (a : Act), Slots ⟨W, n, []⟩ a m → Slots ⟨W, n, []⟩ { tmps := (ps.zip (enc p)).foldl (fun t (p, v) => t.setIfInBounds p v) a.tmps, defers := [] } (mr p))
    (ma : α → List (Nat × Value))
    (hassign : ∀ (lp : Nat) (p : α) (R : Hp) (K : Act → World → Prop), S p → Gx ⟨W, n, []⟩ (ma p) (lB ++ [R]) K → Gx ⟨W, n, []⟩ (mr p) (lB ++ [R]) (Rx P lp assign (Exit.then K (fun _ _ _ => False))))
    (hbody : ∀ (lp : Nat) (p : α) (R : Hp), S p → good p = true → Gx ⟨W, n, []⟩ (ma p) (lB ++ [R]) (Rx P lp body (roundEnd fun w' => Sat W w' (sep (lB ++ [R])))))
    (hstop : ∀ (lp : Nat) (p : α) (R : Hp), S p → good p = false → Gx ⟨W, n, []⟩ (ma p) (lB ++ [R]) (Rx P lp body (roundRet fun w' => Sat W w' (sep (lZ ++ [R])))))
    (hdone : ok = true → ∀ D, Gx ⟨W, n, [{ target := .collected D, args := #[] }]⟩ m (Hp.obj D (.deferred (some [])) :: (lB ++ [R1])) (Q .normal))
    (hret : ok = false → ∀ D, Gx ⟨W, n, [{ target := .collected D, args := #[] }]⟩ m (Hp.obj D (.deferred (some [])) :: (lZ ++ [R1])) (Q .ret)) :
    Gx ⟨W, n, []⟩ m l (Code.wp P (.rangeFunc g ps assign body) Q) := fun a w s H => by
  have hda : a.defers = [] := s.defers
  refine wp_rangeFuncC (W := W) (lb := lb) (s.ev hg) eg enc S good ok hps B Z R0 R1 (by rw [hl] at H; exact H) iter (fun p a₁ => Slots ⟨W, n, []⟩ a₁ (ma p)) ?_ ?_ ?_ ?_ ?_
  · intro lp p w1 R K hS h1 hK
    exact hassign lp p R K hS (fun a₁ w2 s1 H1 => hK a₁ w2 s1 (by rw [hB]; exact H1)) _ _ (hslots p a s) (by rw [hB] at h1; exact h1)
  · intro lp p a₁ w1 R hS hp ha h1
    rw [hB] at h1
    have := hbody lp p R hS hp a₁ w1 ha h1
    rw [← hB] at this; exact this
  · intro lp p a₁ w1 R hS hp ha h1
    rw [hB] at h1
    have := hstop lp p R hS hp a₁ w1 ha h1
    rw [← hZ] at this; exact this
  · intro hok D w' h1
    refine hdone hok D _ w' ⟨s.size, by show _ :: a.defers = _; rw [hda], s.get⟩ ?_
    show Sat W w' (_ * sep (lB ++ [R1]))
    rw [← hB]; exact h1
  · intro hok D w' h1
    refine hret hok D _ w' ⟨s.size, by show _ :: a.defers = _; rw [hda], s.get⟩ ?_
    show Sat W w' (_ * sep (lZ ++ [R1]))
    rw [← hZ]; exact h1
end
end Go.Proofs.Ytfpkfbffpkjgbaa

/- A statement that leaves its order open, in a round of a range over a function. Over any program. No condition. -/
namespace Go.Proofs.Ytfpkfbffpkjgbaa
open Go.RowKit
set_option linter.unusedVariables false
section
variable {P : Program} {c : Cx} {m : List (Nat × Value)} {l : List Hp} {Q : Exit → Act → World → Prop} {ops : Array Oper} {lp : Nat} {C : World → Prop}
def noDefer (ops : List Oper) : Bool := ops.all fun o => match o.op with | .defer _ => false | _ => true
theorem noDefer_at {ops : List Oper} (h : noDefer ops = true) {i : Nat} {o : Oper} (ho : ops.toArray[i]? = some o) (c') : o.op ≠ .defer c' := fun e => by
  have hm : o ∈ ops := List.mem_of_getElem? (i := i) (by simpa using ho)
  have := List.all_eq_true.1 h o hm
  rw [e] at this; cases this
theorem quiet_effAt {o : Oper} {a : Act} {w : World} {v : Value} (hC : C w) (h : o.quietAt P a C w v) : EffAt P o a w fun u w' => u = v ∧ C w' := by
  unfold Oper.quietAt at h
  unfold EffAt
  generalize (execOp a.eval o).run P w = r at *
  cases r with
  | ok n w' =>
    cases n <;> simp only [Oper.quietUpon] at h <;> simp only [EffUpon]
    case value u => obtain ⟨rfl, rfl⟩ := h; exact ⟨rfl, hC⟩
    case skip => obtain ⟨rfl, rfl⟩ := h; exact ⟨rfl, hC⟩
    case enter f args => obtain ⟨rfl, h⟩ := h; exact h.mono fun e w'' ⟨he, hc⟩ => ⟨_, he, rfl, hc⟩
  | _ => exact h.elim
theorem wpOpIn_of_qOp {i : Nat} {a : Act} {w : World} {K : Act → Prop} {K' : Act → World → Prop} {Q' : Exit → Act → World → Prop} (hnd : ∀ o, ops[i]? = some o → ∀ c', o.op ≠ .defer c') (hC : C w) (h : ∀ a w', C w' → K a → K' a w') (hh : qOp P ops C i K a) : wpOpIn (Fence.wide.inRound lp) 0 P ops Q' i K' a w := by
  unfold qOp at hh
  unfold wpOpIn
  split
  · rename_i ho; simp only [ho] at hh; exact h _ _ hC hh
  · rename_i o ho
    simp only [ho] at hh
    split
    · rename_i hw
      simp only [hw, if_true] at hh
      obtain ⟨v, h1, h2⟩ := hh
      exact (quiet_effAt hC (h1 w hC)).inR (hnd o ho) fun u w' ⟨hu, hc⟩ => by subst hu; exact h _ _ hc h2
    · rename_i hw; simp only [hw] at hh; exact ⟨fun _ _ => trivial, h _ _ hC hh⟩
theorem wpAnyIn_of_Q {md : Region.Mode} {Q0 : Act → Prop} {Q' : Exit → Act → World → Prop} (hnd : ∀ (i : Nat) (o : Oper), ops[i]? = some o → ∀ c', o.op ≠ .defer c') (hQ : ∀ a w, C w → Q0 a → Q' .normal a w) : ∀ (fuel : Nat) (listed : Array Bool) (a : Act) (w : World), C w →
    wpAnyQ P md ops C Q0 fuel listed a → wpAnyIn (Fence.wide.inRound lp) 0 P md ops Q' fuel listed a w
  | 0, _, _, _, hw, h => ⟨h.1, hQ _ _ hw h.2⟩
  | fuel + 1, _, _, _, hw, h => ⟨fun h0 => hQ _ _ hw (h.1 h0), fun i hi => wpOpIn_of_qOp (hnd i) hw (fun a' w' hw' => wpAnyIn_of_Q hnd hQ fuel _ a' w' hw') (h.2 i hi)⟩
theorem Rx.regionQ {id : Nat} {ops : List Oper} (hd : noDefer ops = true) (hm : P.follows .mixedOrders = true) (hB : Region.lexB .any ops.toArray = true) (h : Gq P c m l ops.toArray (Q .normal) ops) : Gx c m l (Rx P lp (.region id ops.toArray true) Q) := fun a w s H => by
  simp only [Region.lexB, Bool.and_eq_true] at hB
  refine wpIn_region_any hm (wpAnyIn_of_Q (C := fun w' => Sat c.W w' (sep l)) (Q0 := fun a' => ∀ w', Sat c.W w' (sep l) → Q .normal a' w') (fun i o => noDefer_at hd) (fun _ w' hw' h => h w' hw') _ _ _ _ (H.drawn _) ?_)
  have := wpAnyQ_lex (C := fun w' => Sat c.W w' (sep l)) (md := .any) hB.1 ops 0 (Array.replicate ops.toArray.size false) a (by simp) (by simpa using hB.2) (h a s)
  simpa using this
end
end Go.Proofs.Ytfpkfbffpkjgbaa

/- What a growing of a nil slice makes; its capacity. Over any program. No condition. -/
namespace Go.Proofs.Ytfpkfbffpkjgbaa
open Go.RowKit
set_option linter.unusedVariables false

section
variable {P : Program} {c : Cx} {m : List (Nat × Value)} {l l' : List Hp} {o : Oper} {x y z : Operand} {v u u' : Value} {T T' S : TypeId}
theorem val_capN {e : TypeId} (ho : o.op = .call { callee := .builtin .cap, args := #[x], argTypes := #[T] }) (hT : P.underlying T = some (.slice e)) (hx : evo m x = some (.slice none 0 0)) : Val P c m l o (.int .i64 0) := Val.of fun a w s H => by
  have e1 : (underlying T).run P w = .ok (.slice e) w := run_underlying hT w
  simp [execOp, ho, resolve, invoke, builtin, s.ev hx, Builtin.cap_, e1, Result.andThen, goInt]
theorem val_cutN {e : TypeId} {d : TypeDesc} {sz bytes : Nat} {z' : Value} {k' : IntKind} (ho : o.op = .slice T x none (some z) none) (hT : P.underlying T = some (.slice e)) (hE : Ty P e d sz bytes z') (hx : evo m x = some (.slice none 0 0)) (hz : evo m z = some (.int k' 0)) : Val P c m l o (.slice none 0 0) := Val.of fun a w s H => by
  have e1 : (underlying T).run P w = .ok (.slice e) w := run_underlying hT w
  simp [execOp, ho, s.ev hx, s.ev hz, Instr.sliceAt, Instr.slice, e1, Result.andThen, Instr.sliceBounds, Instr.sliceBound, asIntOf, hE.size]
/-- 'append(nil, make([]T, n)...)' -/
theorem eff_growNil {α : Type} {f : α → List Value} {e : TypeId} {zv : Value} {sz bytes n : Nat} {k kn : IntKind} {i : Int} (ho : o.op = .call { callee := .builtin .append, args := #[x, y], argTypes := #[T, T'] }) (E : Elem P T e zv sz bytes) (hN : P.underlying T' = some (.int kn)) (hf : ∀ x, (f x).length = sz)
    (hx : evo m x = some (.slice none 0 0)) (hy : evo m y = some (.int k i)) (hi : i = (n : Int)) (r : α) (hz : zv.cells.toList = f r) (h0 : 0 < n) (hb : n * bytes ≤ 140737488355328) (hm : n ≤ 140737488355328) :
    Eff P c m l o (fun v l'' => IsS v ∧ l'' = Hp.own f sz v (List.replicate n r) :: l) := Eff.of fun a w s H => by
  subst hi
  obtain ⟨hu, hinfo, hzs, hsz⟩ := E
  obtain ⟨i, hi, hz0, hz1, hz2⟩ := info_parts hinfo
  have hrun := Lib.run_append_nil_zeros (P := P) w T T' o.type e i zv k kn hu hN hi hz0 n h0 (by omega) (by omega) (by rw [hz2]; omega)
  have hge := grownCap_ge w n 0 e
  have hle := grownCap_le_maxLen w n 0 e (by unfold maxLen; omega)
  have hzc : zv.cells.size = sz := by rw [← Array.length_toList, hz, hf]
  have hO : OwS f sz (w.drew.alloc (.cells (Builtin.zeroCells zv.cells n ++ Builtin.zeroCells zv.cells (grownCap w n 0 e - n)) e)) w.heap.size (.slice (some ⟨w.heap.size, 0, none⟩) n (grownCap w n 0 e)) (List.replicate n r) := by
    refine OwS.of_row (e := e) (n := n) (cs := (Builtin.zeroCells zv.cells n).toList) ⟨by simp [size_zeroCells, hzc], .inr ⟨w.heap.size, grownCap w n 0 e, _, rfl, Nat.le_refl _, heap_alloc_new w.drew _, hge, hle, ?_, ?_⟩⟩ (by simp) fun j x' hx' p u' hu' => ?_
    · rw [Array.size_append, size_zeroCells, size_zeroCells, hzc, ← Nat.add_mul, Nat.add_sub_cancel' hge]
    · rw [Array.toList_append, List.take_append_of_le_length (by simp [size_zeroCells, hzc]), List.take_of_length_le (by simp [size_zeroCells, hzc])]
    · rw [zero_flat hf hz]
      exact flat_get hf _ _ _ hx' _ _ hu'
  refine ⟨_, _, ?_, _, ⟨isS_lit, rfl⟩, (H.nil f sz).reown hO ⟨rfl, rfl, rfl, by simp, fun k hk _ => Below.heap_alloc _ _ _ hk⟩ (.inr ⟨_, rfl, Nat.le_refl _⟩)⟩
  simp [execOp, ho, resolve, invoke, builtin, s.ev hx, s.ev hy, hrun, Result.andThen]
theorem eff_callV1 {f : FuncId} {xs : List Operand} {ts : Array TypeId} {vs : List Value} {S : Value → Prop} {p : Value → Hp} (ho : o.op = .call { callee := .value (.func f), args := xs.toArray, argTypes := ts }) (F : Fnc P f) (hx : evoL m xs = some vs)
    (h : ∀ w, Sat c.W w (sep l) → Calls P f vs.toArray w (Ret w fun v l' => S v ∧ l' = [p v])) : Eff P c m l o (fun v l'' => S v ∧ l'' = p v :: l) :=
  Eff.mono (eff_callN ho F hx h) (by rintro v _ ⟨_, ⟨h1, rfl⟩, rfl⟩; exact ⟨h1, rfl⟩)
/-- a call whose new memory is one part -/
theorem eff_callX {f : FuncId} {xs : List Operand} {ts : Array TypeId} {vs : List Value} {R : Value → List Hp → Prop} (ho : o.op = .call { callee := .value (.func f), args := xs.toArray, argTypes := ts }) (F : Fnc P f) (hx : evoL m xs = some vs)
    (h : ∀ w, Sat c.W w (sep l) → Calls P f vs.toArray w (Ret w R)) : Eff P c m l o (fun v l'' => ∃ l9, R v l9 ∧ l'' = sep l9 :: l) := fun a w s H => by
  refine EffAt.mono (eff_callN ho F hx h a w s H) ?_
  rintro v w' ⟨l2, ⟨l', h2, rfl⟩, H2⟩
  exact ⟨sep l' :: l, ⟨l', h2, rfl⟩, H2.cast (by rw [sep_append]; rfl)⟩
/-- one result, a struct in a cell; the cell is forgotten -/
theorem Gx.retC1 {W : World} {n : Nat} {fn : Func} {t T b k sz bytes : Nat} {d : TypeDesc} {z' : Value} {us : List Value} {R : Value → List Hp → Prop} (hr : fn.results = #[.cell t T]) (hT : Ty P T d sz bytes z') (hd : aggD d = true) (ht : look m t = some (ptr b 0)) (hl : us.length = sz) (hk : l[k]? = some (Hp.rec_ b us)) (h : R (.agg us.toArray) (l.eraseIdx k)) : Gx ⟨W, n, []⟩ m l (bodyPost P fn (Ret W R) .ret) := fun a w s H => by
  have h1 := run_loadCells_list (P := P) (w := w) ⟨b, 0, none⟩ us (fun j v hj => by rw [addr_add, Nat.zero_add]; exact (H.at_ hk).cell j hj)
  rw [hl] at h1
  refine ⟨s.defers, .agg us.toArray, ?_, _, l.eraseIdx k, rfl, h, (H.at_ hk).drop⟩
  have h2 := s.get t _ ht
  simp [results, hr, Array.getD_eq_getD_getElem?, h2, ptr, asAddr, loadVar, hT.agg, hd, hT.size, h1, Result.andThen]
end
end Go.Proofs.Ytfpkfbffpkjgbaa

/- A part of an element, to be read. Over any program. No condition. -/
namespace Go.Proofs.Ytfpkfbffpkjgbaa
open Go.RowKit
set_option linter.unusedVariables false

section
variable {P : Program} {c : Cx} {m : List (Nat × Value)} {l l' : List Hp} {o : Oper} {x y z : Operand} {v u u' : Value} {T T' S : TypeId}
/-- a part of an element, to be read -/
theorem cells_baseAt {α : Type} {f : α → List Value} {sz i n j : Nat} {xs : List α} {e : α} {us : List Value} (h : SlS f sz c.W v xs) (hj : xs[j]? = some e) (hu : ((f e).drop i).take n = us) : Cells c l (sB v) (sO v + j * sz + i) us := fun w H k u hk => by
  subst hu
  rw [List.getElem?_take] at hk
  split at hk
  · rw [List.getElem?_drop] at hk
    rw [Nat.add_assoc]
    exact cell_base h hj hk w H
  · cases hk
end
end Go.Proofs.Ytfpkfbffpkjgbaa

/- A struct out of an array of structs. Over any program. No condition. -/
namespace Go.Proofs.Ytfpkfbffpkjgbaa
open Go.RowKit
set_option linter.unusedVariables false

section
variable {P : Program} {c : Cx} {m : List (Nat × Value)} {l l' : List Hp} {o : Oper} {x y z : Operand} {v u u' : Value} {T T' S : TypeId}
theorem val_indexA {E n i sz bytes : Nat} {d : TypeDesc} {z' : Value} {q : IntKind} {cs cs' : Array Value} (ho : o.op = .index T x y) (hT : P.underlying T = some (.array n E)) (hE : Ty P E d sz bytes z') (hd : aggD d = true) (hx : evo m x = some (.agg cs)) (hy : evo m y = some (.int q (i : Int))) (hi : i < n) (hv : cs.extract (i * sz) (i * sz + sz) = cs') : Val P c m l o (.agg cs') := Val.of fun a w s H => by
  have hi' : (i : Int) < (n : Int) := by omega
  simp [execOp, ho, s.ev hx, s.ev hy, Instr.index, asIntOf, run_underlying hT, hE.size, hi', hi, part, hE.agg, hd, hv, Result.andThen]
end
end Go.Proofs.Ytfpkfbffpkjgbaa

/- Arguments opened to what they read as: slices of structs that have slices in them. Over any program. No condition. -/
namespace Go.Proofs.Ytfpkfbffpkjgbaa
open Go.ChangeShapes Go.WideShapes Go.ChangeAt Go.RowKit Go.Deep

section
variable {H : Type} {enc : TypeId × Value → H} {P : Program} {w : World}
/-- all that is weighed of it is within reach -/
def Light (P : Program) (t : TypeId) (d : DataW H) : Prop := ∀ z ∈ d.weights P t, z ≤ reachBytes
theorem light_at {ts : List TypeId} {ds : List (DataW H)} {j : Nat} {t : TypeId} {d : DataW H} (h : (DataW.weightsEach P ts ds).all (· ≤ reachBytes) = true) (ht : ts[j]? = some t) (hd : ds[j]? = some d) : Light P t d := fun z hz => by
  simpa using List.all_eq_true.1 h _ (DataW.weights_mem_each ht hd z hz)
theorem weights_all {e : TypeId} : ∀ {l : List (DataW H)} {d : DataW H}, d ∈ l → ∀ z ∈ d.weights P e, z ∈ DataW.weightsAll P e l
  | [], _, h, _, _ => by cases h
  | x :: l, d, h, z, hz => by
    rw [DataW.weightsAll, List.mem_append]
    rcases List.mem_cons.1 h with rfl | h
    · exact .inl hz
    · exact .inr (weights_all h z hz)
theorem light_len {T E : TypeId} {a : Option Addr} {len cap bytes : Nat} {d : DataW H} {p : List MemPlace} (ht : P.underlying T = some (.slice E)) (hb : P.bytesOf E = bytes) (h0 : 0 < bytes) (hw : Light P T d)
    (h : DataW.Trod enc P w 0 (fun _ => true) true T (.slice a len cap) d p) : len ≤ 140737488355328 := by
  obtain ⟨fuel, hf⟩ := h
  rcases open_slice ht hf with ⟨hcs, _⟩ | ⟨x, l, c, m, n, D, Pl, hcs, _, hl, hm, hmm, hx9, hc⟩
  · simp [Value.cells] at hcs
    obtain ⟨rfl, rfl, rfl⟩ := hcs
    omega
  · simp [Value.cells] at hcs
    obtain ⟨rfl, rfl, rfl⟩ := hcs
    simp only [Prod.mk.injEq] at hx9
    rw [hx9.1] at hw
    have := hw ((((List.range len).map D).length + ((List.range (m - len)).map fun j => D (len + j)).length) * P.bytesOf E) (by simp [DataW.weights, ht])
    simp only [List.length_map, List.length_range, reachBytes] at this
    rw [hb] at this
    have h1 : len * bytes ≤ (len + (m - len)) * bytes := Nat.mul_le_mul_right _ (by omega)
    have h2 : len ≤ len * bytes := Nat.le_mul_of_pos_right _ h0
    omega
theorem sls_ofD {α : Type} (f : α → List Value) (G : α → Prop) {T E : TypeId} {sz bytes : Nat} {a : Option Addr} {len cap : Nat} {d : DataW H} {p : List MemPlace} (ht : P.underlying T = some (.slice E)) (hC : P.cellsOf E = sz) (h0 : 0 < sz) (hb : P.bytesOf E = bytes) (hb0 : 0 < bytes)
    (hread : ∀ n cs y, DataW.trod enc P w 0 (fun _ => true) true n E cs = some y → Light P E y.1 → ∃ x, cs = f x ∧ G x) (hw : Light P T d)
    (h : DataW.Trod enc P w 0 (fun _ => true) true T (.slice a len cap) d p) : ∃ xs, SlS f sz w (.slice a len cap) xs ∧ ∀ x ∈ xs, G x := by
  have hsz := light_len ht hb hb0 hw h
  obtain ⟨fuel, hf⟩ := h
  rcases open_slice ht hf with ⟨hcs, _⟩ | ⟨x, l, c, m, n, D, Pl, hcs, _, hl, hm, hmm, hx9, hc⟩
  · simp [Value.cells] at hcs
    obtain ⟨rfl, rfl, rfl⟩ := hcs
    exact ⟨[], ⟨none, 0, rfl, Nat.zero_le _, ⟨fun _ => rfl, Nat.le_refl _⟩, fun j x hx => by simp at hx⟩, fun x hx => by cases hx⟩
  · simp [Value.cells] at hcs
    obtain ⟨rfl, rfl, rfl⟩ := hcs
    simp only [Prod.mk.injEq] at hx9
    have hlight : ∀ i, i < len → Light P E (D i) := fun i hi z hz => by
      rw [hx9.1] at hw
      refine hw z ?_
      simp only [DataW.weights, ht]
      refine List.mem_cons_of_mem _ (List.mem_append_left _ (weights_all (d := D i) ?_ z hz))
      exact List.mem_map.2 ⟨i, List.mem_range.2 hi, rfl⟩
    simp only [if_true] at hmm
    subst hmm
    rw [hC] at hc
    obtain ⟨xs, hlen, hx⟩ := list_of (Q := fun i y => (∀ j, j < sz → w.cell? ((x.add (i * sz)).add j) = (f y)[j]?) ∧ (f y).length = sz ∧ G y) len (fun i hi => by
      obtain ⟨cs', h1, h2⟩ := hc i (by omega)
      obtain ⟨y, hy, hg⟩ := hread n _ _ h2 (hlight i hi)
      subst hy
      obtain ⟨q1, q2, q3⟩ := World.cells?_some h1
      exact ⟨y, q3, q2, hg⟩)
    subst hlen
    refine ⟨xs, ⟨_, _, rfl, hsz, ⟨(fun h => by cases h), by simpa using hl⟩, fun j y hy => ?_⟩, fun y hy => ?_⟩
    · obtain ⟨hcell, hfl, _⟩ := hx j y hy
      obtain ⟨b, off, spot⟩ := x
      have hlen0 : 0 < xs.length := by have := (List.getElem?_eq_some_iff.1 hy).1; omega
      obtain ⟨y0, hy0⟩ := get_of_lt hlen0
      obtain ⟨hcell0, hfl0, _⟩ := hx 0 y0 hy0
      have hc0 := hcell0 0 h0
      rw [List.getElem?_eq_getElem (by omega)] at hc0
      have hspot : spot = none := by
        have := World.cell?_spot hc0
        simpa [Addr.add] using this
      subst hspot
      have hlt : b < w.heap.size := by
        have := World.block_lt_of_cell? w _ hc0
        simpa [Addr.add] using this
      refine ⟨b, off, rfl, hlt, fun i u hu => ?_⟩
      have hi : i < sz := by have := (List.getElem?_eq_some_iff.1 hu).1; omega
      have := hcell i hi
      rw [add_lit', add_lit', hu, Nat.add_assoc] at this
      exact this
    · obtain ⟨i, hi, he⟩ := List.mem_iff_getElem.1 hy
      exact (hx i y (by rw [← he]; exact List.getElem?_eq_getElem hi)).2.2
/-- a struct's fields, where the struct reads -/
theorem fieldsD {n : Nat} {t : TypeId} {fs : Array Field} {cs : List Value} {x : DataW H × List MemPlace} (ht : P.underlying t = some (.struct fs)) (h : DataW.trod enc P w 0 (fun _ => true) true n t cs = some x) (hw : Light P t x.1) :
    cs.length = P.cellsOf t ∧ ∃ m, ∀ (i : Nat) (f : Field), fs[i]? = some f → ∃ y, DataW.trod enc P w 0 (fun _ => true) true m f.type ((cs.drop f.offset).take (P.cellsOf f.type)) = some y ∧ Light P f.type y.1 := by
  obtain ⟨xs, m, _, hx, hl, hxl, hf⟩ := DataW.trod_struct ht h
  refine ⟨hl, m, fun i f hi => ?_⟩
  have hlt : i < xs.length := by have := (Array.getElem?_eq_some_iff.1 hi).1; omega
  refine ⟨xs[i], by rw [hf i f hi]; exact List.getElem?_eq_getElem hlt, fun z hz => hw z ?_⟩
  rw [hx]
  simp only [DataW.weights, ht]
  refine DataW.weights_mem_each (j := i) (t := f.type) (d := xs[i].1) ?_ ?_ z hz
  · rw [List.getElem?_map, Array.getElem?_toList, hi]; rfl
  · rw [List.getElem?_map, List.getElem?_eq_getElem hlt]; rfl
theorem field_slice {n off : Nat} {T E : TypeId} {cs : List Value} {y : DataW H × List MemPlace} (ht : P.underlying T = some (.slice E)) (h : DataW.trod enc P w 0 (fun _ => true) true n T ((cs.drop off).take 1) = some y) :
    ∃ a len cap, cs[off]? = some (.slice a len cap) ∧ DataW.Trod enc P w 0 (fun _ => true) true T (.slice a len cap) y.1 y.2 := by
  rcases open_slice ht h with ⟨hcs, hx⟩ | ⟨x, l, c, m, n', D, Pl, hcs, _⟩
  · exact ⟨none, 0, 0, one_of hcs, n, by rw [hcs] at h; simpa [Value.cells] using h⟩
  · exact ⟨some x, l, c, one_of hcs, n, by rw [hcs] at h; simpa [Value.cells] using h⟩
end
end Go.Proofs.Ytfpkfbffpkjgbaa

