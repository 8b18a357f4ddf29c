/- Operations that yield a value and leave memory alone, each by its own law. Over any program. No condition. -/
import Derived.Test.YtcblkjjkpffjhaaDoorX1
import Derived.IntWalk
import Derived.Laws.Cells
import Derived.Laws.IdiomCopy
import Derived.WalkLawsBesides
namespace Go.Proofs.YtcblkjjkpffjhaaDoor
open Go.RowKit
set_option linter.unusedVariables false

/-- a type's row of the table -/
structure Ty (P : Program) (t : TypeId) (d : TypeDesc) (sz bytes : Nat) (z : Value) : Prop where
  und : P.underlying t = some d
  info : (P.info? t).map (fun i => (i.zero, i.size, i.bytes)) = some (some z, sz, bytes)

def aggD : TypeDesc → Bool
  | .struct _ | .array _ _ => true
  | _ => false

section
variable {P : Program} {w : World} {t : TypeId} {d : TypeDesc} {sz bytes : Nat} {z : Value}
theorem Ty.size (T : Ty P t d sz bytes z) : (sizeOf t).run P w = .ok sz w := by
  have h := T.info
  cases e : P.info? t with
  | none => simp [e] at h
  | some i => simp [e] at h; simp [sizeOf, typeInfo, program, e, Result.andThen, Sem.run, h.2.1]
theorem Ty.zero (T : Ty P t d sz bytes z) : (zeroValue t).run P w = .ok z w := by
  have h := T.info
  cases e : P.info? t with
  | none => simp [e] at h
  | some i => simp [e] at h; simp [zeroValue, typeInfo, program, e, Result.andThen, Sem.run, h.1]
theorem Ty.under (T : Ty P t d sz bytes z) : (underlying t).run P w = .ok d w := run_underlying T.und w
theorem Ty.agg (T : Ty P t d sz bytes z) : (isAgg t).run P w = .ok (aggD d) w := by
  unfold isAgg
  simp only [Sem.run_bind, T.under, Result.andThen]
  cases d <;> simp [aggD]
theorem Ty.elem {e : TypeId} {T' : TypeId} {b' s' : Nat} {z' : Value} (T : Ty P t (.slice e) s' b' z') {de : TypeDesc} (E : Ty P e de sz bytes z) (hz : z.cells.size = sz) (h0 : 0 < sz) : Elem P t e z sz bytes := by
  refine ⟨T.und, ?_, hz, h0⟩
  have h := E.info
  cases e' : P.info? e with
  | none => simp [e'] at h
  | some i => simp [e'] at h ⊢; exact h
end

def sB : Value → Nat | .slice (some a) _ _ => a.block | _ => 0
def sO : Value → Nat | .slice (some a) _ _ => a.off | _ => 0
abbrev ptr (b o : Nat) : Value := .pointer (some ⟨b, o, none⟩)

theorem addr_add0 (a : Addr) : a.add 0 = a := rfl
theorem addr_add (b o n : Nat) : (⟨b, o, none⟩ : Addr).add n = ⟨b, o + n, none⟩ := by unfold Addr.add; split <;> simp_all

section
variable {P : Program} {c : Cx} {m : List (Nat × Value)} {l : List Hp} {o : Oper} {x y z : Operand} {v u u' : Value} {T T' S : TypeId}

theorem val_move (ho : o.op = .move x) (hx : evo m x = some v) : Val P c m l o v := Val.of fun a w s H => by simp [execOp, ho, s.ev hx]
theorem val_assign (ho : o.op = .assign x) (hx : evo m x = some v) : Val P c m l o v := Val.of fun a w s H => by simp [execOp, ho, s.ev hx]
theorem val_pickT (ho : o.op = .pick x y z) (hx : evo m x = some (.bool true)) (hy : evo m y = some v) : Val P c m l o v := Val.of fun a w s H => by simp [execOp, ho, s.ev hx, s.ev hy, asBool]
theorem val_pickF (ho : o.op = .pick x y z) (hx : evo m x = some (.bool false)) (hz : evo m z = some v) : Val P c m l o v := Val.of fun a w s H => by simp [execOp, ho, s.ev hx, s.ev hz, asBool]
theorem val_pickB {b b1 b2 : Bool} (ho : o.op = .pick x y z) (hx : evo m x = some (.bool b)) (hy : evo m y = some (.bool b1)) (hz : evo m z = some (.bool b2)) : Val P c m l o (.bool (if b then b1 else b2)) := Val.of fun a w s H => by
  simp [execOp, ho, s.ev hx, s.ev hy, s.ev hz, asBool]
theorem val_extract {vs : Array Value} {i : Nat} (ho : o.op = .extract x i) (hx : evo m x = some (.tuple vs)) (hv : vs[i]? = some v) : Val P c m l o v := Val.of fun a w s H => by
  simp [execOp, ho, s.ev hx, Instr.extract, hv]
theorem val_not {b : Bool} (ho : o.op = .unOp .not T x) (hx : evo m x = some (.bool b)) : Val P c m l o (.bool !b) := Val.of fun a w s H => by simp [execOp, ho, s.ev hx, Op.unary]
theorem val_notD {p : Prop} [Decidable p] (ho : o.op = .unOp .not T x) (hx : evo m x = some (.bool (decide p))) : Val P c m l o (.bool (decide ¬ p)) := Val.of fun a w s H => by simp [execOp, ho, s.ev hx, Op.unary]
theorem val_nilCheck {ad : Addr} (ho : o.op = .nilCheck x) (hx : evo m x = some (.pointer (some ad))) : Val P c m l o (.pointer (some ad)) := Val.of fun a w s H => by simp [execOp, ho, s.ev hx]

/-! numbers -/
section
variable {k : IntKind} {i j r : Int}
theorem val_add (ho : o.op = .binOp .add T x y T') (hx : evo m x = some (.int k i)) (hy : evo m y = some (.int k j)) (hr : k.wrap (i + j) = r) : Val P c m l o (.int k r) := Val.of fun a w s H => by
  simp [execOp, ho, s.ev hx, s.ev hy, eqGuard, binOp, Op.intArith, hr]
theorem val_sub (ho : o.op = .binOp .sub T x y T') (hx : evo m x = some (.int k i)) (hy : evo m y = some (.int k j)) (hr : k.wrap (i - j) = r) : Val P c m l o (.int k r) := Val.of fun a w s H => by
  simp [execOp, ho, s.ev hx, s.ev hy, eqGuard, binOp, Op.intArith, hr]
theorem val_mul (ho : o.op = .binOp .mul T x y T') (hx : evo m x = some (.int k i)) (hy : evo m y = some (.int k j)) (hr : k.wrap (i * j) = r) : Val P c m l o (.int k r) := Val.of fun a w s H => by
  simp [execOp, ho, s.ev hx, s.ev hy, eqGuard, binOp, Op.intArith, hr]
theorem val_quo (ho : o.op = .binOp .quo T x y T') (hx : evo m x = some (.int k i)) (hy : evo m y = some (.int k j)) (h0 : j ≠ 0) (hr : k.wrap (i.tdiv j) = r) : Val P c m l o (.int k r) := Val.of fun a w s H => by
  simp [execOp, ho, s.ev hx, s.ev hy, eqGuard, binOp, Op.intDiv, h0, hr]
theorem val_rem (ho : o.op = .binOp .rem T x y T') (hx : evo m x = some (.int k i)) (hy : evo m y = some (.int k j)) (h0 : j ≠ 0) (hr : i.tmod j = r) : Val P c m l o (.int k r) := Val.of fun a w s H => by
  simp [execOp, ho, s.ev hx, s.ev hy, eqGuard, binOp, Op.intDiv, h0, hr]
theorem w64 {i r : Int} (e : i = r) (h : -9223372036854775808 ≤ r ∧ r ≤ 9223372036854775807) : IntKind.i64.wrap i = r := by subst e; exact IntWalk.i64_in _ h
theorem val_lss (ho : o.op = .binOp .lss T x y T') (hx : evo m x = some (.int k i)) (hy : evo m y = some (.int k j)) : Val P c m l o (.bool (decide (i < j))) := Val.of fun a w s H => by
  simp [execOp, ho, s.ev hx, s.ev hy, eqGuard, binOp, Op.intCmp]
theorem val_leq (ho : o.op = .binOp .leq T x y T') (hx : evo m x = some (.int k i)) (hy : evo m y = some (.int k j)) : Val P c m l o (.bool (decide (i ≤ j))) := Val.of fun a w s H => by
  simp [execOp, ho, s.ev hx, s.ev hy, eqGuard, binOp, Op.intCmp]
theorem val_gtr (ho : o.op = .binOp .gtr T x y T') (hx : evo m x = some (.int k i)) (hy : evo m y = some (.int k j)) : Val P c m l o (.bool (decide (j < i))) := Val.of fun a w s H => by
  simp [execOp, ho, s.ev hx, s.ev hy, eqGuard, binOp, Op.intCmp]
theorem val_geq (ho : o.op = .binOp .geq T x y T') (hx : evo m x = some (.int k i)) (hy : evo m y = some (.int k j)) : Val P c m l o (.bool (decide (j ≤ i))) := Val.of fun a w s H => by
  simp [execOp, ho, s.ev hx, s.ev hy, eqGuard, binOp, Op.intCmp]
theorem int_beq_dec (i j : Int) : (i == j) = decide (i = j) := by rw [Bool.eq_iff_iff]; simp
theorem val_eql (ho : o.op = .binOp .eql T x y T') (hx : evo m x = some (.int k i)) (hy : evo m y = some (.int k j)) : Val P c m l o (.bool (decide (i = j))) := Val.of fun a w s H => by
  simp [execOp, ho, s.ev hx, s.ev hy, eqGuard, binOp, Op.intCmp, int_beq_dec]
theorem val_neq (ho : o.op = .binOp .neq T x y T') (hx : evo m x = some (.int k i)) (hy : evo m y = some (.int k j)) : Val P c m l o (.bool (decide (i ≠ j))) := Val.of fun a w s H => by
  simp [execOp, ho, s.ev hx, s.ev hy, eqGuard, binOp, Op.intCmp, bne, int_beq_dec]
theorem val_conv {d : TypeDesc} {k' : IntKind} (ho : o.op = .convert S T x) (hS : P.underlying S = some d) (hT : P.underlying T = some (.int k')) (hx : evo m x = some (.int k i)) (hr : k'.wrap i = r) : Val P c m l o (.int k' r) := Val.of fun a w s H => by
  have e1 : (underlying S).run P w = .ok d w := run_underlying hS w
  have e2 : (underlying T).run P w = .ok (.int k') w := run_underlying hT w
  simp only [execOp, ho, s.ev hx, convert, Sem.run_bind, e1, e2, Result.andThen]
  cases d <;> simp [Conv.intToInt, hr]
theorem val_max (ho : o.op = .call { callee := .builtin .max, args := #[x, y], argTypes := #[T, T'] }) (hx : evo m x = some (.int k i)) (hy : evo m y = some (.int k j)) (hr : (if j > i then j else i) = r) : Val P c m l o (.int k r) := Val.of fun a w s H => by
  simp [execOp, ho, resolve, invoke, builtin, s.ev hx, s.ev hy, Builtin.max_, Builtin.max2, Result.andThen, hr]
theorem val_min (ho : o.op = .call { callee := .builtin .min, args := #[x, y], argTypes := #[T, T'] }) (hx : evo m x = some (.int k i)) (hy : evo m y = some (.int k j)) (hr : (if j < i then j else i) = r) : Val P c m l o (.int k r) := Val.of fun a w s H => by
  simp [execOp, ho, resolve, invoke, builtin, s.ev hx, s.ev hy, Builtin.min_, Builtin.min2, Result.andThen, hr]
theorem val_neg (ho : o.op = .unOp .neg T x) (hx : evo m x = some (.int k i)) (hr : k.wrap (-i) = r) : Val P c m l o (.int k r) := Val.of fun a w s H => by
  simp [execOp, ho, s.ev hx, Op.unary, Op.intArith, hr]
end
theorem run_equalB {a b : Bool} {T : TypeId} {w : World} (hT : P.underlying T = some .bool) : (Op.equal T (.bool a) (.bool b)).run P w = .ok (a == b) w := by
  have e1 : (underlying T).run P w = .ok .bool w := run_underlying hT w
  unfold Op.equal Op.maxDepth
  rw [show (10000 : Nat) = 9999 + 1 from rfl, Op.equalIn]
  simp only [Sem.run_bind, e1, Result.andThen, Sem.run_pure]
theorem val_eqlB {a b : Bool} {T : TypeId} (hT : P.underlying T = some .bool) (ho : o.op = .binOp .eql T x y T') (hx : evo m x = some (.bool a)) (hy : evo m y = some (.bool b)) : Val P c m l o (.bool (a == b)) := Val.of fun ac w s H => by
  simp [execOp, ho, s.ev hx, s.ev hy, eqGuard, binOp, run_equalB hT, Result.andThen]
theorem val_neqB {a b : Bool} {T : TypeId} (hT : P.underlying T = some .bool) (ho : o.op = .binOp .neq T x y T') (hx : evo m x = some (.bool a)) (hy : evo m y = some (.bool b)) : Val P c m l o (.bool (!(a == b))) := Val.of fun ac w s H => by
  simp [execOp, ho, s.ev hx, s.ev hy, eqGuard, binOp, run_equalB hT, Result.andThen]

/-! parts of values, addresses -/
theorem val_field {fs : Array Field} {f : Nat} {fd : Field} {d : TypeDesc} {sz bytes : Nat} {z' : Value} {cs : Array Value} (ho : o.op = .field T x f) (hT : P.underlying T = some (.struct fs)) (hf : fs[f]? = some fd) (hF : Ty P fd.type d sz bytes z') (hd : aggD d = false) (hx : evo m x = some (.agg cs)) (hv : cs[fd.offset]? = some v) : Val P c m l o v := Val.of fun a w s H => by
  have e1 : (underlying T).run P w = .ok (.struct fs) w := run_underlying hT w
  simp [execOp, ho, s.ev hx, Instr.field, e1, Result.andThen, hf, asAgg, part, hF.agg, hd, hv]
theorem val_fieldA {fs : Array Field} {f : Nat} {fd : Field} {d : TypeDesc} {sz bytes : Nat} {z' : Value} {cs cs' : Array Value} (ho : o.op = .field T x f) (hT : P.underlying T = some (.struct fs)) (hf : fs[f]? = some fd) (hF : Ty P fd.type d sz bytes z') (hd : aggD d = true) (hx : evo m x = some (.agg cs)) (hv : cs.extract fd.offset (fd.offset + sz) = cs') : Val P c m l o (.agg cs') := Val.of fun a w s H => by
  have e1 : (underlying T).run P w = .ok (.struct fs) w := run_underlying hT w
  simp [execOp, ho, s.ev hx, Instr.field, e1, Result.andThen, hf, asAgg, part, hF.agg, hd, hF.size, hv]
theorem val_fieldAddr {fs : Array Field} {f : Nat} {fd : Field} {d : TypeDesc} {sz bytes : Nat} {z' : Value} {b of : Nat} (ho : o.op = .fieldAddr T x f) (hT : P.underlying T = some (.struct fs)) (hf : fs[f]? = some fd) (hF : Ty P fd.type d sz bytes z') (h0 : Nat.beq sz 0 = false) (hx : evo m x = some (ptr b of)) : Val P c m l o (ptr b (of + fd.offset)) := Val.of fun a w s H => by
  have e1 : (underlying T).run P w = .ok (.struct fs) w := run_underlying hT w
  have h0' : ¬ sz = 0 := Nat.ne_of_beq_eq_false h0
  simp [execOp, ho, s.ev hx, Instr.fieldAt, e1, Result.andThen, hf, Instr.sureAddr, fieldPlace, hF.size, h0', addr_add]

theorem SlS.at_ {α : Type} {f : α → List Value} {sz : Nat} {w : World} {v : Value} {xs : List α} (h : SlS f sz w v xs) {j : Nat} {e : α} (hj : xs[j]? = some e) : ∃ cap, v = .slice (some ⟨sB v, sO v, none⟩) xs.length cap ∧ sB v < w.heap.size ∧ ∀ i u, (f e)[i]? = some u → w.cell? ⟨sB v, sO v + (j * sz + i), none⟩ = some u := by
  obtain ⟨a, cap, rfl, hm, hn, hc⟩ := h
  obtain ⟨b, off, rfl, hb, hcell⟩ := hc j e hj
  exact ⟨cap, rfl, hb, hcell⟩
theorem OwS.at_ {α : Type} {f : α → List Value} {sz base : Nat} {w : World} {v : Value} {xs : List α} (h : OwS f sz w base v xs) {j : Nat} {e : α} (hj : xs[j]? = some e) : ∃ cap, v = .slice (some ⟨sB v, sO v, none⟩) xs.length cap ∧ (∀ i u, (f e)[i]? = some u → w.cell? ⟨sB v, sO v + (j * sz + i), none⟩ = some u) := by
  rcases h with ⟨rfl, rfl⟩ | ⟨g, of, cap, rfl, hb, hlt, hc, hs, he⟩
  · simp at hj
  · exact ⟨cap, rfl, fun i u hu => he j e hj i u hu⟩

theorem run_ixa {e : TypeId} {sz bytes : Nat} {d : TypeDesc} {z' : Value} {b of n cap j : Nat} {k : IntKind} {w : World} (hT : P.underlying T = some (.slice e)) (hE : Ty P e d sz bytes z') (hj : j < n) : (Instr.indexAt T (.slice (some ⟨b, of, none⟩) n cap) (.int k (j : Int))).run P w = .ok (ptr b (of + j * sz)) w := by
  have e1 : (underlying T).run P w = .ok (.slice e) w := run_underlying hT w
  have h1 : (0 : Int) ≤ (j : Int) ∧ (j : Int) < (n : Int) := by omega
  simp [Instr.indexAt, asIntOf, e1, Result.andThen, h1, hE.size, addr_add]
  omega
/-- a slice of which it is known that it reaches past j -/
def Reach (c : Cx) (l : List Hp) (v : Value) (j : Nat) : Prop := ∀ w, Sat c.W w (sep l) → ∃ n cap, v = .slice (some ⟨sB v, sO v, none⟩) n cap ∧ j < n
theorem reach_base {α : Type} {f : α → List Value} {sz : Nat} {xs : List α} {j : Nat} {e : α} (h : SlS f sz c.W v xs) (hj : xs[j]? = some e) : Reach c l v j := fun w H => by
  obtain ⟨cap, hv, _⟩ := h.at_ hj
  exact ⟨_, cap, hv, (List.getElem?_eq_some_iff.1 hj).1⟩
theorem reach_own {α : Type} {f : α → List Value} {sz : Nat} {xs : List α} {j k : Nat} {e : α} (hk : l[k]? = some (Hp.own f sz v xs)) (hj : xs[j]? = some e) : Reach c l v j := fun w H => by
  obtain ⟨cap, hv, _⟩ := (H.at_ hk).ows.at_ hj
  exact ⟨_, cap, hv, (List.getElem?_eq_some_iff.1 hj).1⟩
theorem val_ixa {e : TypeId} {d : TypeDesc} {sz bytes : Nat} {z' : Value} {k : IntKind} {i : Int} {j : Nat} (ho : o.op = .indexAddr T x y) (hT : P.underlying T = some (.slice e)) (hE : Ty P e d sz bytes z') (hx : evo m x = some v) (hy : evo m y = some (.int k i)) (hi : i = (j : Int)) (hr : Reach c l v j) :
    Val P c m l o (ptr (sB v) (sO v + j * sz)) := Val.of fun a w s H => by
  obtain ⟨n, cap, hv, hj⟩ := hr w H
  subst hi
  have h1 := run_ixa (P := P) (T := T) (w := w) (b := sB v) (of := sO v) (cap := cap) (k := k) hT hE hj
  rw [← hv] at h1
  simp [execOp, ho, s.ev hx, s.ev hy, h1, Result.andThen]
/-- into an array -/
theorem val_ixaA {e : TypeId} {d : TypeDesc} {sz bytes : Nat} {z' : Value} {k : IntKind} {i : Int} {j n b of : Nat} (ho : o.op = .indexAddr T x y) (hT : P.underlying T = some (.array n e)) (hE : Ty P e d sz bytes z') (hx : evo m x = some (ptr b of)) (hy : evo m y = some (.int k i)) (hi : i = (j : Int)) (hj : j < n) :
    Val P c m l o (ptr b (of + j * sz)) := Val.of fun a w s H => by
  subst hi
  have e1 : (underlying T).run P w = .ok (.array n e) w := run_underlying hT w
  have h1 : (0 : Int) ≤ (j : Int) ∧ (j : Int) < (n : Int) := by omega
  simp [execOp, ho, s.ev hx, s.ev hy, Instr.indexAt, asIntOf, e1, Instr.sureAddr, Result.andThen, h1, hj, hE.size, addr_add]

/-! loads -/
def Cell (c : Cx) (l : List Hp) (b of : Nat) (u : Value) : Prop := ∀ w, Sat c.W w (sep l) → w.cell? ⟨b, of, none⟩ = some u
def Cells (c : Cx) (l : List Hp) (b of : Nat) (us : List Value) : Prop := ∀ w, Sat c.W w (sep l) → ∀ i u, us[i]? = some u → w.cell? ⟨b, of + i, none⟩ = some u
theorem cell_base {α : Type} {f : α → List Value} {sz : Nat} {xs : List α} {j i : Nat} {e : α} (h : SlS f sz c.W v xs) (hj : xs[j]? = some e) (hu : (f e)[i]? = some u) : Cell c l (sB v) (sO v + j * sz + i) u := fun w H => by
  obtain ⟨cap, hv, hb, hc⟩ := h.at_ hj
  rw [H.below.cell (p := ⟨sB v, sO v + j * sz + i, none⟩) hb, Nat.add_assoc]
  exact hc i u hu
theorem cells_base {α : Type} {f : α → List Value} {sz : Nat} {xs : List α} {j : Nat} {e : α} (h : SlS f sz c.W v xs) (hj : xs[j]? = some e) : Cells c l (sB v) (sO v + j * sz) (f e) := fun w H i u hu => cell_base h hj hu w H
theorem cell_own {α : Type} {f : α → List Value} {sz : Nat} {xs : List α} {j i k : Nat} {e : α} (hk : l[k]? = some (Hp.own f sz v xs)) (hj : xs[j]? = some e) (hu : (f e)[i]? = some u) : Cell c l (sB v) (sO v + j * sz + i) u := fun w H => by
  obtain ⟨cap, hv, hc⟩ := (H.at_ hk).ows.at_ hj
  rw [Nat.add_assoc]; exact hc i u hu
theorem cells_own {α : Type} {f : α → List Value} {sz : Nat} {xs : List α} {j k : Nat} {e : α} (hk : l[k]? = some (Hp.own f sz v xs)) (hj : xs[j]? = some e) : Cells c l (sB v) (sO v + j * sz) (f e) := fun w H i u hu => cell_own hk hj hu w H
theorem cell_rec {k b i : Nat} {vs : List Value} (hk : l[k]? = some (Hp.rec_ b vs)) (hu : vs[i]? = some u) : Cell c l b i u := fun w H => (H.at_ hk).cell i hu
theorem cells_rec {k b : Nat} {vs : List Value} (hk : l[k]? = some (Hp.rec_ b vs)) : Cells c l b 0 vs := fun w H i u hu => by rw [Nat.zero_add]; exact (H.at_ hk).cell i hu
theorem cells_rec_at {k b i n : Nat} {vs us : List Value} (hk : l[k]? = some (Hp.rec_ b vs)) (hu : (vs.drop i).take n = us) : Cells c l b i us := fun w H j u h => by
  subst hu
  refine (H.at_ hk).cell (i + j) ?_
  rw [List.getElem?_take] at h
  split at h
  · rwa [List.getElem?_drop] at h
  · cases h
theorem cell_old {b of : Nat} (hb : b < c.W.heap.size) (h : c.W.cell? ⟨b, of, none⟩ = some u) : Cell c l b of u := fun w H => by
  rw [H.below.cell (p := ⟨b, of, none⟩) hb]; exact h
theorem val_load {d : TypeDesc} {b of : Nat} {sz bytes : Nat} {z' : Value} (ho : o.op = .load T x) (hT : Ty P T d sz bytes z') (hd : aggD d = false) (hx : evo m x = some (ptr b of)) (hc : Cell c l b of u) : Val P c m l o u := Val.of fun a w s H => by
  simp [execOp, ho, s.ev hx, Instr.loadAt, Instr.sureAddr, loadVar, hT.agg, hd, Result.andThen, load, Sem.run, hc w H]
theorem val_loadA {d : TypeDesc} {b of : Nat} {sz bytes : Nat} {z' : Value} {us : List Value} (ho : o.op = .load T x) (hT : Ty P T d sz bytes z') (hd : aggD d = true) (hx : evo m x = some (ptr b of)) (hl : us.length = sz) (hc : Cells c l b of us) : Val P c m l o (.agg us.toArray) := Val.of fun a w s H => by
  have h1 := run_loadCells_list (P := P) (w := w) ⟨b, of, none⟩ us (fun j v hj => by rw [addr_add]; exact hc w H j v hj)
  rw [hl] at h1
  simp [execOp, ho, s.ev hx, Instr.loadAt, Instr.sureAddr, loadVar, hT.agg, hd, hT.size, Result.andThen, h1]

/-! lengths -/
def Len (c : Cx) (l : List Hp) (v : Value) (n : Nat) : Prop := ∀ w, Sat c.W w (sep l) → ∃ a cap, v = .slice a n cap
theorem len_base {α : Type} {f : α → List Value} {sz : Nat} {xs : List α} (h : SlS f sz c.W v xs) : Len c l v xs.length := fun w H => by
  obtain ⟨a, cap, e, _⟩ := h; exact ⟨a, cap, e⟩
theorem len_own {α : Type} {f : α → List Value} {sz k : Nat} {xs : List α} (hk : l[k]? = some (Hp.own f sz v xs)) : Len c l v xs.length := fun w H => by
  obtain ⟨a, cap, e, _⟩ := (H.at_ hk).ows.form; exact ⟨a, cap, e⟩
theorem len_lit {a : Option Addr} {n cap : Nat} : Len c l (.slice a n cap) n := fun w H => ⟨a, cap, rfl⟩
theorem val_len {e : TypeId} {n : Nat} (ho : o.op = .call { callee := .builtin .len, args := #[x], argTypes := #[T] }) (hT : P.underlying T = some (.slice e)) (hx : evo m x = some v) (hn : Len c l v n) : Val P c m l o (.int .i64 n) := Val.of fun a w s H => by
  obtain ⟨ad, cap, rfl⟩ := hn w H
  have e1 : (underlying T).run P w = .ok (.slice e) w := run_underlying hT w
  simp [execOp, ho, resolve, invoke, builtin, s.ev hx, Builtin.len_, e1, Result.andThen, goInt]
theorem val_lenM {α β : Type} {k' e : TypeId} {kl : α → Lit} {vf : β → Value} {b k : Nat} {ms : List (α × β)} (ho : o.op = .call { callee := .builtin .len, args := #[x], argTypes := #[T] }) (hT : P.underlying T = some (.map k' e)) (hx : evo m x = some (.map (some b))) (hk : l[k]? = some (Hp.map P k' kl vf b ms)) : Val P c m l o (.int .i64 ms.length) := Val.of fun a w s H => by
  have h1 := (H.at_ hk).lenM (w := w) hT o.type
  simp [execOp, ho, resolve, invoke, builtin, s.ev hx, h1, Result.andThen]
theorem val_lookup {α β : Type} [DecidableEq α] {k' e : TypeId} {kl : α → Lit} {kf : α → Value} {ok : α → Prop} {vf : β → Value} {b k : Nat} {ms : List (α × β)} {q : Bool} {d : TypeDesc} {sz bytes : Nat} {zv : Value} {i : α} (ho : o.op = .lookup T x y q) (hT : P.underlying T = some (.map k' e)) (K : KeyT P k' kf kl ok) (hE : Ty P e d sz bytes zv)
    (hx : evo m x = some (.map (some b))) (hy : evo m y = some (kf i)) (hi : ok i) (hk : l[k]? = some (Hp.map P k' kl vf b ms)) : Val P c m l o (match getM ms i with | some x => if q then .tuple #[vf x, .bool true] else vf x | none => if q then .tuple #[zv, .bool false] else zv) := Val.of fun a w s H => by
  have h1 := (H.at_ hk).look K hT hE.zero hi q
  simp [execOp, ho, s.ev hx, s.ev hy, h1, Result.andThen]
  cases getM ms i <;> rfl
theorem val_lookupS {α β : Type} [DecidableEq α] {k' e : TypeId} {kl : α → Lit} {kf : α → Value} {ok : α → Prop} {vf : β → Value} {b k : Nat} {ms : List (α × β)} {d : TypeDesc} {sz bytes : Nat} {zv : Value} {i : α} {r : β} (ho : o.op = .lookup T x y true) (hT : P.underlying T = some (.map k' e)) (K : KeyT P k' kf kl ok) (hE : Ty P e d sz bytes zv)
    (hx : evo m x = some (.map (some b))) (hy : evo m y = some (kf i)) (hi : ok i) (hk : l[k]? = some (Hp.map P k' kl vf b ms)) (hr : getM ms i = some r) : Val P c m l o (.tuple #[vf r, .bool true]) := by
  have := val_lookup (c := c) (m := m) (o := o) ho hT K hE hx hy hi hk
  rw [hr] at this; exact this
theorem val_lookupN {α β : Type} [DecidableEq α] {k' e : TypeId} {kl : α → Lit} {kf : α → Value} {ok : α → Prop} {vf : β → Value} {b k : Nat} {ms : List (α × β)} {d : TypeDesc} {sz bytes : Nat} {zv : Value} {i : α} (ho : o.op = .lookup T x y true) (hT : P.underlying T = some (.map k' e)) (K : KeyT P k' kf kl ok) (hE : Ty P e d sz bytes zv)
    (hx : evo m x = some (.map (some b))) (hy : evo m y = some (kf i)) (hi : ok i) (hk : l[k]? = some (Hp.map P k' kl vf b ms)) (hr : getM ms i = none) : Val P c m l o (.tuple #[zv, .bool false]) := by
  have := val_lookup (c := c) (m := m) (o := o) ho hT K hE hx hy hi hk
  rw [hr] at this; exact this
theorem val_lookup1 {α β : Type} [DecidableEq α] {k' e : TypeId} {kl : α → Lit} {kf : α → Value} {ok : α → Prop} {vf : β → Value} {b k : Nat} {ms : List (α × β)} {d : TypeDesc} {sz bytes : Nat} {zv : Value} {i : α} {r : Value} (ho : o.op = .lookup T x y false) (hT : P.underlying T = some (.map k' e)) (K : KeyT P k' kf kl ok) (hE : Ty P e d sz bytes zv)
    (hx : evo m x = some (.map (some b))) (hy : evo m y = some (kf i)) (hi : ok i) (hk : l[k]? = some (Hp.map P k' kl vf b ms)) (hr : ((getM ms i).map vf).getD zv = r) : Val P c m l o r := by
  have := val_lookup (c := c) (m := m) (o := o) ho hT K hE hx hy hi hk
  subst hr
  cases e : getM ms i <;> rw [e] at this <;> exact this

/-! values that are slices -/
def IsS (v : Value) : Prop := ∃ a n c, v = .slice a n c
theorem SlS.isS {α : Type} {f : α → List Value} {sz : Nat} {w : World} {xs : List α} (h : SlS f sz w v xs) : IsS v := by obtain ⟨a, c, e, _⟩ := h; exact ⟨a, _, c, e⟩
theorem isS_own {α : Type} {f : α → List Value} {sz : Nat} {W w : World} {R : Hp} {xs : List α} (H : Sat W w (Hp.own f sz v xs * R)) : IsS v := by obtain ⟨a, c, e, _⟩ := H.ows.form; exact ⟨a, _, c, e⟩
theorem isS_lit {a : Option Addr} {n q : Nat} : IsS (.slice a n q) := ⟨a, n, q, rfl⟩
theorem IsS.cells (h : IsS v) : v.cells = #[v] := by obtain ⟨a, n, q, rfl⟩ := h; rfl
theorem IsS.cellsL (h : IsS v) : v.cells.toList = [v] := by rw [h.cells]
theorem IsS.one (h : IsS v) : v.oneCell' = true := by obtain ⟨a, n, q, rfl⟩ := h; rfl
theorem IsS.all (h : IsS v) : [v].all Value.oneCell' = true := by simp [h.one]

/-! cuts -/
def sCut (sz lo hi : Nat) : Value → Value
  | .slice a n cap => .slice (if cap = lo then a else a.map (·.add (lo * sz))) (hi - lo) (cap - lo)
  | v => v
theorem SlS.cut {α : Type} {f : α → List Value} {sz : Nat} {w : World} {v : Value} {xs : List α} (h : SlS f sz w v xs) {lo hi : Nat} (h1 : lo ≤ hi) (h2 : hi ≤ xs.length) : SlS f sz w (sCut sz lo hi v) ((xs.take hi).drop lo) := by
  obtain ⟨a, cap, rfl, hm, hn, hc⟩ := h
  have hlen : ((xs.take hi).drop lo).length = hi - lo := by simp; omega
  refine ⟨_, _, by rw [hlen]; rfl, by omega, ⟨fun e => ?_, by omega⟩, fun j x hx => ?_⟩
  · split at e
    · omega
    · cases a with
      | none => have := hn.1 rfl; omega
      | some a => cases e
  · have hj := (List.getElem?_eq_some_iff.1 hx).1
    rw [hlen] at hj
    rw [List.getElem?_drop, List.getElem?_take, if_pos (by omega)] at hx
    obtain ⟨b, off, rfl, hb, hcell⟩ := hc (lo + j) x hx
    rw [if_neg (by omega)]
    refine ⟨b, off + lo * sz, by simp [addr_add], hb, fun i u hu => ?_⟩
    have := hcell i u hu
    rw [show off + lo * sz + (j * sz + i) = off + ((lo + j) * sz + i) by rw [Nat.add_mul]; omega]
    exact this
theorem val_cut {α : Type} {f : α → List Value} {sz bytes : Nat} {e : TypeId} {d : TypeDesc} {z' : Value} {xs : List α} {k k' : IntKind} {i i' : Int} {lo up : Nat} (ho : o.op = .slice T x (some y) (some z) none) (hT : P.underlying T = some (.slice e)) (hE : Ty P e d sz bytes z') (hx : evo m x = some v) (hs : SlS f sz c.W v xs)
    (hy : evo m y = some (.int k i)) (hi : i = (lo : Int)) (hz : evo m z = some (.int k' i')) (hi' : i' = (up : Int)) (h1 : lo ≤ up) (h2 : up ≤ xs.length) : Val P c m l o (sCut sz lo up v) := Val.of fun a w s H => by
  obtain ⟨ad, cap, rfl, hm, hn, hc⟩ := hs
  have e1 : (underlying T).run P w = .ok (.slice e) w := run_underlying hT w
  subst hi hi'
  have q1 : (0 : Int) ≤ (up : Int) ∧ (up : Int) ≤ (cap : Int) := by omega
  have q3 : up ≤ cap := by omega
  have q2 : (0 : Int) ≤ (lo : Int) ∧ (lo : Int) ≤ (up : Int) := by omega
  simp [execOp, ho, s.ev hx, s.ev hy, s.ev hz, Instr.sliceAt, Instr.slice, e1, Result.andThen, Instr.sliceBounds, Instr.sliceBound, asIntOf, q1, q2, q3, h1, hE.size, sCut]
theorem val_cutTo {α : Type} {f : α → List Value} {sz bytes : Nat} {e : TypeId} {d : TypeDesc} {z' : Value} {xs : List α} {k' : IntKind} {i' : Int} {up : Nat} (ho : o.op = .slice T x none (some z) none) (hT : P.underlying T = some (.slice e)) (hE : Ty P e d sz bytes z') (hx : evo m x = some v) (hs : SlS f sz c.W v xs)
    (hz : evo m z = some (.int k' i')) (hi' : i' = (up : Int)) (h2 : up ≤ xs.length) : Val P c m l o (sCut sz 0 up v) := Val.of fun a w s H => by
  obtain ⟨ad, cap, rfl, hm, hn, hc⟩ := hs
  have e1 : (underlying T).run P w = .ok (.slice e) w := run_underlying hT w
  subst hi'
  have q1 : (0 : Int) ≤ (up : Int) ∧ (up : Int) ≤ (cap : Int) := by omega
  have q3 : up ≤ cap := by omega
  simp [execOp, ho, s.ev hx, s.ev hz, Instr.sliceAt, Instr.slice, e1, Result.andThen, Instr.sliceBounds, Instr.sliceBound, asIntOf, q1, q3, hE.size, sCut]
theorem val_cutFrom {α : Type} {f : α → List Value} {sz bytes : Nat} {e : TypeId} {d : TypeDesc} {z' : Value} {xs : List α} {k : IntKind} {i : Int} {lo : Nat} (ho : o.op = .slice T x (some y) none none) (hT : P.underlying T = some (.slice e)) (hE : Ty P e d sz bytes z') (hx : evo m x = some v) (hs : SlS f sz c.W v xs)
    (hy : evo m y = some (.int k i)) (hi : i = (lo : Int)) (h1 : lo ≤ xs.length) : Val P c m l o (sCut sz lo xs.length v) := Val.of fun a w s H => by
  obtain ⟨ad, cap, rfl, hm, hn, hc⟩ := hs
  have e1 : (underlying T).run P w = .ok (.slice e) w := run_underlying hT w
  subst hi
  have q2 : (0 : Int) ≤ (lo : Int) ∧ (lo : Int) ≤ (xs.length : Int) := by omega
  simp [execOp, ho, s.ev hx, s.ev hy, Instr.sliceAt, Instr.slice, e1, Result.andThen, Instr.sliceBounds, Instr.sliceBound, asIntOf, q2, h1, hE.size, sCut]
theorem val_makeFunc {fn : Fn} {xs ys : List Operand} {us vs : List Value} (ho : o.op = .makeFunc fn xs.toArray ys.toArray) (hx : evoL m xs = some us) (hy : evoL m ys = some vs) : Val P c m l o (.func fn us.toArray vs.toArray) := Val.of fun a w s H => by
  have h1 := s.evL hx
  have h2 := s.evL hy
  simp [execOp, ho, Instr.makeFunc, h1, h2]
/-- any operation whose run is known -/
theorem val_run (hr : ∀ a w, Slots c a m → Sat c.W w (sep l) → (execOp a.eval o).run P w = .ok (.value v) w) : Val P c m l o v := Val.of hr

theorem evoL_pairs {a : Act} {ps : List (Nat × Operand)} {qs : List (Nat × Value)} (s : Slots c a m) (hq : evoL m (ps.map (·.2)) = some (qs.map (·.2))) (hi : ps.map (·.1) = qs.map (·.1)) : ps.map (fun p => (p.1, a.eval p.2)) = qs := by
  have h2 := s.evL hq
  rw [List.map_map] at h2
  refine List.ext_getElem? fun k => ?_
  have e1 := congrArg (fun t : List Nat => t[k]?) hi
  have e2 := congrArg (fun t : List Value => t[k]?) h2
  simp only [List.getElem?_map] at e1 e2 ⊢
  cases h3 : ps[k]? <;> cases h4 : qs[k]? <;> simp [h3, h4] at e1 e2 ⊢
  exact Prod.ext e1 e2
theorem val_build {ps : List (Nat × Operand)} {qs : List (Nat × Value)} (ho : o.op = .build T ps.toArray) (hq : evoL m (ps.map (·.2)) = some (qs.map (·.2))) (hi : ps.map (·.1) = qs.map (·.1))
    (hr : ∀ w : World, (Instr.build T qs.toArray).run P w = .ok v w) : Val P c m l o v := Val.of fun a w s H => by
  simp [execOp, ho, evoL_pairs s hq hi, hr, Result.andThen]

/-! calls -/
/-- a function that may be called -/
def Fnc (P : Program) (f : FuncId) : Prop := ∀ args w, (callFunc f args).run P w = .ok (.enter f args) w
theorem val_call {f : FuncId} {xs : List Operand} {ts : Array TypeId} {vs : List Value} (ho : o.op = .call { callee := .value (.func f), args := xs.toArray, argTypes := ts }) (F : Fnc P f) (hx : evoL m xs = some vs)
    (h : ∀ w, Sat c.W w (sep l) → Calls P f vs.toArray w fun e w' => e = .returned v ∧ Below w.heap.size w w') : Val P c m l o v := fun a w s H => by
  have h1 := s.evL hx
  unfold Oper.quietAt
  have : (execOp a.eval o).run P w = .ok (.enter f vs.toArray) w := by
    have hF := F vs.toArray w
    simp [execOp, ho, resolve, Act.eval, Deferred.ofValue, invoke, h1, Result.andThen, hF]
  rw [this]
  exact ⟨rfl, (h w H).mono fun e w' ⟨he, hb⟩ => ⟨he, H.of_below hb⟩⟩
/-- a call of a function value -/
theorem val_callV {f : FuncId} {x : Operand} {xs : List Operand} {ts : Array TypeId} {vs fs cs : List Value} (ho : o.op = .call { callee := .value x, args := xs.toArray, argTypes := ts }) (F : Fnc P f) (hf : evo m x = some (.func (.func f) fs.toArray cs.toArray)) (hx : evoL m xs = some vs)
    (h : ∀ w, Sat c.W w (sep l) → Calls P f (fs ++ vs ++ cs).toArray w fun e w' => e = .returned v ∧ Below w.heap.size w w') : Val P c m l o v := fun a w s H => by
  have h1 := s.evL hx
  unfold Oper.quietAt
  have : (execOp a.eval o).run P w = .ok (.enter f (fs ++ vs ++ cs).toArray) w := by
    have hF := F (fs ++ vs ++ cs).toArray w
    simp [execOp, ho, resolve, s.ev hf, Deferred.ofValue, invoke, h1, Result.andThen, hF] at hF ⊢
    exact hF
  rw [this]
  exact ⟨rfl, (h w H).mono fun e w' ⟨he, hb⟩ => ⟨he, H.of_below hb⟩⟩
end
end Go.Proofs.YtcblkjjkpffjhaaDoor
