/- Ranges over maps: a map and its iterator as one part. Over any program. No condition. -/
import Derived.Test.YtcblkjjkpffjhaaDoorX6
import Derived.Maps.RangeRun
namespace Go.Proofs.YtcblkjjkpffjhaaDoor
open Go.RowKit Go.ChangeMaps Go.WideShapes Go.MapKept
open Go.WideElems (Fit rd rg rd_key rd_val rg_of rd_mk)
open Go.Maps (Keyed)
set_option linter.unusedVariables false

section
variable {α β : Type} {P : Program} {k : TypeId} {kl : α → Lit} {vf : β → Value} {kf : α → Value} {ok : α → Prop} {W w w' : World} {R : Hp} {b r : Nat} {ms left : List (α × β)}

structure ItF (P : Program) (k : TypeId) (kl : α → Lit) (vf : β → Value) (ms left : List (α × β)) (es : Array MapEntry) (clock since c0 : Nat) (seen : Array Nat) : Prop where
  fit : Fit P k heldR es clock
  perm : (es.toList.map (rg P k heldR)).Perm (ms.map (toE kl vf))
  old : ∀ x ∈ es.toList, x.born < since
  le : since ≤ c0
  le' : since ≤ clock
  left : ((leftOf es seen).toList.map (rg P k heldR)).Perm (left.map (toE kl vf))
def Hp.iter (P : Program) (k : TypeId) (kl : α → Lit) (vf : β → Value) (b r : Nat) (ms left : List (α × β)) : Hp := fun h => ∃ (es : Array MapEntry) (clock since c0 : Nat) (seen : Array Nat), (Hp.blk b (· = .map es clock) * Hp.blk r (· = .mapIter (some b) since seen c0)) h ∧ ItF P k kl vf ms left es clock since c0 seen
def Hp.iterE (P : Program) (k : TypeId) (kl : α → Lit) (vf : β → Value) (kf : α → Value) (b r : Nat) (ms left : List (α × β)) (a : α) (x : β) : Hp := fun h => ∃ (es : Array MapEntry) (clock since : Nat) (seen : Array Nat) (e : MapEntry), (Hp.blk b (· = .map es clock) * Hp.blk r (· = .mapIter (some b) since (seen.push e.born) clock)) h ∧ ItF P k kl vf ms left es clock since clock (seen.push e.born) ∧ e ∈ es.toList ∧ e.key = kf a ∧ e.val = vf x

theorem Sat.iter (H : Sat W w (Hp.iter P k kl vf b r ms left * R)) : ∃ (es : Array MapEntry) (clock since c0 : Nat) (seen : Array Nat), Sat W w (Hp.blk b (· = .map es clock) * (Hp.blk r (· = .mapIter (some b) since seen c0) * R)) ∧ ItF P k kl vf ms left es clock since c0 seen := by
  obtain ⟨hb, m, hm, h1, h2, hd, e, ⟨es, clock, since, c0, seen, hst, hF⟩, r⟩ := H
  exact ⟨es, clock, since, c0, seen, Sat.assoc ⟨hb, m, hm, h1, h2, hd, e, hst, r⟩, hF⟩
theorem Sat.iterE {a : α} {x : β} (H : Sat W w (Hp.iterE P k kl vf kf b r ms left a x * R)) : ∃ (es : Array MapEntry) (clock since : Nat) (seen : Array Nat) (e : MapEntry), Sat W w (Hp.blk b (· = .map es clock) * (Hp.blk r (· = .mapIter (some b) since (seen.push e.born) clock) * R)) ∧ ItF P k kl vf ms left es clock since clock (seen.push e.born) ∧ e ∈ es.toList ∧ e.key = kf a ∧ e.val = vf x := by
  obtain ⟨hb, m, hm, h1, h2, hd, e, ⟨es, clock, since, seen, e0, hst, hF⟩, r⟩ := H
  exact ⟨es, clock, since, seen, e0, Sat.assoc ⟨hb, m, hm, h1, h2, hd, e, hst, r⟩, hF⟩
theorem Sat.iterI {es : Array MapEntry} {clock since c0 : Nat} {seen : Array Nat} (H : Sat W w (Hp.blk b (· = .map es clock) * (Hp.blk r (· = .mapIter (some b) since seen c0) * R))) (F : ItF P k kl vf ms left es clock since c0 seen) : Sat W w (Hp.iter P k kl vf b r ms left * R) :=
  (H.cast (Hp.mul_assoc _ _ _).symm).mono fun m h => ⟨es, clock, since, c0, seen, h, F⟩
theorem Sat.iterEI {a : α} {x : β} {es : Array MapEntry} {clock since : Nat} {seen : Array Nat} {e : MapEntry} (H : Sat W w (Hp.blk b (· = .map es clock) * (Hp.blk r (· = .mapIter (some b) since (seen.push e.born) clock) * R))) (F : ItF P k kl vf ms left es clock since clock (seen.push e.born)) (he : e ∈ es.toList) (hk : e.key = kf a) (hv : e.val = vf x) : Sat W w (Hp.iterE P k kl vf kf b r ms left a x * R) :=
  (H.cast (Hp.mul_assoc _ _ _).symm).mono fun m h => ⟨es, clock, since, seen, e, h, F, he, hk, hv⟩
theorem grown_self (w : World) (row : Option Nat) : w.grownBy w row := ⟨rfl, rfl, rfl, Nat.le_refl _, fun _ _ _ => rfl⟩

theorem filter_once {es : List MapEntry} {p : MapEntry → Bool} {e : MapEntry} (hn : (es.map (·.born)).Nodup) (he : e ∈ es) (hp : p e = true) : (es.filter p).Perm (e :: es.filter (fun x => p x && !(x.born == e.born))) := by
  induction es with
  | nil => cases he
  | cons y es ih =>
    rw [List.map_cons, List.nodup_cons] at hn
    cases he with
    | head =>
      rw [List.filter_cons_of_pos hp, List.filter_cons_of_neg (by simp)]
      refine List.Perm.cons _ (List.Perm.of_eq (List.filter_congr fun x hx => ?_))
      have : x.born ≠ e.born := fun h => hn.1 (List.mem_map.2 ⟨x, hx, h⟩)
      simp [this]
    | tail _ he =>
      have h1 : y.born ≠ e.born := fun h => hn.1 (List.mem_map.2 ⟨e, he, h.symm⟩)
      have h2 := ih hn.2 he
      cases hy : p y
      · rw [List.filter_cons_of_neg (by simp [hy]), List.filter_cons_of_neg (by simp [hy])]; exact h2
      · rw [List.filter_cons_of_pos hy, List.filter_cons_of_pos (by simp [hy, h1])]
        exact (h2.cons y).trans (List.Perm.swap _ _ _)
end

section
variable {P : Program} {c : Cx} {m : List (Nat × Value)} {l l' : List Hp} {o : Oper} {x y z : Operand} {T : TypeId}

theorem eff_range {α β : Type} {k' e : TypeId} {kl : α → Lit} {vf : β → Value} {b k : Nat} {ms : List (α × β)} (ho : o.op = .range T x) (hT : P.underlying T = some (.map k' e)) (hx : evo m x = some (.map (some b))) (hk : l[k]? = some (Hp.map P k' kl vf b ms)) :
    Eff P c m l o (fun v l'' => ∃ r, v = ptr r 0 ∧ l'' = l.set k (Hp.iter P k' kl vf b r ms ms)) := Eff.of fun a w s H => by
  have H1 := H.at_ hk
  obtain ⟨hlo, o1, ho1, es, clock, rfl, F, hp⟩ := H1.blk
  have H2 : Sat c.W w (Hp.blk b (· = Obj.map es clock) * sep (l.eraseIdx k)) := H1.blk_change (grown_self w _) fun o ho hm => ⟨o, ho, by rw [ho1] at ho; exact (Option.some.inj ho).symm⟩
  have H3 := (H2.alloc_blk (p := (· = Obj.mapIter (some b) clock #[] clock)) (.mapIter (some b) clock #[] clock) rfl).sw
  have hrun := run_range_map (P := P) w T k' e b es clock hT ho1
  refine ⟨_, _, ?_, _, ⟨w.heap.size, rfl, rfl⟩, Sat.back hk rfl (H3.iterI ⟨F, hp, F.stamped.1, Nat.le_refl _, Nat.le_refl _, ?_⟩)⟩
  · simp [execOp, ho, s.ev hx, hrun, Result.andThen]
  · have e1 : (leftOf es #[]).toList = es.toList := by
      simp only [leftOf, Array.toList_filter]
      exact List.filter_eq_self.2 fun x _ => by simp
    rw [e1]; exact hp

theorem eff_next {α β : Type} {k' : TypeId} {kl : α → Lit} {kf : α → Value} {ok : α → Prop} {vf : β → Value} {b r k : Nat} {ms left : List (α × β)} (ho : o.op = .next x false) (K : KeyT P k' kf kl ok) (hok : ∀ p ∈ left, ok p.1) (hx : evo m x = some (ptr r 0)) (hk : l[k]? = some (Hp.iter P k' kl vf b r ms left)) :
    Eff P c m l o (fun v l'' => (left = [] ∧ v = .tuple #[.bool false] ∧ l'' = l.set k (Hp.map P k' kl vf b ms)) ∨ ∃ a x rest, left.Perm ((a, x) :: rest) ∧ v = .tuple #[.bool true, kf a, vf x] ∧ l'' = l.set k (Hp.iterE P k' kl vf kf b r ms rest a x)) := Eff.of fun a w s H => by
  have H1 := H.at_ hk
  obtain ⟨es, clock, since, c0, seen, H2, F⟩ := H1.iter
  obtain ⟨_, _, hb, rfl⟩ := H2.blk
  obtain ⟨_, _, hr, rfl⟩ := H2.sw.blk
  rcases run_next_at (P := P) w o.type r b since c0 seen es clock hr hb F.old F.le with ⟨h0, hrun⟩ | ⟨e, he, w1, hal, hrun⟩
  · have hl : left = [] := by
      have := F.left.length_eq
      simp at this
      exact List.length_eq_zero_iff.1 (by omega)
    refine ⟨_, w, ?_, _, .inl ⟨hl, rfl, rfl⟩, Sat.back hk rfl ((H2.sw.drop).mono fun m h => ?_)⟩
    · simp [execOp, ho, s.ev hx, ptr, hrun, Result.andThen]
    · obtain ⟨o1, ho1, e1⟩ := h
      exact ⟨o1, ⟨es, clock, ho1, F.fit, F.perm⟩, e1⟩
  · obtain ⟨hem, hes⟩ := mem_left he
    obtain ⟨y0, hy0⟩ := F.fit.reads e hem
    obtain ⟨z0, hz, hzd⟩ := rd_val hy0
    have hkey := rd_key hy0
    cases hz
    have hrg : rg P k' heldR e = (y0.1, .held e.val) := by rw [rg_of hy0]; exact Prod.ext rfl hzd
    have hmem : rg P k' heldR e ∈ left.map (toE kl vf) := F.left.mem_iff.1 (List.mem_map.2 ⟨e, he, rfl⟩)
    obtain ⟨⟨ka, xv⟩, hpm, hpe⟩ := List.mem_map.1 hmem
    obtain ⟨l1, l2, rfl⟩ := List.append_of_mem hpm
    have hpe' := hpe
    rw [hrg] at hpe
    simp only [toE, Prod.mk.injEq] at hpe
    have hv : vf xv = e.val := by have := hpe.2; injection this
    have hka : e.key = kf ka := K.keyed.inj (hkey.trans (congrArg some hpe.1.symm)) (K.key ka (hok _ hpm))
    have hst := (stamped_iff es clock).1 F.fit.stamped
    have hL : (leftOf es seen).toList.Perm (e :: (leftOf es (seen.push e.born)).toList) := by
      have h1 := filter_once (p := fun x => !seen.contains x.born) hst.2.1 hem (by simp only [hes, Bool.not_false])
      have e1 : (leftOf es seen).toList = es.toList.filter (fun x => !seen.contains x.born) := by simp [leftOf]
      have e2 : (leftOf es (seen.push e.born)).toList = es.toList.filter (fun x => !seen.contains x.born && !(x.born == e.born)) := by
        simp only [leftOf, Array.toList_filter]
        exact List.filter_congr fun x _ => by rw [contains_push]; cases seen.contains x.born <;> simp
      rw [e1, e2]; exact h1
    have hleft : ((leftOf es (seen.push e.born)).toList.map (rg P k' heldR)).Perm ((l1 ++ l2).map (toE kl vf)) := by
      have h1 := (hL.map (rg P k' heldR)).symm.trans (F.left.trans ((List.perm_middle (a := (ka, xv)) (l₁ := l1) (l₂ := l2)).map (toE kl vf)))
      rw [List.map_cons, List.map_cons, ← hpe'] at h1
      exact h1.cons_inv
    have Hw : Sat c.W w1 (Hp.blk r (· = Obj.mapIter (some b) since seen c0) * (Hp.blk b (· = Obj.map es clock) * sep (l.eraseIdx k))) := by
      rcases hal with rfl | rfl
      · exact H2.sw
      · exact H2.sw.drew
    have hr1 : w1.heap[r]? = some (.mapIter (some b) since seen c0) := by rcases hal with rfl | rfl <;> exact hr
    have hg : w1.grownBy (setBlock w1 r (.mapIter (some b) since (seen.push e.born) clock)) (some r) := ⟨rfl, rfl, rfl, by simp [setBlock], fun i _ hi => (heap_set (o' := .mapIter (some b) since (seen.push e.born) clock) hr1).2 i (fun e => hi (by rw [e]))⟩
    have H3 : Sat c.W (setBlock w1 r (.mapIter (some b) since (seen.push e.born) clock)) (Hp.blk r (· = Obj.mapIter (some b) since (seen.push e.born) clock) * (Hp.blk b (· = Obj.map es clock) * sep (l.eraseIdx k))) :=
      Hw.blk_change hg fun o ho hm => ⟨_, (heap_set (o' := .mapIter (some b) since (seen.push e.born) clock) hr1).1, rfl⟩
    refine ⟨_, _, ?_, _, .inr ⟨ka, xv, l1 ++ l2, List.perm_middle, rfl, rfl⟩, Sat.back hk rfl (H3.sw.iterEI ⟨F.fit, F.perm, F.old, F.le', F.le', hleft⟩ hem hka hv.symm)⟩
    simp [execOp, ho, s.ev hx, ptr, hrun, Result.andThen, hka, hv]

theorem eff_entry {α β : Type} {k' : TypeId} {kl : α → Lit} {kf : α → Value} {vf : β → Value} {b r k : Nat} {ms left : List (α × β)} {i : α} {u : β} (ho : o.op = .entry x) (hx : evo m x = some (ptr r 0)) (hk : l[k]? = some (Hp.iterE P k' kl vf kf b r ms left i u)) :
    Eff P c m l o (fun v l'' => v = .tuple #[kf i, vf u] ∧ l'' = l.set k (Hp.iter P k' kl vf b r ms left)) := Eff.of fun a w s H => by
  have H1 := H.at_ hk
  obtain ⟨es, clock, since, seen, e, H2, F, he, hka, hv⟩ := H1.iterE
  obtain ⟨_, _, hb, rfl⟩ := H2.blk
  obtain ⟨_, _, hr, rfl⟩ := H2.sw.blk
  have hst := (stamped_iff es clock).1 F.fit.stamped
  have hrun := run_entry_at (P := P) w r b since seen es clock e hr hb he hst.2.1
  refine ⟨_, w, ?_, _, ⟨rfl, rfl⟩, Sat.back hk rfl (H2.iterI F)⟩
  simp [execOp, ho, s.ev hx, ptr, hrun, Result.andThen, hka, hv]
theorem Gx.retC2 {W : World} {n : Nat} {fn : Func} {t t' T b k sz bytes : Nat} {d : TypeDesc} {z' v' : Value} {us : List Value} {R : Value → List Hp → Prop} (hr : fn.results = #[.cell t T, .tmp t']) (hT : Ty P T d sz bytes z') (hd : aggD d = true) (ht : look m t = some (ptr b 0)) (hl : us.length = sz) (hk : l[k]? = some (Hp.rec_ b us)) (ht' : look m t' = some v') (h : R (.tuple #[.agg us.toArray, v']) l) : Gx ⟨W, n, []⟩ m l (bodyPost P fn (Ret W R) .ret) := fun a w s H => by
  have h1 := run_loadCells_list (P := P) (w := w) ⟨b, 0, none⟩ us (fun j v hj => by rw [addr_add, Nat.zero_add]; exact (H.at_ hk).cell j hj)
  rw [hl] at h1
  refine ⟨s.defers, .tuple #[.agg us.toArray, v'], ?_, _, l, rfl, h, H⟩
  have h2 := s.get t _ ht
  have h3 := s.get t' v' ht'
  simp [results, hr, Array.getD_eq_getD_getElem?, h2, h3, ptr, asAddr, loadVar, hT.agg, hd, hT.size, h1, Result.andThen]
theorem val_index {E n i sz bytes : Nat} {d : TypeDesc} {z' v : Value} {q : IntKind} {cs : Array Value} (ho : o.op = .index T x y) (hT : P.underlying T = some (.array n E)) (hE : Ty P E d sz bytes z') (hd : aggD d = false) (hz : sz = 1) (hx : evo m x = some (.agg cs)) (hy : evo m y = some (.int q (i : Int))) (hi : i < n) (hv : cs[i]? = some v) : Val P c m l o v := Val.of fun a w s H => by
  subst hz
  have hi' : (i : Int) < (n : Int) := by omega
  simp [execOp, ho, s.ev hx, s.ev hy, Instr.index, asIntOf, run_underlying hT, hE.size, hi', hi, part, hE.agg, hd, hv, Result.andThen]
end
end Go.Proofs.YtcblkjjkpffjhaaDoor
