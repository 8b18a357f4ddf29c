/- Maps of the call's own, as lists of keys and elements. Over any program. No condition. -/
import Derived.Test.YtcblkjjkpffjhaaDoorS1
import Derived.Maps.RangeWalk
import Derived.DeepKeys4
namespace Go.Proofs.YtcblkjjkpffjhaaDoor
open Go.RowKit Go.ChangeMaps Go.WideShapes Go.MapKept
open Go.WideElems (Fit rd rg rd_key rd_val rg_of rd_mk)
open Go.Maps (Keyed)
set_option linter.unusedVariables false

section
variable {α β : Type} [DecidableEq α]
def getM : List (α × β) → α → Option β
  | [], _ => none
  | (b, x) :: l, a => if b = a then some x else getM l a
def putM : List (α × β) → α → β → List (α × β)
  | [], a, x => [(a, x)]
  | (b, y) :: l, a, x => if b = a then (a, x) :: l else (b, y) :: putM l a x
def delM : List (α × β) → α → List (α × β)
  | [], _ => []
  | (b, y) :: l, a => if b = a then l else (b, y) :: delM l a

theorem getM_none {l : List (α × β)} {a : α} : getM l a = none ↔ ∀ p ∈ l, p.1 ≠ a := by
  induction l with
  | nil => simp [getM]
  | cons p l ih =>
    obtain ⟨b, x⟩ := p
    by_cases e : b = a <;> simp [getM, e, ih]
theorem getM_some {l : List (α × β)} {a : α} {x : β} (h : getM l a = some x) : (a, x) ∈ l := by
  induction l with
  | nil => simp [getM] at h
  | cons p l ih =>
    obtain ⟨b, y⟩ := p
    by_cases e : b = a
    · subst e; simp [getM] at h; subst h; exact List.mem_cons_self
    · simp [getM, e] at h; exact List.mem_cons_of_mem _ (ih h)
theorem getM_of {l : List (α × β)} {a : α} {x : β} (hn : l.Pairwise (fun p q => p.1 ≠ q.1)) (h : (a, x) ∈ l) : getM l a = some x := by
  induction l with
  | nil => cases h
  | cons p l ih =>
    obtain ⟨b, y⟩ := p
    obtain ⟨h1, h2⟩ := List.pairwise_cons.1 hn
    cases h with
    | head => simp [getM]
    | tail _ h =>
      have : b ≠ a := h1 _ h
      simp [getM, this, ih h2 h]
theorem getM_put (l : List (α × β)) (a : α) (x : β) (b : α) : getM (putM l a x) b = if a = b then some x else getM l b := by
  induction l with
  | nil => simp [putM, getM]
  | cons p l ih =>
    obtain ⟨c, y⟩ := p
    by_cases e : c = a
    · subst e; simp only [putM, if_true, getM]; split <;> simp [*]
    · simp only [putM, if_neg e, getM, ih]
      by_cases e2 : c = b
      · subst e2; simp [Ne.symm e]
      · simp [e2]
theorem putM_keys (l : List (α × β)) (a : α) (x : β) : (putM l a x).map (·.1) = if (getM l a).isSome then l.map (·.1) else l.map (·.1) ++ [a] := by
  induction l with
  | nil => simp [putM, getM]
  | cons p l ih =>
    obtain ⟨c, y⟩ := p
    by_cases e : c = a
    · subst e; simp [putM, getM]
    · simp only [putM, if_neg e, List.map_cons, ih, getM]; split <;> simp
theorem putM_length (l : List (α × β)) (a : α) (x : β) : (putM l a x).length = if (getM l a).isSome then l.length else l.length + 1 := by
  have := congrArg List.length (putM_keys l a x)
  rw [List.length_map] at this
  rw [this]; split <;> simp
theorem mem_putM {l : List (α × β)} {a : α} {x : β} {p : α × β} (h : p ∈ putM l a x) : p = (a, x) ∨ p ∈ l ∧ (l.Pairwise (fun p q => p.1 ≠ q.1) → p.1 ≠ a) := by
  induction l with
  | nil => simp [putM] at h; exact .inl h
  | cons q l ih =>
    obtain ⟨c, y⟩ := q
    by_cases e : c = a
    · subst e; simp [putM] at h
      rcases h with h | h
      · exact .inl h
      · exact .inr ⟨List.mem_cons_of_mem _ h, fun hn => ((List.pairwise_cons.1 hn).1 _ h).symm⟩
    · simp [putM, e] at h
      rcases h with h | h
      · subst h; exact .inr ⟨List.mem_cons_self, fun _ => e⟩
      · rcases ih h with h' | ⟨h', h2⟩
        · exact .inl h'
        · exact .inr ⟨List.mem_cons_of_mem _ h', fun hn => h2 (List.pairwise_cons.1 hn).2⟩
theorem putM_nodup {l : List (α × β)} (a : α) (x : β) (hn : l.Pairwise (fun p q => p.1 ≠ q.1)) : (putM l a x).Pairwise (fun p q => p.1 ≠ q.1) := by
  induction l with
  | nil => simp [putM]
  | cons q l ih =>
    obtain ⟨c, y⟩ := q
    obtain ⟨h1, h2⟩ := List.pairwise_cons.1 hn
    by_cases e : c = a
    · subst e; simp only [putM, if_true]; exact List.pairwise_cons.2 ⟨h1, h2⟩
    · simp only [putM, if_neg e]
      refine List.pairwise_cons.2 ⟨fun p hp => ?_, ih h2⟩
      rcases mem_putM hp with rfl | ⟨hp, _⟩
      · exact e
      · exact h1 _ hp
theorem delM_eq {l : List (α × β)} (a : α) (hn : l.Pairwise (fun p q => p.1 ≠ q.1)) : delM l a = l.filter (fun p => decide (p.1 ≠ a)) := by
  induction l with
  | nil => rfl
  | cons q l ih =>
    obtain ⟨c, y⟩ := q
    obtain ⟨h1, h2⟩ := List.pairwise_cons.1 hn
    by_cases e : c = a
    · subst e
      simp only [delM, if_true]
      rw [List.filter_cons_of_neg (by simp)]
      exact (List.filter_eq_self.2 fun p hp => by simpa using (h1 p hp).symm).symm
    · simp only [delM, if_neg e]
      rw [List.filter_cons_of_pos (by simp [e]), ih h2]
end

def heldR (v : Value) : Option (DataW Value × List MemPlace) := some (.held v, [])

section
variable {α β : Type} {P : Program} {k : TypeId} {kl : α → Lit} {vf : β → Value}

def toE (kl : α → Lit) (vf : β → Value) (p : α × β) : Lit × DataW Value := (kl p.1, .held (vf p.2))
/-- a map's block -/
def isMap (P : Program) (k : TypeId) (kl : α → Lit) (vf : β → Value) (ms : List (α × β)) (o : Obj) : Prop :=
  ∃ es clock, o = .map es clock ∧ Fit P k heldR es clock ∧ (es.toList.map (rg P k heldR)).Perm (ms.map (toE kl vf))
def Hp.map (P : Program) (k : TypeId) (kl : α → Lit) (vf : β → Value) (b : Nat) (ms : List (α × β)) : Hp := Hp.blk b (isMap P k kl vf ms)

/-- a key's type, and its keys -/
structure KeyT (P : Program) (k : TypeId) (kf : α → Value) (kl : α → Lit) (ok : α → Prop) : Prop where
  keyed : Keyed P k
  key : ∀ a, ok a → keyOf P k (kf a) = some (kl a)
  inj : ∀ a b, kl a = kl b → a = b

variable {kf : α → Value} {ok : α → Prop} {W w w' : World} {R : Hp} {b : Nat} {ms : List (α × β)}

theorem isMap.nodup {o : Obj} (h : isMap P k kl vf ms o) (K : Keyed P k) : ms.Pairwise (fun p q => p.1 ≠ q.1) := by
  obtain ⟨es, clock, rfl, F, hp⟩ := h
  have h1 := Maps.fit_apart K F
  have h2 : (ms.map (toE kl vf)).Pairwise (fun p q => p.1 ≠ q.1) := (hp.pairwise_iff (fun {_ _} h => Ne.symm h)).1 h1
  rw [List.pairwise_map] at h2
  exact h2.imp fun h e => h (by simp only [toE]; rw [e])
theorem Sat.mapNodup (H : Sat W w (Hp.map P k kl vf b ms * R)) (K : Keyed P k) : ms.Pairwise (fun p q => p.1 ≠ q.1) := by
  obtain ⟨_, o, _, h⟩ := H.blk
  exact h.nodup K
theorem Sat.mapAlloc (H : Sat W w R) (P : Program) (k : TypeId) (kl : α → Lit) (vf : β → Value) : Sat W (w.alloc (.map #[] 0)) (Hp.map P k kl vf w.heap.size [] * R) :=
  H.alloc_blk _ ⟨#[], 0, rfl, ⟨by simp, stamped_empty 0, by simp⟩, by simp⟩

theorem Sat.mapAllocAt (H : Sat W w R) (P : Program) (k : TypeId) (kl : α → Lit) (vf : β → Value) {b : Nat} (hb : w.heap.size = b) : Sat W (w.alloc (.map #[] 0)) (Hp.map P k kl vf b [] * R) := by subst hb; exact H.mapAlloc P k kl vf

variable [DecidableEq α]

/-- 'm[a]' -/
theorem Sat.look (H : Sat W w (Hp.map P k kl vf b ms * R)) (T : KeyT P k kf kl ok) {t e : TypeId} (ht : P.underlying t = some (.map k e)) {z : Value} (hz : (zeroValue e).run P w = .ok z w) {a : α} (ha : ok a) (c : Bool) :
    (Instr.lookup t (.map (some b)) (kf a) c).run P w = .ok (match getM ms a with | some x => if c then .tuple #[vf x, .bool true] else vf x | none => if c then .tuple #[z, .bool false] else z) w := by
  obtain ⟨_, o, ho, hm⟩ := H.blk
  have hn := hm.nodup T.keyed
  obtain ⟨es, clock, rfl, F, hp⟩ := hm
  rcases Maps.fit_look c T.keyed ht hz ho F (T.key a ha) with ⟨hrun, hnot, _⟩ | ⟨e0, y, he0, hk0, hrun, _⟩
  · have : getM ms a = none := getM_none.2 fun p hpm hpa => by
      have h1 : toE kl vf p ∈ es.toList.map (rg P k heldR) := hp.mem_iff.2 (List.mem_map.2 ⟨p, hpm, rfl⟩)
      obtain ⟨x, hx, hxe⟩ := List.mem_map.1 h1
      obtain ⟨y, hy⟩ := F.reads x hx
      have h2 := rd_key hy
      rw [rg_of hy] at hxe
      rw [hxe] at h2
      simp only [toE, hpa] at h2
      exact hnot x hx (T.keyed.inj h2 (T.key a ha))
    rw [this]; exact hrun
  · obtain ⟨y0, hy0⟩ := F.reads e0 he0
    obtain ⟨z0, hz0, hzd⟩ := rd_val hy0
    have h2 := rd_key hy0
    rw [hk0, T.key a ha] at h2
    cases hz0
    have h3 : rg P k heldR e0 = (kl a, .held e0.val) := by
      rw [rg_of hy0]
      exact Prod.ext (Option.some.inj h2).symm hzd
    have h4 : rg P k heldR e0 ∈ ms.map (toE kl vf) := hp.mem_iff.1 (List.mem_map.2 ⟨e0, he0, rfl⟩)
    rw [h3] at h4
    obtain ⟨⟨a', x⟩, hpm, hpe⟩ := List.mem_map.1 h4
    simp only [toE, Prod.mk.injEq] at hpe
    have ha' := T.inj _ _ hpe.1
    have hv : vf x = e0.val := by have := hpe.2; injection this
    subst ha'
    rw [getM_of hn hpm]
    simp only [hv]
    exact hrun

theorem putM_perm (kl : α → Lit) (vf : β → Value) (hkl : ∀ a b, kl a = kl b → a = b) (hkey : ∀ a : α, WideAt.IsKeyLit (kl a)) (a : α) (x : β) : ∀ {ms : List (α × β)}, ms.Pairwise (fun p q => p.1 ≠ q.1) →
    ((putM ms a x).map (toE kl vf)).Perm (toE kl vf (a, x) :: (ms.map (toE kl vf)).filter (notKey (kl a)))
  | [], _ => by simp [putM]
  | (c, y) :: ms, hn => by
    obtain ⟨h1, h2⟩ := List.pairwise_cons.1 hn
    by_cases e : c = a
    · subst e
      have e1 : notKey (kl c) (toE kl vf (c, y)) = false := by
        cases h : notKey (kl c) (toE kl vf (c, y))
        · rfl
        · exact absurd rfl ((Maps.notKey_iff (hkey c)).1 h)
      simp only [putM, if_true, List.map_cons]
      rw [List.filter_cons_of_neg (by rw [e1]; exact Bool.false_ne_true)]
      rw [List.filter_eq_self.2]
      intro p hp
      obtain ⟨q, hq, rfl⟩ := List.mem_map.1 hp
      exact (Maps.notKey_iff (hkey c)).2 fun e2 => h1 q hq (hkl _ _ e2).symm
    · have e1 : notKey (kl a) (toE kl vf (c, y)) = true := (Maps.notKey_iff (hkey a)).2 fun e2 => e (hkl _ _ e2)
      simp only [putM, if_neg e, List.map_cons]
      rw [List.filter_cons_of_pos e1]
      exact ((putM_perm kl vf hkl hkey a x h2).cons _).trans (List.Perm.swap _ _ _)

/-- 'm[a] = x' -/
theorem Sat.storeM (H : Sat W w (Hp.map P k kl vf b ms * R)) (T : KeyT P k kf kl ok) (hkey : ∀ a : α, WideAt.IsKeyLit (kl a)) {t e : TypeId} (ht : P.underlying t = some (.map k e)) (hroom : ms.length < maxLen) {a : α} (ha : ok a) (x : β) :
    ∃ w', (Instr.mapUpdate t (.map (some b)) (kf a) (vf x)).run P w = .ok () w' ∧ Sat W w' (Hp.map P k kl vf b (putM ms a x) * R) ∧ w.grownBy w' (some b) ∧ w'.heap.size = w.heap.size := by
  obtain ⟨_, o, ho, hm⟩ := H.blk
  have hn := hm.nodup T.keyed
  obtain ⟨es, clock, rfl, F, hp⟩ := hm
  have hsz : es.size = ms.length := by have := hp.length_eq; simpa using this
  obtain ⟨es', clock', hrun, F', hput, _⟩ := Maps.fit_store (R' := heldR) T.keyed ht ho F (by omega) (fun _ _ _ _ hz => hz) (T.key a ha) (show heldR (vf x) = some (.held (vf x), []) from rfl)
  have hg : w.grownBy (setBlock w b (.map es' clock')) (some b) := ⟨rfl, rfl, rfl, by simp [setBlock], fun i _ hi => heap_setBlock_other ho _ (fun e => hi (by rw [e]))⟩
  refine ⟨_, hrun, H.blk_change hg fun o' ho' _ => ⟨_, heap_setBlock_same ho _, es', clock', rfl, F', ?_⟩, hg, by simp [setBlock]⟩
  have h1 := (sorted_perm (es'.toList.map (rg P k heldR))).symm
  rw [hput] at h1
  unfold putKey at h1
  have h2 := h1.trans (insert_perm _ _)
  refine h2.trans ((((sorted_perm _).trans hp).filter _).cons _ |>.trans (putM_perm kl vf T.inj hkey a x hn).symm)

omit [DecidableEq α] in
theorem Sat.lenM (H : Sat W w (Hp.map P k kl vf b ms * R)) {t e : TypeId} (ht : P.underlying t = some (.map k e)) (ty : TypeId) : (Builtin.len_ #[t] ty #[.map (some b)]).run P w = .ok (.int .i64 ms.length) w := by
  obtain ⟨_, o, ho, es, clock, rfl, F, hp⟩ := H.blk
  have hsz : es.size = ms.length := by have := hp.length_eq; simpa using this
  simp [Builtin.len_, run_underlying ht, MapKept.run_getObj_map ho, goInt, Result.andThen, hsz]

theorem delM_perm (kl : α → Lit) (vf : β → Value) (hkl : ∀ a b, kl a = kl b → a = b) (hkey : ∀ a : α, WideAt.IsKeyLit (kl a)) (a : α) {ms : List (α × β)} (hn : ms.Pairwise (fun p q => p.1 ≠ q.1)) :
    (delM ms a).map (toE kl vf) = (ms.map (toE kl vf)).filter (notKey (kl a)) := by
  rw [delM_eq a hn, List.filter_map]
  congr 1
  refine List.filter_congr fun p _ => ?_
  rw [Bool.eq_iff_iff]
  simp only [Function.comp]
  rw [Maps.notKey_iff (hkey a), decide_eq_true_iff]
  exact ⟨fun h e => h (hkl _ _ e), fun h e => h (by simp only [toE]; rw [e])⟩

/-- 'delete(m, a)' -/
theorem Sat.dropM (H : Sat W w (Hp.map P k kl vf b ms * R)) (T : KeyT P k kf kl ok) (hkey : ∀ a : α, WideAt.IsKeyLit (kl a)) {t e ty : TypeId} (ht : P.underlying t = some (.map k e)) {a : α} (ha : ok a) :
    ∃ w', (Builtin.delete_ #[t, k] ty #[.map (some b), kf a]).run P w = .ok (.tuple #[]) w' ∧ Sat W w' (Hp.map P k kl vf b (delM ms a) * R) ∧ w.grownBy w' (some b) ∧ w'.heap.size = w.heap.size := by
  obtain ⟨_, o, ho, hm⟩ := H.blk
  have hn := hm.nodup T.keyed
  obtain ⟨es, clock, rfl, F, hp⟩ := hm
  obtain ⟨es', hrun, F', _, hdel, _⟩ := Maps.fit_drop (ty := ty) T.keyed ht ho F (T.key a ha)
  have hg : w.grownBy (setBlock w b (.map es' clock)) (some b) := ⟨rfl, rfl, rfl, by simp [setBlock], fun i _ hi => heap_setBlock_other ho _ (fun e => hi (by rw [e]))⟩
  refine ⟨_, hrun, H.blk_change hg fun o' ho' _ => ⟨_, heap_setBlock_same ho _, es', clock, rfl, F', ?_⟩, hg, by simp [setBlock]⟩
  have h1 := (sorted_perm (es'.toList.map (rg P k heldR))).symm
  rw [hdel] at h1
  unfold delKey at h1
  rw [delM_perm kl vf T.inj hkey a hn]
  exact h1.trans (((sorted_perm _).trans hp).filter _)
end

/-! ### int keys -/
theorem intKeyT {P : Program} {k : TypeId} {q : IntKind} (hk : P.underlying k = some (.int q)) : KeyT P k (Value.int q) (Lit.int q) (fun a => (Lit.int q a).wf = true) :=
  ⟨Maps.int_keyed hk, fun a h => Maps.keyOf_int_mk hk h, fun a b h => by cases h; rfl⟩
end Go.Proofs.YtcblkjjkpffjhaaDoor
