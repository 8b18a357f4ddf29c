/- Keys of two or three small numbers; m[k] op= x; ranges over maps. Over any program. No condition. -/
import Derived.Test.YtcblkjjkpffjhaaDoorX4
import Derived.DeepKeys4
namespace Go.Proofs.YtcblkjjkpffjhaaDoor
open Go.RowKit Go.ChangeMaps Go.WideShapes Go.MapKept
open Go.WideElems (Fit rd rg rd_key rd_val rg_of rd_mk)
open Go.Maps (Keyed)
set_option linter.unusedVariables false

/-! ### keys -/
abbrev Sm := Fin 2048
theorem bytesLE_len : ∀ (w n : Nat), (bytesLE w n).length = w
  | 0, _ => rfl
  | w + 1, n => by simp [bytesLE, bytesLE_len w]
theorem bytesBE_len (w n : Nat) : (bytesBE w n).length = w := by simp [bytesBE, bytesLE_len]
theorem bytesLE_inj : ∀ (w n m : Nat), bytesLE w n = bytesLE w m → n % 256 ^ w = m % 256 ^ w
  | 0, n, m, _ => by simp [Nat.mod_one]
  | w + 1, n, m, h => by
    simp only [bytesLE, List.cons.injEq] at h
    have h1 : n % 256 = m % 256 := by
      have := congrArg UInt8.toNat h.1
      simpa using this
    have h2 := bytesLE_inj w _ _ h.2
    rw [Nat.pow_succ, Nat.mul_comm, Nat.mod_mul, Nat.mod_mul, h1, h2]
theorem keyByte_inj {a b : Sm} (h : bytesBE 8 (((a.val : Int) % 2 ^ 64).toNat) = bytesBE 8 (((b.val : Int) % 2 ^ 64).toNat)) : a = b := by
  unfold bytesBE at h
  have h1 := bytesLE_inj 8 _ _ (List.reverse_inj.1 h)
  have ha := a.isLt
  have hb := b.isLt
  have ea : ((a.val : Int) % 2 ^ 64).toNat = a.val := by omega
  have eb : ((b.val : Int) % 2 ^ 64).toNat = b.val := by omega
  rw [ea, eb] at h1
  exact Fin.ext (by omega)
def oneB (a : Sm) : List UInt8 := Lit.keyBytes (.int .i64 (a.val : Int))
theorem oneB_len (a : Sm) : (oneB a).length = 8 := bytesBE_len _ _
theorem oneB_inj {a b : Sm} (h : oneB a = oneB b) : a = b := keyByte_inj h
abbrev pairV (p : Sm × Sm) : Value := .agg #[.int .i64 (p.1.val : Int), .int .i64 (p.2.val : Int)]
def pairL (p : Sm × Sm) : Lit := .string (keyBytes [.int .i64 (p.1.val : Int), .int .i64 (p.2.val : Int)])
theorem pairL_inj (p q : Sm × Sm) (h : pairL p = pairL q) : p = q := by
  unfold pairL keyBytes at h
  simp only [List.flatMap_cons, List.flatMap_nil, List.append_nil, Lit.string.injEq] at h
  obtain ⟨h1, h2⟩ := List.append_inj h (by rw [show (Lit.keyBytes _).length = 8 from oneB_len p.1, show (Lit.keyBytes _).length = 8 from oneB_len q.1])
  exact Prod.ext (oneB_inj h1) (oneB_inj h2)
abbrev tripV (p : Sm × Sm × Sm) : Value := .agg #[.int .i64 (p.1.val : Int), .int .i64 (p.2.1.val : Int), .int .i64 (p.2.2.val : Int)]
def tripL (p : Sm × Sm × Sm) : Lit := .string (keyBytes [.int .i64 (p.1.val : Int), .int .i64 (p.2.1.val : Int), .int .i64 (p.2.2.val : Int)])
theorem tripL_inj (p q : Sm × Sm × Sm) (h : tripL p = tripL q) : p = q := by
  unfold tripL keyBytes at h
  simp only [List.flatMap_cons, List.flatMap_nil, List.append_nil, Lit.string.injEq] at h
  obtain ⟨h1, h2⟩ := List.append_inj h (by rw [show (Lit.keyBytes _).length = 8 from oneB_len p.1, show (Lit.keyBytes _).length = 8 from oneB_len q.1])
  obtain ⟨h3, h4⟩ := List.append_inj h2 (by rw [show (Lit.keyBytes _).length = 8 from oneB_len p.2.1, show (Lit.keyBytes _).length = 8 from oneB_len q.2.1])
  exact Prod.ext (oneB_inj h1) (Prod.ext (oneB_inj h3) (oneB_inj h4))
theorem sm_wf (a : Sm) : (Lit.int .i64 (a.val : Int)).wf = true := by
  have := a.isLt
  simp [Lit.wf]
  exact ⟨(by omega : (-9223372036854775808 : Int) ≤ _), (by omega : _ ≤ (9223372036854775807 : Int))⟩
theorem pairT {P : Program} {k : TypeId} (K : Keyed P k) (h : ∀ p, keyOf P k (pairV p) = some (pairL p)) : KeyT P k pairV pairL (fun _ => True) := ⟨K, fun p _ => h p, pairL_inj⟩
theorem tripT {P : Program} {k : TypeId} (K : Keyed P k) (h : ∀ p, keyOf P k (tripV p) = some (tripL p)) : KeyT P k tripV tripL (fun _ => True) := ⟨K, fun p _ => h p, tripL_inj⟩
theorem pairK (p : Sm × Sm) : WideAt.IsKeyLit (pairL p) := trivial
theorem tripK (p : Sm × Sm × Sm) : WideAt.IsKeyLit (tripL p) := trivial

/-! ### m[k] op= x -/
section
variable {α β : Type} {P : Program} {k : TypeId} {kl : α → Lit} {vf : β → Value} {kf : α → Value} {ok : α → Prop} {W w w' : World} {R : Hp} {b : Nat} {ms : List (α × β)} [DecidableEq α]

theorem putM_same {a : α} {x : β} : ∀ {ms : List (α × β)}, getM ms a = some x → putM ms a x = ms
  | [], h => by simp [getM] at h
  | (c, y) :: ms, h => by
    by_cases e : c = a
    · subst e; simp [getM] at h; subst h; simp [putM]
    · simp [getM, e] at h; simp [putM, e, putM_same h]

theorem putM_twice {a : α} {x y : β} : ∀ {ms : List (α × β)}, putM (putM ms a x) a y = putM ms a y
  | [] => by simp [putM]
  | (c, z) :: ms => by
    by_cases e : c = a
    · subst e; simp [putM]
    · simp [putM, e, putM_twice (ms := ms)]
/-- a map, and the stamp of an entry of it -/
def isMapE (P : Program) (k : TypeId) (kl : α → Lit) (vf : β → Value) (kf : α → Value) (ms : List (α × β)) (a : α) (s : Nat) (o : Obj) : Prop :=
  isMap P k kl vf ms o ∧ ∃ es clock e0, o = .map es clock ∧ e0 ∈ es.toList ∧ e0.key = kf a ∧ e0.born = s
def Hp.mapE (P : Program) (k : TypeId) (kl : α → Lit) (vf : β → Value) (kf : α → Value) (b : Nat) (ms : List (α × β)) (a : α) (s : Nat) : Hp := Hp.blk b (isMapE P k kl vf kf ms a s)

theorem nodup_get {γ δ : Type} {f : γ → δ} {l : List γ} (h : (l.map f).Nodup) {i j : Nat} {x y : γ} (hi : l[i]? = some x) (hj : l[j]? = some y) (e : f x = f y) : i = j := by
  have h1 : (l.map f)[i]? = some (f x) := by rw [List.getElem?_map, hi]; rfl
  have h2 : (l.map f)[j]? = some (f y) := by rw [List.getElem?_map, hj]; rfl
  obtain ⟨hi', e1⟩ := List.getElem?_eq_some_iff.1 h1
  obtain ⟨hj', e2⟩ := List.getElem?_eq_some_iff.1 h2
  exact (List.getElem_inj h).1 (by rw [e1, e2, e])

omit [DecidableEq α] in
theorem findIdx_born {es : Array MapEntry} {clock j : Nat} {e : MapEntry} (hs : Stamped es clock) (hj : es.toList[j]? = some e) : es.findIdx? (fun x => (x.born : Int) == (e.born : Int)) = some j := by
  have hj' : es[j]? = some e := by rw [Array.getElem?_toList] at hj; exact hj
  obtain ⟨hlt, he⟩ := Array.getElem?_eq_some_iff.1 hj'
  rw [Array.findIdx?_eq_some_iff_getElem]
  refine ⟨hlt, by simp [he], fun i hi => ?_⟩
  intro hc
  have hc' : es[i].born = e.born := by have := hc; simp at this; omega
  have := nodup_get hs.2.1 (i := i) (j := j) (x := es[i]) (y := e) (by rw [Array.getElem?_toList]; exact Array.getElem?_eq_getElem (by omega)) hj hc'
  omega

theorem Sat.entryM (H : Sat W w (Hp.map P k kl vf b ms * R)) (T : KeyT P k kf kl ok) (hkey : ∀ a : α, WideAt.IsKeyLit (kl a)) {t e : TypeId} (ht : P.underlying t = some (.map k e)) {z : Value} {z0 : β} (hz : (zeroValue e).run P w = .ok z w) (hz0 : z = vf z0) (hroom : ms.length < maxLen) {a : α} (ha : ok a) :
    ∃ w' : World, ∃ s : Nat, (Instr.mapEntry t (.map (some b)) (kf a)).run P w = .ok (.tuple #[vf ((getM ms a).getD z0), .int .i64 (s : Int)]) w' ∧ Sat W w' (Hp.mapE P k kl vf kf b (putM ms a ((getM ms a).getD z0)) a s * R) := by
  obtain ⟨_, o, ho, hm⟩ := H.blk
  have hn := hm.nodup T.keyed
  have hm0 := hm
  obtain ⟨es, clock, rfl, F, hp⟩ := hm
  rcases T.keyed.find w (T.key a ha) es.toList F.keys with ⟨h1, h2⟩ | ⟨j, e0, h1, h2, h3⟩
  · have hnone : getM ms a = none := getM_none.2 fun p hpm hpa => by
      have h4 : toE kl vf p ∈ es.toList.map (rg P k heldR) := hp.mem_iff.2 (List.mem_map.2 ⟨p, hpm, rfl⟩)
      obtain ⟨x, hx, hxe⟩ := List.mem_map.1 h4
      obtain ⟨y, hy⟩ := F.reads x hx
      have h5 := rd_key hy
      rw [rg_of hy] at hxe
      rw [hxe] at h5
      simp only [toE, hpa] at h5
      exact h2 x hx (T.keyed.inj h5 (T.key a ha))
    obtain ⟨w', hrun, hS, _⟩ := H.storeM T hkey ht hroom ha z0
    have hw' : w' = setBlock w b (.map (es.push ⟨kf a, vf z0, clock⟩) (clock + 1)) := by
      simp [Instr.mapUpdate, run_underlying ht, MapKept.run_getObj_map ho, T.keyed.check w false (T.key a ha), h1, MapKept.run_setObj_map _ ho, Result.andThen, setBlock] at hrun
      exact hrun.symm
    refine ⟨w', clock, ?_, ?_⟩
    · rw [hnone, hw']
      simp [Instr.mapEntry, run_underlying ht, MapKept.run_getObj_map ho, T.keyed.check w false (T.key a ha), h1, hz, hz0, MapKept.run_setObj_map _ ho, Result.andThen, setBlock, goInt]
    · rw [hnone]
      obtain ⟨hb, m, hm, h1', h2', hd, rfl, ⟨o1, ho1, rfl⟩, r⟩ := hS
      refine ⟨hb, _, hm, _, h2', hd, rfl, ⟨o1, ⟨ho1, es.push ⟨kf a, vf z0, clock⟩, clock + 1, ⟨kf a, vf z0, clock⟩, ?_, by simp, rfl, rfl⟩, rfl⟩, r⟩
      have := (hm b o1 (by simp [single])).2
      rw [hw'] at this
      rw [heap_setBlock_same ho] at this
      exact (Option.some.inj this).symm
  · have he0 : e0 ∈ es.toList := List.mem_of_getElem? h2
    obtain ⟨y, hy⟩ := F.reads e0 he0
    obtain ⟨zz, hzz, hzd⟩ := rd_val hy
    have h5 := rd_key hy
    rw [h3, T.key a ha] at h5
    cases hzz
    have h6 : rg P k heldR e0 = (kl a, .held e0.val) := by
      rw [rg_of hy]; exact Prod.ext (Option.some.inj h5).symm hzd
    have h7 : rg P k heldR e0 ∈ ms.map (toE kl vf) := hp.mem_iff.1 (List.mem_map.2 ⟨e0, he0, rfl⟩)
    rw [h6] at h7
    obtain ⟨⟨a', x⟩, hpm, hpe⟩ := List.mem_map.1 h7
    simp only [toE, Prod.mk.injEq] at hpe
    have ha' := T.inj _ _ hpe.1
    have hv : vf x = e0.val := by have := hpe.2; injection this
    subst ha'
    have hsome := getM_of hn hpm
    have hj : es[j]? = some e0 := by rw [Array.getElem?_toList] at h2; exact h2
    have hmod : es.modify j (fun e => { e with key := kf a' }) = es := by
      apply Array.ext_getElem?
      intro i
      rw [Array.getElem?_modify]
      split
      · rename_i e; subst e; rw [hj]; cases e0; simp only at h3; rw [← h3]; rfl
      · rfl
    refine ⟨setBlock w b (.map es clock), e0.born, ?_, ?_⟩
    · rw [hsome]
      have hkk : ((es[j]?).map (·.key)).getD (kf a') = kf a' := by rw [hj]; exact h3
      have hbb : ((es[j]?).map (·.born)).getD 0 = e0.born := by rw [hj]; rfl
      simp only [Instr.mapEntry, Sem.run_bind, run_underlying ht, MapKept.run_getObj_map ho, T.keyed.check w false (T.key a' ha), h1, Result.andThen, hkk, T.keyed.stays w (T.key a' ha), hmod, MapKept.run_setObj_map _ ho, hbb, goInt, Sem.run_pure, Option.getD_some, hv]
      rw [hj]; rfl
    · rw [hsome, Option.getD_some, putM_same hsome]
      have hg : w.grownBy (setBlock w b (.map es clock)) (some b) := ⟨rfl, rfl, rfl, by simp [setBlock], fun i _ hi => heap_setBlock_other ho _ (fun e => hi (by rw [e]))⟩
      exact H.blk_change hg fun o' ho' hm' => ⟨_, heap_setBlock_same ho _, hm0, es, clock, e0, rfl, he0, h3, rfl⟩

theorem Sat.entryStoreM {s : Nat} {a : α} (H : Sat W w (Hp.mapE P k kl vf kf b ms a s * R)) (T : KeyT P k kf kl ok) (hkey : ∀ a : α, WideAt.IsKeyLit (kl a)) {t e : TypeId} (ht : P.underlying t = some (.map k e)) (hroom : ms.length < maxLen) (ha : ok a) (x : β) :
    ∃ w', (Instr.entryStore t (.map (some b)) (.int .i64 (s : Int)) (vf x)).run P w = .ok () w' ∧ Sat W w' (Hp.map P k kl vf b (putM ms a x) * R) := by
  obtain ⟨_, o, ho, hm, es, clock, e0, rfl, he0, hk0, hb0⟩ := H.blk
  have H' : Sat W w (Hp.map P k kl vf b ms * R) := H.mono fun h ⟨o, ho, e⟩ => ⟨o, ho.1, e⟩
  obtain ⟨w', hrun, hS, _⟩ := H'.storeM T hkey ht hroom ha x
  obtain ⟨es', clock', heq, F, hp⟩ := hm
  cases heq
  refine ⟨w', ?_, hS⟩
  rcases T.keyed.find w (T.key a ha) es.toList F.keys with ⟨h1, h2⟩ | ⟨j, e1, h1, h2, h3⟩
  · exact absurd hk0 (h2 e0 he0)
  · obtain ⟨i, hi⟩ := List.getElem?_of_mem he0
    have hij := nodup_get F.stamped.2.2 hi h2 (hk0.trans h3.symm)
    subst hij
    rw [hi] at h2
    cases h2
    have hj : es[i]? = some e0 := by rw [Array.getElem?_toList] at hi; exact hi
    have hf := findIdx_born F.stamped hi
    rw [hb0] at hf
    have hmod : es.modify i (fun e => { e with key := kf a, val := vf x }) = es.modify i (fun e => { e with val := vf x }) := by
      apply Array.ext_getElem?
      intro q
      rw [Array.getElem?_modify, Array.getElem?_modify]
      split
      · rename_i e; subst e; rw [hj]; simp [hk0]
      · rfl
    simp [Instr.mapUpdate, run_underlying ht, MapKept.run_getObj_map ho, T.keyed.check w false (T.key a ha), h1, hj, hk0, T.keyed.stays w (T.key a ha), MapKept.run_setObj_map _ ho, Result.andThen, setBlock, hmod] at hrun
    simp [Instr.entryStore, MapKept.run_getObj_map ho, asInt, asIntOf, hf, MapKept.run_setObj_map _ ho, Result.andThen, setBlock]
    exact hrun
end
end Go.Proofs.YtcblkjjkpffjhaaDoor
