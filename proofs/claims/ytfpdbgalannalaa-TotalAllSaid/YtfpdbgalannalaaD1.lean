/- Processes, messages and keys, in plain words. No condition. -/
import Derived.Test.YtfpdbgalannalaaT
import Derived.Test.YtfpdbgalannalaaX15
namespace Go.Proofs.Ytfpdbgalannalaa
open Go.RowKit
set_option linter.unusedVariables false
set_option linter.unusedSimpArgs false
set_option maxRecDepth 100000

/-- a key is one number: its number times 8, and its process -/
structure Ent where
  k : Nat
  fin : Bool
  hrd : Bool
structure Pt where
  n : Nat
  got : Nat → Option Ent
  lst : List Nat
structure TS where
  ps : List Pt
  many : Nat
structure Mv where
  kind : Int
  who : Int
  msg : Int
def upG (g : Nat → Option Ent) (m : Nat) (e : Ent) : Nat → Option Ent := fun m' => if m' = m then some e else g m'
def UnhMin (p : Pt) (m : Nat) (e : Ent) : Prop := p.got m = some e ∧ e.hrd = false ∧ ∀ m' e', p.got m' = some e' → e'.hrd = false → m' ≠ m → e.k < e'.k
def hear (p : Pt) (m : Nat) (e : Ent) : Pt := ⟨p.n, upG p.got m { e with hrd := true }, p.lst ++ [m]⟩
inductive Stl : Pt → Pt → Prop
  | stop {p : Pt} : (∀ m e, UnhMin p m e → e.fin = false) → Stl p p
  | go {p p' : Pt} {m : Nat} {e : Ent} : UnhMin p m e → e.fin = true → Stl (hear p m e) p' → Stl p p'
theorem UnhMin.uniq {p : Pt} {m m' : Nat} {e e' : Ent} (h : UnhMin p m e) (h' : UnhMin p m' e') : m = m' ∧ e = e' := by
  by_cases c : m = m'
  · subst c; exact ⟨rfl, Option.some.inj (h.1.symm.trans h'.1)⟩
  · have h1 := h.2.2 m' e' h'.1 h'.2.1 (Ne.symm c)
    have h2 := h'.2.2 m e h.1 h.2.1 c
    omega
theorem Stl.det {p a b : Pt} (h : Stl p a) : Stl p b → a = b := by
  induction h with
  | stop h1 => intro h2; cases h2 with
    | stop _ => rfl
    | go h3 h4 _ => rw [h1 _ _ h3] at h4; cases h4
  | go h3 h4 _ ih => intro h2; cases h2 with
    | stop h1 => rw [h1 _ _ h3] at h4; cases h4
    | go h5 h6 h7 => obtain ⟨rfl, rfl⟩ := h3.uniq h5; exact ih h7
open Classical in
noncomputable def settle (p : Pt) : Pt := if h : ∃ p', Stl p p' then h.choose else p
theorem settle_of {p p' : Pt} (h : Stl p p') : settle p = p' := by
  unfold settle
  rw [dif_pos ⟨p', h⟩]
  exact Stl.det (Exists.choose_spec (⟨p', h⟩ : ∃ p', Stl p p')) h
def finalT : List Pt → Nat → Nat → Option Nat
  | [], _, b => some b
  | p :: l, m, b => match p.got m with
    | none => none
    | some e => finalT l m (max b e.k)
def isN (n : Nat) (x : Int) : Bool := decide (0 ≤ x ∧ x < n)
noncomputable def stepT (s : TS) (c : Mv) : Int × TS :=
  if c.kind < 1 ∨ 3 < c.kind then (4, s)
  else if isN s.ps.length c.who = false then (2, s)
  else if c.kind = 1 then (0, ⟨s.ps, s.many + 1⟩)
  else if isN s.many c.msg = false then (2, s)
  else match s.ps[c.who.toNat]? with
    | none => (2, s)
    | some p =>
      if c.kind = 2 then (match p.got c.msg.toNat with
        | some _ => (6, s)
        | none => (0, ⟨s.ps.set c.who.toNat ⟨p.n + 1, upG p.got c.msg.toNat ⟨(p.n + 1) * 8 + c.who.toNat, false, false⟩, p.lst⟩, s.many⟩))
      else (match finalT s.ps c.msg.toNat 0 with
        | none => (6, s)
        | some k => match p.got c.msg.toNat with
          | none => (6, s)
          | some e => if e.fin = true then (6, s)
            else (0, ⟨s.ps.set c.who.toNat (settle ⟨max p.n (k / 8), upG p.got c.msg.toNat ⟨k, true, e.hrd⟩, p.lst⟩), s.many⟩))
noncomputable def stT : TS → List Mv → TS
  | s, [] => s
  | s, c :: l => stT (stepT s c).2 l
noncomputable def codesT : TS → List Mv → List Int
  | s, [] => []
  | s, c :: l => (stepT s c).1 :: codesT (stepT s c).2 l
def ts0 (n : Nat) : TS := ⟨List.replicate n ⟨0, fun _ => none, []⟩, 0⟩
theorem stT_app : ∀ (l l' : List Mv) (s : TS), stT s (l ++ l') = stT (stT s l) l'
  | [], _, _ => rfl
  | c :: l, l', s => by simp only [List.cons_append, stT]; exact stT_app l l' _
theorem codesT_app : ∀ (l l' : List Mv) (s : TS), codesT s (l ++ l') = codesT s l ++ codesT (stT s l) l'
  | [], _, _ => rfl
  | c :: l, l', s => by simp only [List.cons_append, stT, codesT]; rw [codesT_app l l']
theorem codesT_len : ∀ (l : List Mv) (s : TS), (codesT s l).length = l.length
  | [], _ => rfl
  | c :: l, s => by simp [codesT, codesT_len l]
/-! in memory -/
abbrev FN (i : Nat) : List Value := [.int .i64 ((i : Nat) : Int)]
theorem FN_len (c : Nat) : (FN c).length = 1 := rfl
theorem FN_one (p : Nat) (u : Value) (h : u ∈ FN p) : u.oneCell' = true := by simp [FN] at h; subst h; rfl
theorem Try.eN : Elem Try.prog 30 3 (.int .i64 0) 1 8 := ⟨Try.underlying30, by kernel_rfl, rfl, by decide⟩
abbrev FP (b : Nat) : List Value := [ptr b 0]
theorem FP_len (c : Nat) : (FP c).length = 1 := rfl
theorem FP_one (p : Nat) (u : Value) (h : u ∈ FP p) : u.oneCell' = true := by simp [FP] at h; subst h; rfl
theorem Try.eP : Elem Try.prog 41 44 (.pointer none) 1 8 := ⟨Try.underlying41, by kernel_rfl, rfl, by decide⟩
theorem Try.kN : KeyT Try.prog 3 natV natL (fun n => n < 4611686018427387904) := natT Try.underlying3
structure Em where
  b : Nat
  e : Ent
abbrev vB (x : Em) : Value := ptr x.b 0
abbrev Ks := List (Nat × Em)
abbrev mapB (b : Nat) (ks : Ks) : Hp := Hp.map Try.prog 3 natL vB b ks
def entH (x : Nat × Em) : Hp := Hp.rec_ x.2.b [.int .i64 ((x.2.e.k / 8 : Nat) : Int), .int .i64 ((x.2.e.k % 8 : Nat) : Int), .bool x.2.e.fin, .bool x.2.e.hrd]
structure Pm where
  b : Nat
  mb : Nat
  v : Value
  ks : Ks
  p : Pt
def procH (m : Pm) : Hp := Hp.rec_ m.b [.int .i64 ((m.p.n : Nat) : Int), .map (some m.mb), m.v] * (mapB m.mb m.ks * (Hp.big entH m.ks * Hp.own FN 1 m.v m.p.lst))
structure KOk (L : Nat) (ks : Ks) (g : Nat → Option Ent) : Prop where
  len : ks.length ≤ L
  nodup : ks.Pairwise (fun p q => p.1 ≠ q.1)
  eq : ∀ k, g k = (getM ks k).map Em.e
  small : ∀ p ∈ ks, p.1 < 4611686018427387904
def POk (L : Nat) (m : Pm) : Prop := KOk L m.ks m.p.got
structure WOk (L : Nat) (pms : List Pm) (s : TS) : Prop where
  ps : pms.map Pm.p = s.ps
  ok : ∀ m ∈ pms, POk L m
def worldH (S L : Nat) (s : TS) : Hp := Hp.ex fun q : Value × List Pm => Hp.pure (WOk L q.2 s) *
  (Hp.rec_ S [q.1, .int .i64 ((s.many : Nat) : Int)] * (Hp.own FP 1 q.1 (q.2.map Pm.b) * Hp.big procH q.2))
theorem sep3R (p q r R : Hp) : sep [p, q, r, R] = p * (q * (r * R)) := by show p * (q * (r * (R * 1))) = _; rw [Hp.mul_one]
theorem worldH.open_ {W w : World} {S L : Nat} {s : TS} {R : Hp} (H : Sat W w (worldH S L s * R)) : ∃ (pv : Value) (pms : List Pm), WOk L pms s ∧ Sat W w (sep [Hp.rec_ S [pv, .int .i64 ((s.many : Nat) : Int)], Hp.own FP 1 pv (pms.map Pm.b), Hp.big procH pms, R]) := by
  obtain ⟨⟨pv, pms⟩, H⟩ := H.ex
  obtain ⟨h1, H⟩ := (H.cast (Hp.mul_assoc ..)).pure
  exact ⟨pv, pms, h1, H.cast (by rw [sep3R]; simp only [Hp.mul_assoc])⟩
theorem worldH.shut {W w : World} {S L : Nat} {s : TS} {pv : Value} {pms : List Pm} {R : Hp} (h : WOk L pms s) (H : Sat W w (sep [Hp.rec_ S [pv, .int .i64 ((s.many : Nat) : Int)], Hp.own FP 1 pv (pms.map Pm.b), Hp.big procH pms, R])) : Sat W w (sep [worldH S L s, R]) := by
  rw [sep1]
  refine Sat.exI (p := fun q : Value × List Pm => Hp.pure (WOk L q.2 s) * (Hp.rec_ S [q.1, .int .i64 ((s.many : Nat) : Int)] * (Hp.own FP 1 q.1 (q.2.map Pm.b) * Hp.big procH q.2))) (pv, pms) ?_
  refine (Sat.pureI h (H.cast ?_)).cast (Hp.mul_assoc ..).symm
  rw [sep3R]; simp only [Hp.mul_assoc]
theorem set_bM {pms : List Pm} {i : Nat} {m y : Pm} (hk : pms[i]? = some m) (hy : y.b = m.b) : (pms.set i y).map Pm.b = pms.map Pm.b := by
  refine List.ext_getElem? fun j => ?_
  rw [List.getElem?_map, List.getElem?_map]
  by_cases e : i = j
  · subst e; rw [List.getElem?_set_self (List.getElem?_eq_some_iff.1 hk).1, hk]; simp [hy]
  · rw [List.getElem?_set_ne e]
theorem getM_index {α β : Type} [DecidableEq α] : ∀ {ms : List (α × β)} {a : α} {r : β}, getM ms a = some r → ∃ k, ms[k]? = some (a, r) ∧ ∀ y, putM ms a y = ms.set k (a, y)
  | [], a, r, h => by simp [getM] at h
  | (c, y) :: l, a, r, h => by
    by_cases e : c = a
    · subst e
      simp [getM] at h; subst h
      exact ⟨0, rfl, fun z => by simp [putM]⟩
    · simp only [getM, if_neg e] at h
      obtain ⟨k, h1, h2⟩ := getM_index h
      exact ⟨k + 1, h1, fun z => by simp only [putM, if_neg e, h2 z]; rfl⟩
theorem putM_none {α β : Type} [DecidableEq α] : ∀ {ms : List (α × β)} {a : α} (x : β), getM ms a = none → putM ms a x = ms ++ [(a, x)]
  | [], a, x, h => rfl
  | (c, y) :: l, a, x, h => by
    by_cases e : c = a
    · subst e; simp [getM] at h
    · simp only [getM, if_neg e] at h
      simp only [putM, if_neg e, putM_none x h]; rfl
theorem getM_notin {α β : Type} [DecidableEq α] : ∀ {ms : List (α × β)} {a : α}, getM ms a = none → ∀ p ∈ ms, p.1 ≠ a
  | [], a, h, p, hp => by cases hp
  | (c, y) :: l, a, h, p, hp => by
    by_cases e : c = a
    · subst e; simp [getM] at h
    · simp only [getM, if_neg e] at h
      rcases List.mem_cons.1 hp with rfl | hp
      · exact e
      · exact getM_notin h p hp
theorem KOk.got {L : Nat} {ks : Ks} {g : Nat → Option Ent} (h : KOk L ks g) {m : Nat} {e : Ent} (he : g m = some e) : ∃ x, getM ks m = some x ∧ x.e = e := by
  have := h.eq m
  rw [he] at this
  cases c : getM ks m with
  | none => rw [c] at this; cases this
  | some x => rw [c] at this; exact ⟨x, rfl, (Option.some.inj this).symm⟩
theorem KOk.none {L : Nat} {ks : Ks} {g : Nat → Option Ent} (h : KOk L ks g) {m : Nat} (he : g m = none) : getM ks m = none := by
  have := h.eq m
  rw [he] at this
  cases c : getM ks m with
  | none => rfl
  | some x => rw [c] at this; cases this
/-- an entry is written anew -/
theorem KOk.put {L k m : Nat} {ks : Ks} {g : Nat → Option Ent} {x y : Em} (h : KOk L ks g) (hk : ks[k]? = some (m, x)) : KOk L (ks.set k (m, y)) (upG g m y.e) := by
  have hp := getM_at h.nodup hk
  obtain ⟨j, hj, hp2⟩ := getM_index hp
  have hs : ks.set k (m, y) = putM ks m y := by
    rw [hp2]
    obtain ⟨l1, e1⟩ := List.getElem?_eq_some_iff.1 hk
    obtain ⟨l2, e2⟩ := List.getElem?_eq_some_iff.1 hj
    have := List.pairwise_iff_getElem.1 h.nodup
    rcases Nat.lt_trichotomy j k with c | c | c
    · exact absurd (by rw [e1, e2]) (this j k l2 l1 c)
    · rw [c]
    · exact absurd (by rw [e1, e2]) (this k j l1 l2 c)
  refine ⟨by rw [List.length_set]; exact h.len, ?_, fun k' => ?_, fun p hp => ?_⟩
  · rw [List.pairwise_iff_getElem]
    have := List.pairwise_iff_getElem.1 h.nodup
    obtain ⟨l1, e1⟩ := List.getElem?_eq_some_iff.1 hk
    have hf : ∀ (i : Nat) (hi : i < (ks.set k (m, y)).length), ((ks.set k (m, y))[i]).1 = (ks[i]'(by simpa using hi)).1 := fun i hi => by
      rw [List.getElem_set]
      split
      · rename_i e; subst e; rw [e1]
      · rfl
    intro i j hi hj hij
    rw [hf, hf]; exact this i j _ _ hij
  · rw [hs, getM_put]; unfold upG
    by_cases c : m = k'
    · subst c; rw [if_pos rfl, if_pos rfl]; rfl
    · rw [if_neg c, if_neg (Ne.symm c)]; exact h.eq k'
  · rcases List.mem_or_eq_of_mem_set hp with hp | rfl
    · exact h.small p hp
    · exact (h.small (m, x) (List.mem_of_getElem? hk) :)
theorem KOk.add {L m : Nat} {ks : Ks} {g : Nat → Option Ent} (y : Em) (h : KOk L ks g) (hg : g m = Option.none) (hm : m < 4611686018427387904) : KOk (L + 1) (putM ks m y) (upG g m y.e) := by
  have h0 := h.none hg
  rw [putM_none y h0]
  refine ⟨by rw [List.length_append]; exact Nat.succ_le_succ h.len, ?_, fun k' => ?_, fun p hp => ?_⟩
  · rw [List.pairwise_append]
    refine ⟨h.nodup, List.pairwise_singleton .., fun p hp q hq => ?_⟩
    rw [List.mem_singleton] at hq; subst hq
    exact getM_notin h0 p hp
  · rw [← putM_none y h0, getM_put]; unfold upG
    by_cases c : m = k'
    · subst c; rw [if_pos rfl, if_pos rfl]; rfl
    · rw [if_neg c, if_neg (Ne.symm c)]; exact h.eq k'
  · rcases List.mem_append.1 hp with hp | hp
    · exact h.small p hp
    · rw [List.mem_singleton] at hp; subst hp; exact hm
theorem KOk.mono {L L' : Nat} {ks : Ks} {g : Nat → Option Ent} (h : KOk L ks g) (hl : L ≤ L') : KOk L' ks g := ⟨Nat.le_trans h.len hl, h.nodup, h.eq, h.small⟩
theorem mapB_set {mb k m : Nat} {ks : Ks} {x y : Em} (hk : ks[k]? = some (m, x)) (hy : y.b = x.b) : mapB mb (ks.set k (m, y)) = mapB mb ks := by
  have e : (ks.set k (m, y)).map (toE natL vB) = ks.map (toE natL vB) := by
    refine List.ext_getElem? fun j => ?_
    rw [List.getElem?_map, List.getElem?_map]
    by_cases c : k = j
    · subst c
      rw [List.getElem?_set_self (List.getElem?_eq_some_iff.1 hk).1, hk]
      simp only [Option.map, toE, vB, hy]
    · rw [List.getElem?_set_ne c]
  unfold mapB Hp.map isMap
  rw [e]
end Go.Proofs.Ytfpdbgalannalaa
