/- Processes, ways and marks, in plain words. No condition. -/
import Derived.Test.YtanipkddfngnnaaT
import Derived.Test.YtanipkddfngnnaaX14
namespace Go.Proofs.Ytanipkddfngnnaa
open Go.RowKit
set_option linter.unusedVariables false
set_option linter.unusedSimpArgs false
set_option maxRecDepth 100000

structure Pr where
  mo : Int
  ow : Int
structure Wm where
  q : List Int
  nt : List Int
  cl : Bool
abbrev Wy := Sm × Sm → Wm
structure SS where
  ps : List Pr
  w : Wy
structure Mv where
  kind : Int
  who : Int
  oth : Int
  n : Int
def smN (i : Nat) : Sm := ⟨i % 2048, Nat.mod_lt _ (by decide)⟩
theorem smN_val {i : Nat} (h : i < 2048) : (smN i).val = i := Nat.mod_eq_of_lt h
theorem smN_self (i : Sm) : smN i.val = i := Fin.ext (Nat.mod_eq_of_lt i.isLt)
def upW (w : Wy) (k : Sm × Sm) (x : Wm) : Wy := fun k' => if k' = k then x else w k'
def markW (w : Wy) (i : Nat) : Wy := fun k => if k.1 = smN i then { w k with q := (w k).q ++ [-1] } else w k
def noteS (s : SS) (i : Nat) : SS := match s.ps[i]? with
  | some p => if p.ow = -1 then ⟨s.ps.set i { p with ow := p.mo }, markW s.w i⟩ else s
  | none => s
def takeS (s : SS) (i f : Nat) : Int × SS := match (s.w (smN f, smN i)).q with
  | [] => (5, s)
  | a :: l => match s.ps[i]? with
    | none => (5, s)
    | some p =>
      if a = -1 then
        (0, ⟨(noteS ⟨s.ps, upW s.w (smN f, smN i) { s.w (smN f, smN i) with q := l }⟩ i).ps,
          upW (noteS ⟨s.ps, upW s.w (smN f, smN i) { s.w (smN f, smN i) with q := l }⟩ i).w (smN f, smN i) ⟨l, (s.w (smN f, smN i)).nt, true⟩⟩)
      else (0, ⟨s.ps.set i { p with mo := p.mo + a }, upW s.w (smN f, smN i) ⟨l, if p.ow ≠ -1 ∧ (s.w (smN f, smN i)).cl = false then (s.w (smN f, smN i)).nt ++ [a] else (s.w (smN f, smN i)).nt, (s.w (smN f, smN i)).cl⟩⟩)
def sendS (s : SS) (i j : Nat) (n : Int) : Int × SS := match s.ps[i]? with
  | none => (2, s)
  | some p => if n < 1 ∨ p.mo < n then (2, s)
    else (0, ⟨s.ps.set i { p with mo := p.mo - n }, upW s.w (smN i, smN j) { s.w (smN i, smN j) with q := (s.w (smN i, smN j)).q ++ [n] }⟩)
def isN (n : Nat) (x : Int) : Bool := decide (0 ≤ x ∧ x < n)
def stepS (s : SS) (c : Mv) : Int × SS :=
  if c.kind < 1 ∨ 3 < c.kind then (4, s)
  else if isN s.ps.length c.who = false then (2, s)
  else if c.kind = 3 then (match s.ps[c.who.toNat]? with | some p => if p.ow = -1 then (0, noteS s c.who.toNat) else (6, s) | none => (6, s))
  else if isN s.ps.length c.oth = false ∨ c.oth = c.who then (2, s)
  else if c.kind = 2 then takeS s c.who.toNat c.oth.toNat
  else sendS s c.who.toNat c.oth.toNat c.n
def stS : SS → List Mv → SS
  | s, [] => s
  | s, c :: l => stS (stepS s c).2 l
def codesS : SS → List Mv → List Int
  | s, [] => []
  | s, c :: l => (stepS s c).1 :: codesS (stepS s c).2 l
def ss0 (money : List Int) : SS := ⟨money.map fun x => ⟨x, -1⟩, fun _ => ⟨[], [], false⟩⟩
theorem stS_app : ∀ (l l' : List Mv) (s : SS), stS s (l ++ l') = stS (stS s l) l'
  | [], _, _ => rfl
  | c :: l, l', s => by simp only [List.cons_append, stS]; exact stS_app l l' _
theorem codesS_app : ∀ (l l' : List Mv) (s : SS), codesS s (l ++ l') = codesS s l ++ codesS (stS s l) l'
  | [], _, _ => rfl
  | c :: l, l', s => by simp only [List.cons_append, stS, codesS]; rw [codesS_app l l']
theorem codesS_len : ∀ (l : List Mv) (s : SS), (codesS s l).length = l.length
  | [], _ => rfl
  | c :: l, s => by simp [codesS, codesS_len l]
/-! in memory -/
abbrev FI (x : Int) : List Value := [.int .i64 x]
theorem FI_len (c : Int) : (FI c).length = 1 := rfl
theorem FI_one (p : Int) (u : Value) (h : u ∈ FI p) : u.oneCell' = true := by simp [FI] at h; subst h; rfl
theorem Try.eI : Elem Try.prog 22 3 (.int .i64 0) 1 8 := ⟨Try.underlying22, by kernel_rfl, rfl, by decide⟩
abbrev FP (p : Pr) : List Value := [.int .i64 p.mo, .int .i64 p.ow]
theorem FP_len (c : Pr) : (FP c).length = 2 := rfl
theorem FP_one (p : Pr) (u : Value) (h : u ∈ FP p) : u.oneCell' = true := by simp [FP] at h; rcases h with rfl | rfl <;> rfl
theorem Try.eP : Elem Try.prog 41 46 (.agg #[.int .i64 0, .int .i64 0]) 2 16 := ⟨Try.underlying41, by kernel_rfl, rfl, by decide⟩
structure Rm where
  b : Nat
  qv : Value
  nv : Value
  w : Wm
abbrev vB (b : Nat) : Value := ptr b 0
abbrev Ks := List ((Sm × Sm) × Nat)
abbrev mapB (b : Nat) (ks : Ks) : Hp := Hp.map Try.prog 47 pairL vB b ks
abbrev recW (r : Rm) : Hp := Hp.rec_ r.b [r.qv, r.nv, .bool r.w.cl]
def rowH (r : Rm) : Hp := recW r * (Hp.own FI 1 r.qv r.w.q * Hp.own FI 1 r.nv r.w.nt)
theorem Try.keyed47 : Maps.Keyed Try.prog 47 := Maps.Keyed.of_law (deep_law_laid (m := 2) (by kernel_rfl) (by decide) (of_decide_eq_true (by kernel_rfl)) (by kernel_rfl) (by kernel_rfl))
theorem Try.lits3 (d : Nat) (a : Int) (w : (Lit.int .i64 a).wf = true) : Try.prog.keyLits (d + 1) 3 [.int .i64 a] = some [.int .i64 a] := by
  unfold Program.keyLits
  rw [Try.underlying3]
  exact if_pos ⟨rfl, w⟩
theorem Try.lits47 (d : Nat) (a b : Int) (wa : (Lit.int .i64 a).wf = true) (wb : (Lit.int .i64 b).wf = true) : Try.prog.keyLits (d + 2) 47 [.int .i64 a, .int .i64 b] = some [.int .i64 a, .int .i64 b] := by
  unfold Program.keyLits
  rw [Try.underlying47]
  dsimp only
  first
  | (rw [if_pos ⟨by kernel_rfl, by kernel_rfl⟩]
     simp only [show Try.prog.cellsOf 3 = 1 from by kernel_rfl, List.mapM_cons, List.mapM_nil, List.drop_zero, List.drop_succ_cons, List.take_succ_cons, List.take_zero, Try.lits3 d a wa, Try.lits3 d b wb]
     rfl)
  | (rw [if_pos (show [Value.int .i64 a, Value.int .i64 b].length = Try.prog.cellsOf 47 from by rw [show Try.prog.cellsOf 47 = 2 from by kernel_rfl]; rfl)]
     simp [show Try.prog.cellsOf 3 = 1 from by kernel_rfl, List.range, List.range.loop, Try.lits3 d a wa, Try.lits3 d b wb])
theorem Try.key47 (p : Sm × Sm) : keyOf Try.prog 47 (pairV p) = some (pairL p) := by
  unfold keyOf
  rw [Try.underlying47]
  dsimp only
  rw [if_pos (by
    rw [show Try.prog.keyType 47 = true from by kernel_rfl]
    simp only [Value.formed, Try.underlying47, show Try.prog.cellsOf 47 = 2 from by kernel_rfl]
    rfl)]
  obtain ⟨d, hd⟩ : ∃ d, Try.prog.types.size + 1 = d + 2 := ⟨Try.prog.types.size - 1, by kernel_rfl⟩
  rw [hd, show (pairV p).cells.toList = [.int .i64 (p.1.val : Int), .int .i64 (p.2.val : Int)] from rfl, Try.lits47 d _ _ (sm_wf p.1) (sm_wf p.2)]
  rfl
theorem Try.kL : KeyT Try.prog 47 pairV pairL (fun _ => True) := pairT Try.keyed47 Try.key47
structure ROk (n : Nat) (ks : Ks) (rs : List Rm) (w : Wy) : Prop where
  len : ks.length ≤ 36
  keys : ∀ a : Sm × Sm, a ∈ ks.map (·.1) ↔ a.1.val < n ∧ a.2.val < n ∧ a.1 ≠ a.2
  nodup : ks.Pairwise (fun p q => p.1 ≠ q.1)
  bl : rs.map Rm.b = ks.map (·.2)
  val : ∀ (k : Nat) (p : (Sm × Sm) × Nat) (r : Rm), ks[k]? = some p → rs[k]? = some r → r.w = w p.1
theorem row_at {ks : Ks} {rs : List Rm} (h : rs.map Rm.b = ks.map (·.2)) {k : Nat} {p : (Sm × Sm) × Nat} (hk : ks[k]? = some p) : ∃ r, rs[k]? = some r ∧ p.2 = r.b := by
  have h1 : (rs.map Rm.b)[k]? = some p.2 := by rw [h, List.getElem?_map, hk]; rfl
  rw [List.getElem?_map] at h1
  cases e : rs[k]? with
  | none => rw [e] at h1; cases h1
  | some r => rw [e] at h1; exact ⟨r, rfl, (Option.some.inj h1).symm⟩
theorem ROk.at_ {n : Nat} {ks : Ks} {rs : List Rm} {w : Wy} (h : ROk n ks rs w) {a : Sm × Sm} (h1 : a.1.val < n) (h2 : a.2.val < n) (h3 : a.1 ≠ a.2) : ∃ (k : Nat) (r : Rm), ks[k]? = some (a, r.b) ∧ rs[k]? = some r ∧ r.w = w a ∧ getM ks a = some r.b := by
  obtain ⟨p, hp, rfl⟩ := List.mem_map.1 ((h.keys a).2 ⟨h1, h2, h3⟩)
  obtain ⟨k, hk⟩ := List.getElem?_of_mem hp
  obtain ⟨r, hr, e⟩ := row_at h.bl hk
  refine ⟨k, r, by rw [hk, ← e], hr, h.val k p r hk hr, ?_⟩
  rw [← e]; exact getM_at h.nodup hk
theorem set_bR {rs : List Rm} {i : Nat} {m y : Rm} (hk : rs[i]? = some m) (hy : y.b = m.b) : (rs.set i y).map Rm.b = rs.map Rm.b := by
  refine List.ext_getElem? fun j => ?_
  rw [List.getElem?_map, List.getElem?_map]
  by_cases e : i = j
  · subst e; rw [List.getElem?_set_self (List.getElem?_eq_some_iff.1 hk).1, hk]; simp [hy]
  · rw [List.getElem?_set_ne e]
theorem set_casesR {l : List Rm} {i j : Nat} {x y : Rm} (h : (l.set i x)[j]? = some y) : (j = i ∧ y = x) ∨ (j ≠ i ∧ l[j]? = some y) := by
  by_cases e : i = j
  · subst e
    have hl := (List.getElem?_eq_some_iff.1 h).1
    rw [List.length_set] at hl
    rw [List.getElem?_set_self hl] at h; cases h; exact .inl ⟨rfl, rfl⟩
  · rw [List.getElem?_set_ne e] at h; exact .inr ⟨Ne.symm e, h⟩
theorem ROk.set {n : Nat} {ks : Ks} {rs : List Rm} {w : Wy} (h : ROk n ks rs w) {k : Nat} {a : Sm × Sm} {r y : Rm} (hk : ks[k]? = some (a, r.b)) (hr : rs[k]? = some r) (hy : y.b = r.b) : ROk n ks (rs.set k y) (upW w a y.w) := by
  refine ⟨h.len, h.keys, h.nodup, by rw [set_bR hr hy]; exact h.bl, fun j p x hp hx => ?_⟩
  unfold upW
  rcases set_casesR hx with ⟨rfl, rfl⟩ | ⟨hne, hx⟩
  · cases hk.symm.trans hp; rw [if_pos rfl]
  · rw [if_neg, h.val j p x hp hx]
    intro e
    have := List.pairwise_iff_getElem.1 h.nodup
    obtain ⟨l1, e1⟩ := List.getElem?_eq_some_iff.1 hk
    obtain ⟨l2, e2⟩ := List.getElem?_eq_some_iff.1 hp
    rcases Nat.lt_or_gt_of_ne hne with g | g
    · exact this j k l2 l1 g (by rw [e1, e2]; exact e)
    · exact this k j l1 l2 g (by rw [e1, e2]; exact e.symm)
def worldH (S n : Nat) (s : SS) : Hp := Hp.ex fun q : Value × Nat × Ks × List Rm => Hp.pure (ROk n q.2.2.1 q.2.2.2 s.w) *
  (Hp.rec_ S [q.1, .map (some q.2.1)] * (Hp.own FP 2 q.1 s.ps * (mapB q.2.1 q.2.2.1 * Hp.big rowH q.2.2.2)))
theorem sep4R (p q r s R : Hp) : sep [p, q, r, s, R] = p * (q * (r * (s * R))) := by show p * (q * (r * (s * (R * 1)))) = _; rw [Hp.mul_one]
theorem worldH.open_ {W w : World} {S n : Nat} {s : SS} {R : Hp} (H : Sat W w (worldH S n s * R)) : ∃ (pv : Value) (mb : Nat) (ks : Ks) (rs : List Rm), ROk n ks rs s.w ∧ Sat W w (sep [Hp.rec_ S [pv, .map (some mb)], Hp.own FP 2 pv s.ps, mapB mb ks, Hp.big rowH rs, R]) := by
  obtain ⟨⟨pv, mb, ks, rs⟩, H⟩ := H.ex
  obtain ⟨h1, H⟩ := (H.cast (Hp.mul_assoc ..)).pure
  exact ⟨pv, mb, ks, rs, h1, H.cast (by rw [sep4R]; simp only [Hp.mul_assoc])⟩
theorem worldH.shut {W w : World} {S n mb : Nat} {s : SS} {pv : Value} {ks : Ks} {rs : List Rm} {R : Hp} (h : ROk n ks rs s.w) (H : Sat W w (sep [Hp.rec_ S [pv, .map (some mb)], Hp.own FP 2 pv s.ps, mapB mb ks, Hp.big rowH rs, R])) : Sat W w (sep [worldH S n s, R]) := by
  rw [sep1]
  refine Sat.exI (p := fun q : Value × Nat × Ks × List Rm => Hp.pure (ROk n q.2.2.1 q.2.2.2 s.w) * (Hp.rec_ S [q.1, .map (some q.2.1)] * (Hp.own FP 2 q.1 s.ps * (mapB q.2.1 q.2.2.1 * Hp.big rowH q.2.2.2)))) (pv, mb, ks, rs) ?_
  refine (Sat.pureI h (H.cast ?_)).cast (Hp.mul_assoc ..).symm
  rw [sep4R]; simp only [Hp.mul_assoc]
end Go.Proofs.Ytanipkddfngnnaa
