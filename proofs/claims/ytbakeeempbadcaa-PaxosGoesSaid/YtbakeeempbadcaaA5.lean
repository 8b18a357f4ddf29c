/- Paxos' step, whichever it is, in plain words. -/
import Derived.Test.YtbakeeempbadcaaA4
namespace Go.Proofs.Ytbakeeempbadcaa
open Go.RowKit
set_option linter.unusedVariables false

structure St where
  vs : List Vt
  bs : List (Int × Bl)
  fl : List (Int × Int)
  ch : List (Int × Int)

def stepS (s : St) (t : Tr) : Int × St :=
  if t.kind < 1 ∨ 3 < t.kind then (4, s)
  else if t.ballot < 1 ∨ 1000 < t.ballot then (2, s)
  else match getM s.bs t.ballot with
    | none => if t.kind = 1 then (0, { s with bs := s.bs ++ [(t.ballot, newB t.val)] }) else (2, s)
    | some b =>
      if t.kind = 1 then (6, s)
      else if t.who < 0 then (2, s)
      else match s.vs[t.who.toNat]? with
        | none => (2, s)
        | some v =>
          if t.kind = 2 then ((askS s.vs.length t.ballot v b s.fl).1, { s with vs := s.vs.set t.who.toNat (askS s.vs.length t.ballot v b s.fl).2.1, bs := putM s.bs t.ballot (askS s.vs.length t.ballot v b s.fl).2.2.1, fl := (askS s.vs.length t.ballot v b s.fl).2.2.2 })
          else ((takeS s.vs.length t.ballot t.who v b s.ch).1, { s with vs := s.vs.set t.who.toNat (takeS s.vs.length t.ballot t.who v b s.ch).2.1, bs := putM s.bs t.ballot (takeS s.vs.length t.ballot t.who v b s.ch).2.2.1, ch := (takeS s.vs.length t.ballot t.who v b s.ch).2.2.2 })

/-- bounds behind m steps -/
structure Good (n m : Nat) (s : St) : Prop where
  vs : s.vs.length = n
  bs : s.bs.length ≤ m
  fl : s.fl.length ≤ m
  ch : s.ch.length ≤ m
  bl : ∀ p ∈ s.bs, p.2.pr ≤ m ∧ p.2.tk.length ≤ m

theorem Good.mono {n m m' : Nat} {s : St} (h : Good n m s) (hm : m ≤ m') : Good n m' s :=
  ⟨h.vs, by have := h.bs; omega, by have := h.fl; omega, by have := h.ch; omega, fun p hp => by have := h.bl p hp; omega⟩

theorem getM_idx {α β : Type} [DecidableEq α] {l : List (α × β)} {a : α} {x : β} (h : getM l a = some x) : ∃ j, l[j]? = some (a, x) ∧ ∀ y, l.set j (a, y) = putM l a y := by
  induction l with
  | nil => cases h
  | cons p l ih =>
    obtain ⟨c, z⟩ := p
    by_cases e : c = a
    · subst e; simp [getM] at h; subst h; exact ⟨0, rfl, fun y => by simp [putM]⟩
    · simp [getM, e] at h
      obtain ⟨j, h1, h2⟩ := ih h
      exact ⟨j + 1, by simpa using h1, fun y => by simp [putM, e, h2]⟩

theorem getM_map {α β γ : Type} [DecidableEq α] (f : β → γ) (l : List (α × β)) (a : α) : getM (l.map fun p => (p.1, f p.2)) a = (getM l a).map f := by
  induction l with
  | nil => rfl
  | cons p l ih => simp only [List.map_cons, getM]; split <;> simp_all
theorem putM_map {α β γ : Type} [DecidableEq α] (f : β → γ) (l : List (α × β)) (a : α) (x : β) : putM (l.map fun p => (p.1, f p.2)) a (f x) = (putM l a x).map fun p => (p.1, f p.2) := by
  induction l with
  | nil => rfl
  | cons p l ih => simp only [List.map_cons, putM]; split <;> simp_all

theorem askS_good {n m : Nat} {k : Int} {v : Vt} {b : Bl} {fl : List (Int × Int)} (hb : b.pr ≤ m ∧ b.tk.length ≤ m) (hf : fl.length ≤ m) :
    ((askS n k v b fl).2.2.1.pr ≤ m + 1 ∧ (askS n k v b fl).2.2.1.tk.length ≤ m + 1) ∧ (askS n k v b fl).2.2.2.length ≤ m + 1 := by
  unfold askS
  split
  · exact ⟨⟨by show b.pr ≤ _; omega, by show b.tk.length ≤ _; omega⟩, by show fl.length ≤ _; omega⟩
  · split
    · exact ⟨⟨by show b.pr ≤ _; omega, by show b.tk.length ≤ _; omega⟩, by show fl.length ≤ _; omega⟩
    · refine ⟨⟨?_, ?_⟩, ?_⟩
      · show (askB n k b v).pr ≤ _
        unfold askB best1; split <;> (simp only []; omega)
      · show (askB n k b v).tk.length ≤ _
        have : (askB n k b v).tk = b.tk := by unfold askB best1; split <;> split <;> rfl
        rw [this]; omega
      · show (askF n k b v fl).length ≤ _
        unfold askF; split <;> (try simp) <;> omega

theorem takeS_good {n m : Nat} {k i : Int} {v : Vt} {b : Bl} {ch : List (Int × Int)} (hb : b.pr ≤ m ∧ b.tk.length ≤ m) (hf : ch.length ≤ m) :
    ((takeS n k i v b ch).2.2.1.pr ≤ m + 1 ∧ (takeS n k i v b ch).2.2.1.tk.length ≤ m + 1) ∧ (takeS n k i v b ch).2.2.2.length ≤ m + 1 := by
  unfold takeS
  split
  · exact ⟨⟨by show b.pr ≤ _; omega, by show b.tk.length ≤ _; omega⟩, by show ch.length ≤ _; omega⟩
  · refine ⟨⟨?_, ?_⟩, ?_⟩
    · show b.pr ≤ _; omega
    · show (putM b.tk i 1).length ≤ _
      rw [putM_length]; split <;> omega
    · show (takeF n b i ch).length ≤ _
      unfold takeF; split <;> (try simp) <;> omega

theorem Good.step {n m : Nat} {s : St} (h : Good n m s) (t : Tr) : Good n (m + 1) (stepS s t).2 := by
  have hm := h.mono (show m ≤ m + 1 by omega)
  have key : ∀ (b' : Bl), (b'.pr ≤ m + 1 ∧ b'.tk.length ≤ m + 1) → (putM s.bs t.ballot b').length ≤ m + 1 ∧ ∀ p ∈ putM s.bs t.ballot b', p.2.pr ≤ m + 1 ∧ p.2.tk.length ≤ m + 1 := fun b' hb' => by
    have := h.bs
    refine ⟨by rw [putM_length]; split <;> omega, fun p hp => ?_⟩
    rcases mem_putM hp with rfl | ⟨hp, _⟩
    · exact hb'
    · exact hm.bl p hp
  unfold stepS
  split
  · exact hm
  split
  · exact hm
  split
  · split
    · refine ⟨h.vs, by have := h.bs; simp; omega, hm.fl, hm.ch, fun p hp => ?_⟩
      simp only [List.mem_append, List.mem_singleton] at hp
      rcases hp with hp | rfl
      · exact hm.bl p hp
      · exact ⟨by simp [newB], by simp [newB]⟩
    · exact hm
  · rename_i b hb
    split
    · exact hm
    split
    · exact hm
    split
    · exact hm
    · rename_i v hv
      have hbb := h.bl _ (getM_some hb)
      split
      · obtain ⟨q1, q2⟩ := askS_good (n := s.vs.length) (k := t.ballot) (v := v) hbb h.fl
        obtain ⟨q3, q4⟩ := key _ q1
        exact ⟨by simpa using h.vs, q3, q2, hm.ch, q4⟩
      · obtain ⟨q1, q2⟩ := takeS_good (n := s.vs.length) (k := t.ballot) (i := t.who) (v := v) hbb h.ch
        obtain ⟨q3, q4⟩ := key _ q1
        exact ⟨by simpa using h.vs, q3, hm.fl, q2, q4⟩

/-- the machine -/
def machH (S : Nat) (vc : Value) (s : St) : Hp := fun h => ∃ g o cap mb vf vch bms, s.bs = bms.map (fun p => (p.1, p.2.bl)) ∧ MachAt S g o cap mb vc vf vch s.vs bms s.fl s.ch h

theorem machH.open_ {W w : World} {S : Nat} {vc : Value} {s : St} {R : Hp} (H : Sat W w (machH S vc s * R)) : ∃ g o cap mb vf vch bms, s.bs = bms.map (fun p => (p.1, p.2.bl)) ∧ Sat W w (MachAt S g o cap mb vc vf vch s.vs bms s.fl s.ch * R) := by
  obtain ⟨hb, m, hm, h1, h2, hd, rfl, ⟨g, o, cap, mb, vf, vch, bms, e, p⟩, r⟩ := H
  exact ⟨g, o, cap, mb, vf, vch, bms, e, hb, _, hm, h1, h2, hd, rfl, p, r⟩
theorem machH.shut {W w : World} {S g o cap mb : Nat} {vc vf vch : Value} {s : St} {bms : List (Int × BM)} {R : Hp} (e : s.bs = bms.map (fun p => (p.1, p.2.bl))) (H : Sat W w (MachAt S g o cap mb vc vf vch s.vs bms s.fl s.ch * R)) : Sat W w (machH S vc s * R) :=
  H.mono fun m h => ⟨g, o, cap, mb, vf, vch, bms, e, h⟩

theorem step_any {W w : World} {S n m : Nat} {vc : Value} {s : St} {t : Tr} {R : Hp} (H : Sat W w (machH S vc s * R)) (hwf : (Lit.int .i64 t.ballot).wf = true) (hg : Good n m s) (hn : n ≤ 5) (hm : m ≤ 200) :
    Calls Try.prog 9 #[.pointer (some ⟨S, 0, none⟩), vT t] w fun e w' => e = .returned (.int .i64 (stepS s t).1) ∧ Sat W w' (machH S vc (stepS s t).2 * R) := by
  obtain ⟨g, o, cap, mb, vf, vch, bms, e, H⟩ := machH.open_ H
  have hbl : bms.length ≤ 200 := by have := hg.bs; rw [e] at this; simp at this; omega
  have hH := H
  unfold MachAt at H
  by_cases hk : t.kind < 1 ∨ 3 < t.kind
  · rw [show stepS s t = (4, s) by unfold stepS; rw [if_pos hk]]
    refine (step_kind (X := allHp mb (adr bms) * (Hp.own FB 2 vf s.fl * (Hp.own FB 2 vch s.ch * Hp.big balHp bms)) * R) (H.cast (by ac_rfl)) hk).mono ?_
    rintro e' w' ⟨rfl, H2⟩
    exact ⟨rfl, machH.shut e (by unfold MachAt; exact H2.cast (by ac_rfl))⟩
  by_cases hb : t.ballot < 1 ∨ 1000 < t.ballot
  · rw [show stepS s t = (2, s) by unfold stepS; rw [if_neg hk, if_pos hb]]
    refine (step_arg hH (by omega) hwf hb).mono ?_
    rintro e' w' ⟨rfl, H2⟩
    exact ⟨rfl, machH.shut e H2⟩
  have hgs : getM s.bs t.ballot = (getM bms t.ballot).map (·.bl) := by rw [e]; exact getM_map _ _ _
  cases hgm : getM bms t.ballot with
  | none =>
    rw [hgm] at hgs
    simp only [Option.map_none] at hgs
    by_cases h1 : t.kind = 1
    · rw [show stepS s t = (0, { s with bs := s.bs ++ [(t.ballot, newB t.val)] }) by unfold stepS; rw [if_neg hk, if_neg hb, hgs]; simp only []; rw [if_pos h1]]
      refine (step_begin hH h1 hwf (by omega) hgm hbl).mono ?_
      rintro e' w' ⟨rfl, ad, tb, H2⟩
      exact ⟨rfl, machH.shut (s := { s with bs := s.bs ++ [(t.ballot, newB t.val)] }) (by simp [e]) H2⟩
    · rw [show stepS s t = (2, s) by unfold stepS; rw [if_neg hk, if_neg hb, hgs]; simp only []; rw [if_neg h1]]
      refine (step_none hH (by omega) hwf (by omega) hgm).mono ?_
      rintro e' w' ⟨rfl, H2⟩
      exact ⟨rfl, machH.shut e H2⟩
  | some a =>
    rw [hgm] at hgs
    simp only [Option.map_some] at hgs
    by_cases h1 : t.kind = 1
    · rw [show stepS s t = (6, s) by unfold stepS; rw [if_neg hk, if_neg hb, hgs]; simp only []; rw [if_pos h1]]
      refine (step_hold hH h1 hwf (by omega) hgm).mono ?_
      rintro e' w' ⟨rfl, H2⟩
      exact ⟨rfl, machH.shut e H2⟩
    by_cases hw : t.who < 0 ∨ (s.vs.length : Int) ≤ t.who
    · have : stepS s t = (2, s) := by
        unfold stepS; rw [if_neg hk, if_neg hb, hgs]; simp only []; rw [if_neg h1]
        by_cases hw0 : t.who < 0
        · rw [if_pos hw0]
        · rw [if_neg hw0, List.getElem?_eq_none (by omega)]
      rw [this]
      refine (step_who hH (by omega) hwf (by omega) hgm hw).mono ?_
      rintro e' w' ⟨rfl, H2⟩
      exact ⟨rfl, machH.shut e H2⟩
    obtain ⟨i, hi⟩ := Int.eq_ofNat_of_zero_le (show 0 ≤ t.who by omega)
    obtain ⟨v, hv⟩ := get_of_lt (show i < s.vs.length by omega)
    obtain ⟨j, hj, hjs⟩ := getM_idx hgm
    have hbb : a.bl.pr ≤ m ∧ a.bl.tk.length ≤ m := hg.bl _ (getM_some hgs)
    have hmap : ∀ b', s.bs.map id = s.bs → putM s.bs t.ballot b' = (bms.set j (t.ballot, { a with bl := b' })).map (fun p => (p.1, p.2.bl)) := fun b' _ => by
      rw [hjs, e, ← putM_map (fun x : BM => x.bl)]
    have hti : t.who.toNat = i := by omega
    by_cases h2 : t.kind = 2
    · rw [show stepS s t = ((askS s.vs.length t.ballot v a.bl s.fl).1, { s with vs := s.vs.set i (askS s.vs.length t.ballot v a.bl s.fl).2.1, bs := putM s.bs t.ballot (askS s.vs.length t.ballot v a.bl s.fl).2.2.1, fl := (askS s.vs.length t.ballot v a.bl s.fl).2.2.2 }) by
        unfold stepS; rw [if_neg hk, if_neg hb, hgs]; simp only []; rw [if_neg h1, if_neg (by omega), hti, hv]; simp only []; rw [if_pos h2]]
      have hfl := hg.fl
      refine (step_ask hH h2 hwf (by omega) hgm hi hj hv (by omega) (by omega)).mono ?_
      rintro e' w' ⟨rfl, vf', H2⟩
      refine ⟨rfl, machH.shut (bms := bms.set j (t.ballot, { a with bl := (askS s.vs.length t.ballot v a.bl s.fl).2.2.1 })) (hmap _ (by simp)) H2⟩
    · have hti' : t.who = (i : Int) := hi
      rw [show stepS s t = ((takeS s.vs.length t.ballot i v a.bl s.ch).1, { s with vs := s.vs.set i (takeS s.vs.length t.ballot i v a.bl s.ch).2.1, bs := putM s.bs t.ballot (takeS s.vs.length t.ballot i v a.bl s.ch).2.2.1, ch := (takeS s.vs.length t.ballot i v a.bl s.ch).2.2.2 }) by
        unfold stepS; rw [if_neg hk, if_neg hb, hgs]; simp only []; rw [if_neg h1, if_neg (by omega), hti, hv]; simp only []; rw [if_neg h2, hti']]
      have hfl := hg.ch
      have hvl := hg.vs
      refine (step_take hH (by omega) hwf (by omega) hgm hi hj hv (by omega) (by omega) (by omega)).mono ?_
      rintro e' w' ⟨rfl, vf', H2⟩
      refine ⟨rfl, machH.shut (bms := bms.set j (t.ballot, { a with bl := (takeS s.vs.length t.ballot i v a.bl s.ch).2.2.1 })) (hmap _ (by simp)) H2⟩

def FZ (x : Int) : List Value := [.int .i64 x]
theorem FZ_len (x : Int) : (FZ x).length = 1 := rfl
theorem FZ_one (x : Int) (u : Value) (h : u ∈ FZ x) : u.oneCell' = true := by simp [FZ] at h; subst h; rfl
theorem Try.eC : Elem Try.prog 23 28 (.int .i64 0) 1 8 := ⟨Try.underlying23, by kernel_rfl, rfl, by decide⟩
theorem Try.eV : Elem Try.prog 24 39 (.agg #[.int .i64 0, .int .i64 0, .int .i64 0]) 3 24 := ⟨Try.underlying24, by kernel_rfl, rfl, by decide⟩

/-- a script, step by step -/
def runS : St → List Tr → St × List Int
  | s, [] => (s, [])
  | s, t :: l => ((runS (stepS s t).2 l).1, (stepS s t).1 :: (runS (stepS s t).2 l).2)
theorem runS_snoc (t : Tr) : ∀ (l : List Tr) (s : St), runS s (l ++ [t]) = ((stepS (runS s l).1 t).2, (runS s l).2 ++ [(stepS (runS s l).1 t).1])
  | [], s => rfl
  | x :: l, s => by simp only [List.cons_append, runS]; rw [runS_snoc t l]
theorem runS_len : ∀ (l : List Tr) (s : St), (runS s l).2.length = l.length
  | [], _ => rfl
  | x :: l, s => by simp only [runS, List.length_cons, runS_len l]
def v0 : Vt := ⟨0, 0, 0⟩
def s0 (n : Nat) : St := ⟨List.replicate n v0, [], [], []⟩
theorem Good.run {n : Nat} : ∀ (l : List Tr) {m : Nat} {s : St}, Good n m s → Good n (m + l.length) (runS s l).1
  | [], _, _, h => h
  | x :: l, m, s, h => by
    have := Good.run l (h.step x)
    rw [show m + 1 + l.length = m + (x :: l).length by simp; omega] at this
    exact this
theorem Good.start (n : Nat) : Good n 0 (s0 n) := ⟨by simp [s0], by simp [s0], by simp [s0], by simp [s0], fun p hp => by simp [s0] at hp⟩

end Go.Proofs.Ytbakeeempbadcaa
