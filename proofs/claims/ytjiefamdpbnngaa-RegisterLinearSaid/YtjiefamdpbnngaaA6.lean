/- A step of the machine, whole. No condition. -/
import Derived.Test.YtjiefamdpbnngaaA5
namespace Go.Proofs.Ytjiefamdpbnngaa
open Go.RowKit
set_option linter.unusedVariables false
set_option linter.unusedSimpArgs false
set_option maxRecDepth 100000

theorem reachR_eq {s : RS} {c i m k : Nat} {o : Oq} (hn : s.now.getD c none = some k) (ho : s.ops[k]? = some o) (hs : ¬ i ∈ o.seen) :
    reachR s c i m = (0, ⟨if o.sec = true then storeR s.cs i o.best else s.cs, s.ops.set k (if 2 * (o.many + 1) ≤ s.cs.length then seeR s.cs i o else turnO (seeR s.cs i o) m), if 2 * (o.many + 1) ≤ s.cs.length then s.now else if o.sec = true then s.now.set o.who none else s.now⟩) := by
  unfold reachR
  rw [hn]
  dsimp only
  rw [ho]
  dsimp only
  rw [if_neg hs]
  by_cases h : 2 * (o.many + 1) ≤ s.cs.length
  · rw [if_pos h, if_pos h, if_pos h]
  · rw [if_neg h, if_neg h, if_neg h]
theorem reachR_seen {s : RS} {c i m k : Nat} {o : Oq} (hn : s.now.getD c none = some k) (ho : s.ops[k]? = some o) (hs : i ∈ o.seen) : reachR s c i m = (6, s) := by
  unfold reachR
  rw [hn]
  dsimp only
  rw [ho]
  dsimp only
  rw [if_pos hs]
theorem mo_at {mo : List Om} {ops : List Oq} (h : mo.map Om.o = ops) {k : Nat} {o : Oq} (ho : ops[k]? = some o) : ∃ m, mo[k]? = some m ∧ m.o = o := by
  subst h
  rw [List.getElem?_map] at ho
  cases e : mo[k]? with
  | none => rw [e] at ho; cases ho
  | some m => rw [e] at ho; cases ho; exact ⟨m, rfl, rfl⟩
abbrev clV (c : Cl) : Value := .agg #[.int .i64 c.kind, .int .i64 c.who, .int .i64 c.loc, .int .i64 c.src, .bool c.wr, .int .i64 c.val]
def StepsR (S m : Nat) (s : RS) (cv : Value) (c : Cl) (W w : World) (R : Hp) : Prop :=
  Calls Try.prog 11 #[ptr S 0, clV c, .int .i64 ((m : Nat) : Int)] w (Ret W fun v l => ∃ (ov' : Value) (mo' : List Om), v = .int .i64 (stepR s c m).1 ∧ mo'.map Om.o = (stepR s c m).2.ops ∧ sep l = regP S (stepR s c m).2.now cv ov' (stepR s c m).2.cs mo' * R)
theorem StepsR.same {S m : Nat} {s : RS} {cv ov : Value} {c : Cl} {W w : World} {R : Hp} {mo : List Om} {z : Int} (hmo : mo.map Om.o = s.ops) (h : stepR s c m = (z, s)) (H : Calls Try.prog 11 #[ptr S 0, clV c, .int .i64 ((m : Nat) : Int)] w (Ret W fun v l => v = .int .i64 z ∧ sep l = regP S s.now cv ov s.cs mo * R)) : StepsR S m s cv c W w R :=
  H.mono fun e w' ⟨v, l, he, ⟨hv, hl⟩, H'⟩ => ⟨v, l, he, ⟨ov, mo, by rw [h]; exact hv, by rw [h]; exact hmo, by rw [h]; exact hl⟩, H'⟩
theorem step1 {s : RS} {who loc src val : Int} {wr : Bool} {m : Nat} (h0 : 0 ≤ who) (h4 : who < 4) : stepR s ⟨1, who, loc, src, wr, val⟩ m = beginR s who.toNat wr val m := by
  unfold stepR
  rw [if_neg (by dsimp only; omega), if_neg (by dsimp only; omega), if_pos rfl]
theorem step2 {s : RS} {who loc src val : Int} {wr : Bool} {m : Nat} (h0 : 0 ≤ who) (h4 : who < 4) (h1 : 0 ≤ loc) (h2 : loc < s.cs.length) : stepR s ⟨2, who, loc, src, wr, val⟩ m = reachR s who.toNat loc.toNat m := by
  unfold stepR
  rw [if_neg (by dsimp only; omega), if_neg (by dsimp only; omega), if_neg (by dsimp only; omega), if_pos rfl]
theorem step3 {s : RS} {who loc src val : Int} {wr : Bool} {m : Nat} (h1 : 0 ≤ loc) (h2 : loc < s.cs.length) : stepR s ⟨3, who, loc, src, wr, val⟩ m = lateR s loc.toNat src := by
  unfold stepR
  rw [if_neg (by dsimp only; omega), if_neg (by dsimp only; omega), if_neg (by dsimp only; omega), if_neg (by dsimp only; omega)]
theorem mk_small {n : Nat} {l : List Nat} (h : ∀ i ∈ l, i < n) (h5 : n ≤ 5) : mk l < 4294967296 := mk_lt fun i hi => by have := h i hi; omega
theorem stepB0 {W w : World} {S m n : Nat} {cs : List Sd} {ops : List Oq} {a0 a1 a2 a3 : Option Nat} {cv ov : Value} {mo : List Om} {R : Hp} {loc src val : Int} {wr : Bool} (inv : InvR n m ⟨cs, ops, [a0, a1, a2, a3]⟩) (hmo : mo.map Om.o = ops) (hm : m ≤ 900) (H : Sat W w (regP S [a0, a1, a2, a3] cv ov cs mo * R)) :
    StepsR S m ⟨cs, ops, [a0, a1, a2, a3]⟩ cv ⟨1, 0, loc, src, wr, val⟩ W w R := by
  have hst := step1 (s := ⟨cs, ops, [a0, a1, a2, a3]⟩) (who := 0) (loc := loc) (src := src) (val := val) (wr := wr) (m := m) (by decide) (by decide)
  have hml : mo.length = ops.length := by rw [← hmo, List.length_map]
  have hcnt := inv.cnt
  have hlt : ∀ (j k : Nat), ([a0, a1, a2, a3] : List (Option Nat))[j]? = some (some k) → k < mo.length := fun j k hk => by
    obtain ⟨o, ho, _⟩ := inv.now j k hk
    rw [hml]; exact (List.getElem?_eq_some_iff.1 ho).1
  cases ha : a0 with
  | none =>
    subst ha
    have e : beginR ⟨cs, ops, [none, a1, a2, a3]⟩ 0 wr val m = (0, ⟨cs, ops ++ [newO 0 wr val m], [(some ops.length), a1, a2, a3]⟩) := rfl
    have e2 := hst.trans e
    refine (step_begin0 (fun k hk => hlt 1 k (by rw [hk]; rfl)) (fun k hk => hlt 2 k (by rw [hk]; rfl)) (fun k hk => hlt 3 k (by rw [hk]; rfl)) (by dsimp only at hcnt; omega) H).mono fun e w' ⟨v, l, he, ⟨b, b2, ov', hv, hl⟩, H'⟩ => ⟨v, l, he, ⟨ov', mo ++ [⟨b, b2, newO 0 wr val m⟩], by rw [e2]; exact hv, by rw [e2]; simp [hmo], ?_⟩, H'⟩
    rw [e2, hl, hml]
  | some k =>
    subst ha
    exact StepsR.same hmo (hst.trans rfl) (step_begin_no0 H)
theorem stepC0 {W w : World} {S m n i : Nat} {cs : List Sd} {ops : List Oq} {a0 a1 a2 a3 : Option Nat} {cv ov : Value} {mo : List Om} {R : Hp} {src val : Int} {wr : Bool} (inv : InvR n m ⟨cs, ops, [a0, a1, a2, a3]⟩) (hmo : mo.map Om.o = ops) (hm : m ≤ 900) (h1 : 1 ≤ n) (h5 : n ≤ 5) (hi : i < cs.length) (H : Sat W w (regP S [a0, a1, a2, a3] cv ov cs mo * R)) :
    StepsR S m ⟨cs, ops, [a0, a1, a2, a3]⟩ cv ⟨2, 0, i, src, wr, val⟩ W w R := by
  have hst := step2 (s := ⟨cs, ops, [a0, a1, a2, a3]⟩) (who := 0) (loc := i) (src := src) (val := val) (wr := wr) (m := m) (by decide) (by decide) (by omega) (by dsimp only; omega)
  rw [Int.toNat_natCast, show Int.toNat (0 : Int) = 0 from rfl] at hst
  have hlen : cs.length = n := inv.len
  have h55 : cs.length ≤ 5 := by omega
  cases ha : a0 with
  | none =>
    subst ha
    exact StepsR.same hmo (hst.trans rfl) (step_reach_nil0 hi h55 H)
  | some k =>
    subst ha
    obtain ⟨o, ho, hw, hto⟩ := inv.now 0 k rfl
    obtain ⟨x, hx, rfl⟩ := mo_at hmo ho
    obtain ⟨g1, g2, g3, g4, g5, g6, g7⟩ := inv.old k _ ho
    have hmk := mk_small g7 h5
    by_cases hs : i ∈ x.o.seen
    · exact StepsR.same hmo (hst.trans (reachR_seen rfl ho hs)) (step_reach_seen0 hx hs hmk hi h55 H)
    · have e2 := hst.trans (reachR_eq rfl ho hs)
      refine (step_reach_go0 hx hw hs hmk (by omega) (by omega) (fun q hq => by obtain ⟨j, hj⟩ := List.getElem?_of_mem hq; have := inv.cs j q hj; omega) hi h55 H).mono fun e w' ⟨v, l, he, ⟨hv, hl⟩, H'⟩ => ⟨v, l, he, ⟨ov, mo.set k ⟨x.b, x.b2, if 2 * (x.o.many + 1) ≤ cs.length then seeR cs i x.o else turnO (seeR cs i x.o) m⟩, by rw [e2]; exact hv, by rw [e2, List.map_set, hmo], ?_⟩, H'⟩
      rw [e2, hl, hw]
      rfl
theorem stepB1 {W w : World} {S m n : Nat} {cs : List Sd} {ops : List Oq} {a0 a1 a2 a3 : Option Nat} {cv ov : Value} {mo : List Om} {R : Hp} {loc src val : Int} {wr : Bool} (inv : InvR n m ⟨cs, ops, [a0, a1, a2, a3]⟩) (hmo : mo.map Om.o = ops) (hm : m ≤ 900) (H : Sat W w (regP S [a0, a1, a2, a3] cv ov cs mo * R)) :
    StepsR S m ⟨cs, ops, [a0, a1, a2, a3]⟩ cv ⟨1, 1, loc, src, wr, val⟩ W w R := by
  have hst := step1 (s := ⟨cs, ops, [a0, a1, a2, a3]⟩) (who := 1) (loc := loc) (src := src) (val := val) (wr := wr) (m := m) (by decide) (by decide)
  have hml : mo.length = ops.length := by rw [← hmo, List.length_map]
  have hcnt := inv.cnt
  have hlt : ∀ (j k : Nat), ([a0, a1, a2, a3] : List (Option Nat))[j]? = some (some k) → k < mo.length := fun j k hk => by
    obtain ⟨o, ho, _⟩ := inv.now j k hk
    rw [hml]; exact (List.getElem?_eq_some_iff.1 ho).1
  cases ha : a1 with
  | none =>
    subst ha
    have e : beginR ⟨cs, ops, [a0, none, a2, a3]⟩ 1 wr val m = (0, ⟨cs, ops ++ [newO 1 wr val m], [a0, (some ops.length), a2, a3]⟩) := rfl
    have e2 := hst.trans e
    refine (step_begin1 (fun k hk => hlt 0 k (by rw [hk]; rfl)) (fun k hk => hlt 2 k (by rw [hk]; rfl)) (fun k hk => hlt 3 k (by rw [hk]; rfl)) (by dsimp only at hcnt; omega) H).mono fun e w' ⟨v, l, he, ⟨b, b2, ov', hv, hl⟩, H'⟩ => ⟨v, l, he, ⟨ov', mo ++ [⟨b, b2, newO 1 wr val m⟩], by rw [e2]; exact hv, by rw [e2]; simp [hmo], ?_⟩, H'⟩
    rw [e2, hl, hml]
  | some k =>
    subst ha
    exact StepsR.same hmo (hst.trans rfl) (step_begin_no1 H)
theorem stepC1 {W w : World} {S m n i : Nat} {cs : List Sd} {ops : List Oq} {a0 a1 a2 a3 : Option Nat} {cv ov : Value} {mo : List Om} {R : Hp} {src val : Int} {wr : Bool} (inv : InvR n m ⟨cs, ops, [a0, a1, a2, a3]⟩) (hmo : mo.map Om.o = ops) (hm : m ≤ 900) (h1 : 1 ≤ n) (h5 : n ≤ 5) (hi : i < cs.length) (H : Sat W w (regP S [a0, a1, a2, a3] cv ov cs mo * R)) :
    StepsR S m ⟨cs, ops, [a0, a1, a2, a3]⟩ cv ⟨2, 1, i, src, wr, val⟩ W w R := by
  have hst := step2 (s := ⟨cs, ops, [a0, a1, a2, a3]⟩) (who := 1) (loc := i) (src := src) (val := val) (wr := wr) (m := m) (by decide) (by decide) (by omega) (by dsimp only; omega)
  rw [Int.toNat_natCast, show Int.toNat (1 : Int) = 1 from rfl] at hst
  have hlen : cs.length = n := inv.len
  have h55 : cs.length ≤ 5 := by omega
  cases ha : a1 with
  | none =>
    subst ha
    exact StepsR.same hmo (hst.trans rfl) (step_reach_nil1 hi h55 H)
  | some k =>
    subst ha
    obtain ⟨o, ho, hw, hto⟩ := inv.now 1 k rfl
    obtain ⟨x, hx, rfl⟩ := mo_at hmo ho
    obtain ⟨g1, g2, g3, g4, g5, g6, g7⟩ := inv.old k _ ho
    have hmk := mk_small g7 h5
    by_cases hs : i ∈ x.o.seen
    · exact StepsR.same hmo (hst.trans (reachR_seen rfl ho hs)) (step_reach_seen1 hx hs hmk hi h55 H)
    · have e2 := hst.trans (reachR_eq rfl ho hs)
      refine (step_reach_go1 hx hw hs hmk (by omega) (by omega) (fun q hq => by obtain ⟨j, hj⟩ := List.getElem?_of_mem hq; have := inv.cs j q hj; omega) hi h55 H).mono fun e w' ⟨v, l, he, ⟨hv, hl⟩, H'⟩ => ⟨v, l, he, ⟨ov, mo.set k ⟨x.b, x.b2, if 2 * (x.o.many + 1) ≤ cs.length then seeR cs i x.o else turnO (seeR cs i x.o) m⟩, by rw [e2]; exact hv, by rw [e2, List.map_set, hmo], ?_⟩, H'⟩
      rw [e2, hl, hw]
      rfl
theorem stepB2 {W w : World} {S m n : Nat} {cs : List Sd} {ops : List Oq} {a0 a1 a2 a3 : Option Nat} {cv ov : Value} {mo : List Om} {R : Hp} {loc src val : Int} {wr : Bool} (inv : InvR n m ⟨cs, ops, [a0, a1, a2, a3]⟩) (hmo : mo.map Om.o = ops) (hm : m ≤ 900) (H : Sat W w (regP S [a0, a1, a2, a3] cv ov cs mo * R)) :
    StepsR S m ⟨cs, ops, [a0, a1, a2, a3]⟩ cv ⟨1, 2, loc, src, wr, val⟩ W w R := by
  have hst := step1 (s := ⟨cs, ops, [a0, a1, a2, a3]⟩) (who := 2) (loc := loc) (src := src) (val := val) (wr := wr) (m := m) (by decide) (by decide)
  have hml : mo.length = ops.length := by rw [← hmo, List.length_map]
  have hcnt := inv.cnt
  have hlt : ∀ (j k : Nat), ([a0, a1, a2, a3] : List (Option Nat))[j]? = some (some k) → k < mo.length := fun j k hk => by
    obtain ⟨o, ho, _⟩ := inv.now j k hk
    rw [hml]; exact (List.getElem?_eq_some_iff.1 ho).1
  cases ha : a2 with
  | none =>
    subst ha
    have e : beginR ⟨cs, ops, [a0, a1, none, a3]⟩ 2 wr val m = (0, ⟨cs, ops ++ [newO 2 wr val m], [a0, a1, (some ops.length), a3]⟩) := rfl
    have e2 := hst.trans e
    refine (step_begin2 (fun k hk => hlt 0 k (by rw [hk]; rfl)) (fun k hk => hlt 1 k (by rw [hk]; rfl)) (fun k hk => hlt 3 k (by rw [hk]; rfl)) (by dsimp only at hcnt; omega) H).mono fun e w' ⟨v, l, he, ⟨b, b2, ov', hv, hl⟩, H'⟩ => ⟨v, l, he, ⟨ov', mo ++ [⟨b, b2, newO 2 wr val m⟩], by rw [e2]; exact hv, by rw [e2]; simp [hmo], ?_⟩, H'⟩
    rw [e2, hl, hml]
  | some k =>
    subst ha
    exact StepsR.same hmo (hst.trans rfl) (step_begin_no2 H)
theorem stepC2 {W w : World} {S m n i : Nat} {cs : List Sd} {ops : List Oq} {a0 a1 a2 a3 : Option Nat} {cv ov : Value} {mo : List Om} {R : Hp} {src val : Int} {wr : Bool} (inv : InvR n m ⟨cs, ops, [a0, a1, a2, a3]⟩) (hmo : mo.map Om.o = ops) (hm : m ≤ 900) (h1 : 1 ≤ n) (h5 : n ≤ 5) (hi : i < cs.length) (H : Sat W w (regP S [a0, a1, a2, a3] cv ov cs mo * R)) :
    StepsR S m ⟨cs, ops, [a0, a1, a2, a3]⟩ cv ⟨2, 2, i, src, wr, val⟩ W w R := by
  have hst := step2 (s := ⟨cs, ops, [a0, a1, a2, a3]⟩) (who := 2) (loc := i) (src := src) (val := val) (wr := wr) (m := m) (by decide) (by decide) (by omega) (by dsimp only; omega)
  rw [Int.toNat_natCast, show Int.toNat (2 : Int) = 2 from rfl] at hst
  have hlen : cs.length = n := inv.len
  have h55 : cs.length ≤ 5 := by omega
  cases ha : a2 with
  | none =>
    subst ha
    exact StepsR.same hmo (hst.trans rfl) (step_reach_nil2 hi h55 H)
  | some k =>
    subst ha
    obtain ⟨o, ho, hw, hto⟩ := inv.now 2 k rfl
    obtain ⟨x, hx, rfl⟩ := mo_at hmo ho
    obtain ⟨g1, g2, g3, g4, g5, g6, g7⟩ := inv.old k _ ho
    have hmk := mk_small g7 h5
    by_cases hs : i ∈ x.o.seen
    · exact StepsR.same hmo (hst.trans (reachR_seen rfl ho hs)) (step_reach_seen2 hx hs hmk hi h55 H)
    · have e2 := hst.trans (reachR_eq rfl ho hs)
      refine (step_reach_go2 hx hw hs hmk (by omega) (by omega) (fun q hq => by obtain ⟨j, hj⟩ := List.getElem?_of_mem hq; have := inv.cs j q hj; omega) hi h55 H).mono fun e w' ⟨v, l, he, ⟨hv, hl⟩, H'⟩ => ⟨v, l, he, ⟨ov, mo.set k ⟨x.b, x.b2, if 2 * (x.o.many + 1) ≤ cs.length then seeR cs i x.o else turnO (seeR cs i x.o) m⟩, by rw [e2]; exact hv, by rw [e2, List.map_set, hmo], ?_⟩, H'⟩
      rw [e2, hl, hw]
      rfl
theorem stepB3 {W w : World} {S m n : Nat} {cs : List Sd} {ops : List Oq} {a0 a1 a2 a3 : Option Nat} {cv ov : Value} {mo : List Om} {R : Hp} {loc src val : Int} {wr : Bool} (inv : InvR n m ⟨cs, ops, [a0, a1, a2, a3]⟩) (hmo : mo.map Om.o = ops) (hm : m ≤ 900) (H : Sat W w (regP S [a0, a1, a2, a3] cv ov cs mo * R)) :
    StepsR S m ⟨cs, ops, [a0, a1, a2, a3]⟩ cv ⟨1, 3, loc, src, wr, val⟩ W w R := by
  have hst := step1 (s := ⟨cs, ops, [a0, a1, a2, a3]⟩) (who := 3) (loc := loc) (src := src) (val := val) (wr := wr) (m := m) (by decide) (by decide)
  have hml : mo.length = ops.length := by rw [← hmo, List.length_map]
  have hcnt := inv.cnt
  have hlt : ∀ (j k : Nat), ([a0, a1, a2, a3] : List (Option Nat))[j]? = some (some k) → k < mo.length := fun j k hk => by
    obtain ⟨o, ho, _⟩ := inv.now j k hk
    rw [hml]; exact (List.getElem?_eq_some_iff.1 ho).1
  cases ha : a3 with
  | none =>
    subst ha
    have e : beginR ⟨cs, ops, [a0, a1, a2, none]⟩ 3 wr val m = (0, ⟨cs, ops ++ [newO 3 wr val m], [a0, a1, a2, (some ops.length)]⟩) := rfl
    have e2 := hst.trans e
    refine (step_begin3 (fun k hk => hlt 0 k (by rw [hk]; rfl)) (fun k hk => hlt 1 k (by rw [hk]; rfl)) (fun k hk => hlt 2 k (by rw [hk]; rfl)) (by dsimp only at hcnt; omega) H).mono fun e w' ⟨v, l, he, ⟨b, b2, ov', hv, hl⟩, H'⟩ => ⟨v, l, he, ⟨ov', mo ++ [⟨b, b2, newO 3 wr val m⟩], by rw [e2]; exact hv, by rw [e2]; simp [hmo], ?_⟩, H'⟩
    rw [e2, hl, hml]
  | some k =>
    subst ha
    exact StepsR.same hmo (hst.trans rfl) (step_begin_no3 H)
theorem stepC3 {W w : World} {S m n i : Nat} {cs : List Sd} {ops : List Oq} {a0 a1 a2 a3 : Option Nat} {cv ov : Value} {mo : List Om} {R : Hp} {src val : Int} {wr : Bool} (inv : InvR n m ⟨cs, ops, [a0, a1, a2, a3]⟩) (hmo : mo.map Om.o = ops) (hm : m ≤ 900) (h1 : 1 ≤ n) (h5 : n ≤ 5) (hi : i < cs.length) (H : Sat W w (regP S [a0, a1, a2, a3] cv ov cs mo * R)) :
    StepsR S m ⟨cs, ops, [a0, a1, a2, a3]⟩ cv ⟨2, 3, i, src, wr, val⟩ W w R := by
  have hst := step2 (s := ⟨cs, ops, [a0, a1, a2, a3]⟩) (who := 3) (loc := i) (src := src) (val := val) (wr := wr) (m := m) (by decide) (by decide) (by omega) (by dsimp only; omega)
  rw [Int.toNat_natCast, show Int.toNat (3 : Int) = 3 from rfl] at hst
  have hlen : cs.length = n := inv.len
  have h55 : cs.length ≤ 5 := by omega
  cases ha : a3 with
  | none =>
    subst ha
    exact StepsR.same hmo (hst.trans rfl) (step_reach_nil3 hi h55 H)
  | some k =>
    subst ha
    obtain ⟨o, ho, hw, hto⟩ := inv.now 3 k rfl
    obtain ⟨x, hx, rfl⟩ := mo_at hmo ho
    obtain ⟨g1, g2, g3, g4, g5, g6, g7⟩ := inv.old k _ ho
    have hmk := mk_small g7 h5
    by_cases hs : i ∈ x.o.seen
    · exact StepsR.same hmo (hst.trans (reachR_seen rfl ho hs)) (step_reach_seen3 hx hs hmk hi h55 H)
    · have e2 := hst.trans (reachR_eq rfl ho hs)
      refine (step_reach_go3 hx hw hs hmk (by omega) (by omega) (fun q hq => by obtain ⟨j, hj⟩ := List.getElem?_of_mem hq; have := inv.cs j q hj; omega) hi h55 H).mono fun e w' ⟨v, l, he, ⟨hv, hl⟩, H'⟩ => ⟨v, l, he, ⟨ov, mo.set k ⟨x.b, x.b2, if 2 * (x.o.many + 1) ≤ cs.length then seeR cs i x.o else turnO (seeR cs i x.o) m⟩, by rw [e2]; exact hv, by rw [e2, List.map_set, hmo], ?_⟩, H'⟩
      rw [e2, hl, hw]
      rfl
theorem step_any {W w : World} {S m n : Nat} {s : RS} {cv ov : Value} {mo : List Om} {R : Hp} (c : Cl) (inv : InvR n m s) (hmo : mo.map Om.o = s.ops) (h1 : 1 ≤ n) (h5 : n ≤ 5) (hm : m ≤ 900) (H : Sat W w (regP S s.now cv ov s.cs mo * R)) : StepsR S m s cv c W w R := by
  obtain ⟨cs, ops, now⟩ := s
  have hnl := inv.nlen
  have hlen : cs.length = n := inv.len
  match now, hnl with
  | [a0, a1, a2, a3], _ =>
  dsimp only at H hmo
  obtain ⟨kd, who, loc, src, wr, val⟩ := c
  by_cases hk : kd < 1 ∨ 3 < kd
  · exact StepsR.same hmo (by unfold stepR; rw [if_pos hk]) (step_kind hk H)
  · by_cases ha : (kd ≠ 3 ∧ (who < 0 ∨ 4 ≤ who)) ∨ (kd ≠ 1 ∧ (loc < 0 ∨ (cs.length : Int) ≤ loc))
    · exact StepsR.same hmo (by unfold stepR; rw [if_neg hk, if_pos ha]) (step_arg hk ha H)
    · rcases (show kd = 1 ∨ kd = 2 ∨ kd = 3 by omega) with rfl | rfl | rfl
      · rcases (show who = 0 ∨ who = 1 ∨ who = 2 ∨ who = 3 by omega) with rfl | rfl | rfl | rfl
        · exact stepB0 inv hmo hm H
        · exact stepB1 inv hmo hm H
        · exact stepB2 inv hmo hm H
        · exact stepB3 inv hmo hm H
      · obtain ⟨i, rfl⟩ := Int.eq_ofNat_of_zero_le (show 0 ≤ loc by omega)
        rcases (show who = 0 ∨ who = 1 ∨ who = 2 ∨ who = 3 by omega) with rfl | rfl | rfl | rfl
        · exact stepC0 inv hmo hm h1 h5 (by omega) H
        · exact stepC1 inv hmo hm h1 h5 (by omega) H
        · exact stepC2 inv hmo hm h1 h5 (by omega) H
        · exact stepC3 inv hmo hm h1 h5 (by omega) H
      · obtain ⟨i, rfl⟩ := Int.eq_ofNat_of_zero_le (show 0 ≤ loc by omega)
        have hi : i < cs.length := by omega
        have hml : mo.length = ops.length := by rw [← hmo, List.length_map]
        have hst := step3 (s := ⟨cs, ops, [a0, a1, a2, a3]⟩) (who := who) (loc := i) (src := src) (val := val) (wr := wr) (m := m) (by omega) (by dsimp only; omega)
        rw [Int.toNat_natCast] at hst
        by_cases hsr : src < 0 ∨ (mo.length : Int) ≤ src
        · refine StepsR.same hmo (hst.trans ?_) (late_out hi hsr H)
          unfold lateR
          by_cases h0 : src < 0
          · rw [if_pos h0]
          · rw [if_neg h0]; dsimp only
            rw [List.getElem?_eq_none (by omega)]
        · obtain ⟨k, rfl⟩ := Int.eq_ofNat_of_zero_le (show 0 ≤ src by omega)
          obtain ⟨x, hx⟩ := get_of_lt (xs := mo) (k := k) (by omega)
          have ho : ops[k]? = some x.o := by rw [← hmo, List.getElem?_map, hx]; rfl
          have hl : lateR ⟨cs, ops, [a0, a1, a2, a3]⟩ i (k : Int) = if x.o.sec = true then (0, ⟨storeR cs i x.o.best, ops, [a0, a1, a2, a3]⟩) else (2, ⟨cs, ops, [a0, a1, a2, a3]⟩) := by
            unfold lateR
            rw [if_neg (by omega), Int.toNat_natCast]; dsimp only
            rw [ho]
          cases hs : x.o.sec
          · rw [hs] at hl
            exact StepsR.same hmo (hst.trans (hl.trans (if_neg (by decide)))) (late_no hx hi hs H)
          · rw [hs, if_pos rfl] at hl
            have e2 := hst.trans hl
            exact (late_yes hx hi hs H).mono fun e w' ⟨v, l, he, ⟨hv, hl'⟩, H'⟩ => ⟨v, l, he, ⟨ov, mo, by rw [e2]; exact hv, by rw [e2]; exact hmo, by rw [e2]; exact hl'⟩, H'⟩
def regH (S : Nat) (cv : Value) (s : RS) : Hp := Hp.ex fun q : Value × List Om => Hp.pure (q.2.map Om.o = s.ops) * regP S s.now cv q.1 s.cs q.2
theorem regH.open_ {W w : World} {S : Nat} {cv : Value} {s : RS} {R : Hp} (H : Sat W w (regH S cv s * R)) : ∃ ov mo, mo.map Om.o = s.ops ∧ Sat W w (regP S s.now cv ov s.cs mo * R) := by
  obtain ⟨⟨ov, mo⟩, H⟩ := H.ex
  obtain ⟨h1, H⟩ := (H.cast (Hp.mul_assoc ..)).pure
  exact ⟨ov, mo, h1, H⟩
theorem regH.shut {W w : World} {S : Nat} {cv ov : Value} {s : RS} {mo : List Om} {R : Hp} (h : mo.map Om.o = s.ops) (H : Sat W w (regP S s.now cv ov s.cs mo * R)) : Sat W w (regH S cv s * R) :=
  Sat.exI (p := fun q : Value × List Om => Hp.pure (q.2.map Om.o = s.ops) * regP S s.now cv q.1 s.cs q.2) (ov, mo) ((Sat.pureI h H).cast (Hp.mul_assoc ..).symm)
theorem step_H {W w : World} {S m n : Nat} {s : RS} {cv : Value} {R : Hp} (c : Cl) (inv : InvR n m s) (h1 : 1 ≤ n) (h5 : n ≤ 5) (hm : m ≤ 900) (H : Sat W w (regH S cv s * R)) :
    Calls Try.prog 11 #[ptr S 0, clV c, .int .i64 ((m : Nat) : Int)] w (Ret W fun v l => v = .int .i64 (stepR s c m).1 ∧ sep l = regH S cv (stepR s c m).2 * R) := by
  obtain ⟨ov, mo, hmo, H⟩ := regH.open_ H
  refine (step_any c inv hmo h1 h5 hm H).mono fun e w' ⟨v, l, he, ⟨ov', mo', hv, hmo', hl⟩, H'⟩ => ⟨v, [regH S cv (stepR s c m).2, R], he, ⟨hv, sep1 _ _⟩, (regH.shut hmo' (H'.cast hl)).cast (sep1 _ _).symm⟩
end Go.Proofs.Ytjiefamdpbnngaa
