/- All the money; a step of the machine. No condition. -/
import Derived.Test.YtanipkddfngnnaaA3
namespace Go.Proofs.Ytanipkddfngnnaa
open Go.RowKit
set_option linter.unusedVariables false
set_option linter.unusedSimpArgs false
set_option maxRecDepth 100000

/-! sums -/
def sum1 (f : Nat → Int) : Nat → Int
  | 0 => 0
  | n + 1 => sum1 f n + f n
theorem sum1_congr {f g : Nat → Int} : ∀ {n : Nat}, (∀ i, i < n → f i = g i) → sum1 f n = sum1 g n
  | 0, _ => rfl
  | n + 1, h => by simp only [sum1]; rw [sum1_congr fun i hi => h i (by omega), h n (by omega)]
theorem sum1_upd {f g : Nat → Int} {a : Nat} : ∀ {n : Nat}, a < n → (∀ i, i < n → i ≠ a → g i = f i) → sum1 g n + f a = sum1 f n + g a
  | 0, h, _ => by omega
  | n + 1, h, hg => by
    simp only [sum1]
    by_cases e : a = n
    · subst e; rw [sum1_congr (f := g) (g := f) fun i hi => hg i (by omega) (by omega)]; omega
    · have := sum1_upd (f := f) (g := g) (a := a) (n := n) (by omega) fun i hi hne => hg i (by omega) hne
      rw [hg n (by omega) (fun h => e h.symm)]; omega
theorem sum1_nn {f : Nat → Int} : ∀ {n : Nat}, (∀ i, i < n → 0 ≤ f i) → 0 ≤ sum1 f n
  | 0, _ => Int.le_refl 0
  | n + 1, h => by have := sum1_nn (n := n) fun i hi => h i (by omega); have := h n (by omega); simp only [sum1]; omega
theorem sum1_ge {f : Nat → Int} {a : Nat} : ∀ {n : Nat}, a < n → (∀ i, i < n → 0 ≤ f i) → f a ≤ sum1 f n
  | 0, h, _ => by omega
  | n + 1, h, hf => by
    simp only [sum1]
    by_cases e : a = n
    · subst e; have := sum1_nn (n := a) fun i hi => hf i (by omega); omega
    · have := sum1_ge (n := n) (a := a) (by omega) fun i hi => hf i (by omega); have := hf n (by omega); omega
def sumP (n : Nat) (f : Sm × Sm → Int) : Int := sum1 (fun i => sum1 (fun j => f (smN i, smN j)) n) n
theorem sumP_congr {n : Nat} {f g : Sm × Sm → Int} (h : ∀ i j, i < n → j < n → f (smN i, smN j) = g (smN i, smN j)) : sumP n f = sumP n g :=
  sum1_congr fun i hi => sum1_congr fun j hj => h i j hi hj
theorem smN_inj {i j : Nat} (hi : i < 2048) (hj : j < 2048) (h : smN i = smN j) : i = j := by
  have := congrArg Fin.val h
  rwa [smN_val hi, smN_val hj] at this
theorem pair_ne {i j a b : Nat} (hi : i < 2048) (hj : j < 2048) (ha : a < 2048) (hb : b < 2048) (h : ¬ (i = a ∧ j = b)) : (smN i, smN j) ≠ (smN a, smN b) := fun e => by
  have := Prod.ext_iff.1 e
  exact h ⟨smN_inj hi ha this.1, smN_inj hj hb this.2⟩
theorem sumP_up {n a b : Nat} (hn : n ≤ 6) (ha : a < n) (hb : b < n) {w : Wy} {x : Wm} (g : Wm → Int) :
    sumP n (fun k => g (upW w (smN a, smN b) x k)) + g (w (smN a, smN b)) = sumP n (fun k => g (w k)) + g x := by
  show sum1 (fun i => sum1 (fun j => g (upW w (smN a, smN b) x (smN i, smN j))) n) n + _ = sum1 (fun i => sum1 (fun j => g (w (smN i, smN j))) n) n + _
  have h1 := sum1_upd (f := fun i => sum1 (fun j => g (w (smN i, smN j))) n) (g := fun i => sum1 (fun j => g (upW w (smN a, smN b) x (smN i, smN j))) n) ha fun i hi hne => sum1_congr fun j hj => by
    show g (upW w (smN a, smN b) x (smN i, smN j)) = _
    unfold upW; rw [if_neg (pair_ne (by omega) (by omega) (by omega) (by omega) fun e => hne e.1)]
  have h2 := sum1_upd (f := fun j => g (w (smN a, smN j))) (g := fun j => g (upW w (smN a, smN b) x (smN a, smN j))) hb fun j hj hne => by
    show g (upW w (smN a, smN b) x (smN a, smN j)) = _
    unfold upW; rw [if_neg (pair_ne (by omega) (by omega) (by omega) (by omega) fun e => hne e.2)]
  have h3 : upW w (smN a, smN b) x (smN a, smN b) = x := if_pos rfl
  try dsimp only at h1 h2
  rw [h3] at h2
  omega
theorem sumP_nn {n : Nat} {f : Sm × Sm → Int} (h : ∀ a, 0 ≤ f a) : 0 ≤ sumP n f := sum1_nn fun i _ => sum1_nn fun j _ => h _
theorem sumP_ge {n a b : Nat} {f : Sm × Sm → Int} (ha : a < n) (hb : b < n) (h : ∀ a, 0 ≤ f a) : f (smN a, smN b) ≤ sumP n f :=
  Int.le_trans (sum1_ge (f := fun j => f (smN a, smN j)) hb fun j _ => h _) (sum1_ge (f := fun i => sum1 (fun j => f (smN i, smN j)) n) ha fun i _ => sum1_nn fun j _ => h _)
def lsum (l : List Int) : Int := l.sum
theorem lsum_app (l l' : List Int) : lsum (l ++ l') = lsum l + lsum l' := by unfold lsum; rw [List.sum_append]
theorem lsum_set {f : Pr → Int} : ∀ {l : List Pr} {i : Nat} {p p' : Pr}, l[i]? = some p → lsum ((l.set i p').map f) + f p = lsum (l.map f) + f p'
  | [], i, p, p', h => by simp at h
  | a :: l, 0, p, p', h => by simp at h; subst h; simp [lsum]; omega
  | a :: l, i + 1, p, p', h => by
    have := lsum_set (l := l) (i := i) (f := f) (p' := p') (by simpa using h)
    simp only [lsum, List.set_cons_succ, List.map_cons, List.sum_cons] at this ⊢; omega
theorem lsum_nn {f : Pr → Int} : ∀ {l : List Pr}, (∀ p ∈ l, 0 ≤ f p) → 0 ≤ lsum (l.map f)
  | [], _ => Int.le_refl 0
  | a :: l, h => by have := lsum_nn (l := l) (f := f) fun p hp => h p (by simp [hp]); have := h a (by simp); simp only [lsum, List.map_cons, List.sum_cons] at this ⊢; unfold lsum at *; omega
theorem lsum_ge {f : Pr → Int} {p : Pr} : ∀ {l : List Pr}, p ∈ l → (∀ p ∈ l, 0 ≤ f p) → f p ≤ lsum (l.map f)
  | a :: l, hp, h => by
    have h1 := lsum_nn (l := l) (f := f) fun p hp => h p (by simp [hp])
    have h2 := h a (by simp)
    have e : lsum ((a :: l).map f) = f a + lsum (l.map f) := by simp [lsum]
    rw [e]
    rcases List.mem_cons.1 hp with rfl | hp
    · omega
    · have := lsum_ge hp fun p hp => h p (by simp [hp]); omega
def qs (l : List Int) : Int := (l.map fun x => if x = -1 then 0 else x).sum
theorem qs_app (l l' : List Int) : qs (l ++ l') = qs l + qs l' := by unfold qs; rw [List.map_append, List.sum_append]
theorem qs_cons (x : Int) (l : List Int) : qs (x :: l) = (if x = -1 then 0 else x) + qs l := by simp [qs]
theorem qs_nn : ∀ {l : List Int}, (∀ x ∈ l, -1 ≤ x) → 0 ≤ qs l
  | [], _ => Int.le_refl 0
  | x :: l, h => by
    have := qs_nn (l := l) fun y hy => h y (by simp [hy])
    have := h x (by simp)
    rw [qs_cons]; split <;> omega
def totS (n : Nat) (s : SS) : Int := lsum (s.ps.map Pr.mo) + sumP n (fun a => qs (s.w a).q)
structure BdS (m : Nat) (M : Int) (n : Nat) (s : SS) : Prop where
  len : s.ps.length = n
  mo : ∀ p ∈ s.ps, 0 ≤ p.mo
  q : ∀ a, (s.w a).q.length ≤ m ∧ (s.w a).nt.length ≤ m
  v : ∀ a, ∀ x ∈ (s.w a).q, -1 ≤ x
  tot : totS n s = M
theorem sumP_zero (n : Nat) : sumP n (fun _ => 0) = 0 := by
  have h0 : ∀ n, sum1 (fun _ => 0) n = 0 := fun n => by induction n with | zero => rfl | succ n ih => simp [sum1, ih]
  show sum1 (fun _ => sum1 (fun _ => 0) n) n = 0
  rw [h0 n]; exact h0 n
theorem BdS.zero {money : List Int} (h : ∀ x ∈ money, 0 ≤ x) : BdS 0 (lsum money) money.length (ss0 money) := by
  refine ⟨by simp [ss0], fun p hp => ?_, fun a => ⟨Nat.le_refl _, Nat.le_refl _⟩, fun a x hx => by simp [ss0] at hx, ?_⟩
  · simp only [ss0, List.mem_map] at hp; obtain ⟨x, hx, rfl⟩ := hp; exact h x hx
  · unfold totS ss0
    rw [List.map_map, show (Pr.mo ∘ fun x : Int => (⟨x, -1⟩ : Pr)) = id from rfl, List.map_id, show (fun a : Sm × Sm => qs ([] : List Int)) = fun _ => 0 from rfl, sumP_zero]; omega
theorem BdS.mono {m m' n : Nat} {M : Int} {s : SS} (h : BdS m M n s) (hm : m ≤ m') : BdS m' M n s :=
  ⟨h.len, h.mo, fun a => ⟨Nat.le_trans (h.q a).1 hm, Nat.le_trans (h.q a).2 hm⟩, h.v, h.tot⟩
theorem BdS.mo_le {m n : Nat} {M : Int} {s : SS} (h : BdS m M n s) {p : Pr} (hp : p ∈ s.ps) : p.mo ≤ M := by
  have h1 := lsum_ge hp h.mo
  have h2 := sumP_nn (n := n) (f := fun a => qs (s.w a).q) fun a => qs_nn (h.v a)
  have h3 := h.tot; unfold totS at h3; omega
theorem BdS.q_le {m n a b : Nat} {M : Int} {s : SS} (h : BdS m M n s) (ha : a < n) (hb : b < n) {x : Int} {l : List Int} (hq : (s.w (smN a, smN b)).q = x :: l) : x ≤ M := by
  have h1 := lsum_nn h.mo
  have h2 := sumP_ge (f := fun a => qs (s.w a).q) ha hb fun a => qs_nn (h.v a)
  have h3 := h.tot; unfold totS at h3
  have h4 := h.v (smN a, smN b)
  rw [hq] at h4
  try dsimp only at h2
  rw [hq, qs_cons] at h2
  have h5 := qs_nn (l := l) fun y hy => h4 y (by simp [hy])
  split at h2 <;> omega
theorem note_way (s : SS) (i : Nat) (a : Sm × Sm) : (noteS s i).w a = s.w a ∨ (noteS s i).w a = ⟨(s.w a).q ++ [-1], (s.w a).nt, (s.w a).cl⟩ := by
  unfold noteS
  split
  · split
    · show markW s.w i a = _ ∨ markW s.w i a = _
      unfold markW; split
      · exact .inr rfl
      · exact .inl rfl
    · exact .inl rfl
  · exact .inl rfl
theorem set_casesP {l : List Pr} {i : Nat} {x y : Pr} (h : y ∈ l.set i x) : y = x ∨ y ∈ l := by
  obtain ⟨j, hj⟩ := List.getElem?_of_mem h
  by_cases e : i = j
  · subst e
    have hl := (List.getElem?_eq_some_iff.1 hj).1
    rw [List.length_set] at hl
    rw [List.getElem?_set_self hl] at hj; exact .inl (Option.some.inj hj).symm
  · rw [List.getElem?_set_ne e] at hj; exact .inr (List.mem_of_getElem? hj)
theorem BdS.note {m n i : Nat} {M : Int} {s : SS} (h : BdS m M n s) : BdS (m + 1) M n (noteS s i) := by
  unfold noteS
  split
  · rename_i p hp
    split
    · refine ⟨by show (s.ps.set i _).length = n; rw [List.length_set]; exact h.len, fun y hy => ?_, fun a => ?_, fun a x hx => ?_, ?_⟩
      · rcases set_casesP hy with rfl | hy
        · exact h.mo p (List.mem_of_getElem? hp)
        · exact h.mo y hy
      · have := h.q a
        show (markW s.w i a).q.length ≤ m + 1 ∧ (markW s.w i a).nt.length ≤ m + 1
        unfold markW; split
        · exact ⟨by simp; omega, Nat.le_succ_of_le this.2⟩
        · exact ⟨by omega, by omega⟩
      · have hx : x ∈ (markW s.w i a).q := hx
        unfold markW at hx; split at hx
        · rcases List.mem_append.1 hx with g | g
          · exact h.v a x g
          · simp at g; omega
        · exact h.v a x hx
      · have h1 := lsum_set (f := Pr.mo) (p' := { p with ow := p.mo }) hp
        have h2 : sumP n (fun a => qs (markW s.w i a).q) = sumP n (fun a => qs (s.w a).q) := sumP_congr fun a b _ _ => by
          unfold markW; split
          · rw [qs_app]; show _ + qs [-1] = _; rw [show qs [-1] = 0 from rfl]; omega
          · rfl
        have h3 := h.tot
        unfold totS at h3 ⊢
        dsimp only at h1 ⊢; omega
    · exact h.mono (Nat.le_succ _)
  · exact h.mono (Nat.le_succ _)
theorem BdS.way {m n a b : Nat} {M M' : Int} {s : SS} {x : Wm} (h : BdS m M n s) (hn : n ≤ 6) (ha : a < n) (hb : b < n) (h1 : x.q.length ≤ m ∧ x.nt.length ≤ m) (h2 : ∀ y ∈ x.q, -1 ≤ y) (h3 : M' + qs (s.w (smN a, smN b)).q = M + qs x.q) : BdS m M' n ⟨s.ps, upW s.w (smN a, smN b) x⟩ := by
  refine ⟨h.len, h.mo, fun k => ?_, fun k y hy => ?_, ?_⟩
  · unfold upW; dsimp only; split
    · exact h1
    · exact h.q k
  · have hy : y ∈ (upW s.w (smN a, smN b) x k).q := hy
    unfold upW at hy; split at hy
    · exact h2 y hy
    · exact h.v k y hy
  · have h4 := sumP_up hn ha hb (w := s.w) (x := x) fun z => qs z.q
    have h5 := h.tot
    unfold totS at h5 ⊢
    dsimp only at h4 ⊢; omega
theorem BdS.pay {m n i : Nat} {M : Int} {s : SS} {p p' : Pr} (h : BdS m M n s) (hp : s.ps[i]? = some p) (h0 : 0 ≤ p'.mo) : BdS m (M + p'.mo - p.mo) n ⟨s.ps.set i p', s.w⟩ := by
  refine ⟨by show (s.ps.set i p').length = n; rw [List.length_set]; exact h.len, fun y hy => ?_, h.q, h.v, ?_⟩
  · rcases set_casesP hy with rfl | hy
    · exact h0
    · exact h.mo y hy
  · have h1 := lsum_set (f := Pr.mo) (p' := p') hp
    have h3 := h.tot
    unfold totS at h3 ⊢
    dsimp only at h1 ⊢; omega
theorem BdS.take {m n i f : Nat} {M : Int} {s : SS} (h : BdS m M n s) (hn : n ≤ 6) (hi : i < n) (hf : f < n) : BdS (m + 2) M n (takeS s i f).2 := by
  unfold takeS
  split
  · exact h.mono (by omega)
  · rename_i x l hq
    split
    · exact h.mono (by omega)
    · rename_i p hp
      have hl := h.q (smN f, smN i)
      have hv := h.v (smN f, smN i)
      rw [hq] at hl hv
      have hll : l.length ≤ m := by have := hl.1; simp at this; omega
      have hlv : ∀ y ∈ l, -1 ≤ y := fun y hy => hv y (by simp [hy])
      split
      · rename_i hx
        have h1 := (h.way (x := { s.w (smN f, smN i) with q := l }) hn hf hi ⟨hll, hl.2⟩ hlv (M' := M) (by rw [hq, qs_cons, if_pos hx]; dsimp only; omega)).note (i := i)
        have h2 := (h1.mono (Nat.le_succ _)).way (x := ⟨l, (s.w (smN f, smN i)).nt, true⟩) hn hf hi ⟨by dsimp only; omega, by dsimp only; omega⟩ hlv (M' := M + qs l - qs ((noteS ⟨s.ps, upW s.w (smN f, smN i) { s.w (smN f, smN i) with q := l }⟩ i).w (smN f, smN i)).q) (by dsimp only; omega)
        refine ⟨h2.len, h2.mo, h2.q, h2.v, h2.tot.trans ?_⟩
        have : qs ((noteS ⟨s.ps, upW s.w (smN f, smN i) { s.w (smN f, smN i) with q := l }⟩ i).w (smN f, smN i)).q = qs l := by
          have h0 : (upW s.w (smN f, smN i) { s.w (smN f, smN i) with q := l }) (smN f, smN i) = { s.w (smN f, smN i) with q := l } := if_pos rfl
          rcases note_way ⟨s.ps, upW s.w (smN f, smN i) { s.w (smN f, smN i) with q := l }⟩ i (smN f, smN i) with e | e
          · rw [e]; dsimp only; rw [h0]
          · rw [e]; dsimp only; rw [h0, qs_app]; show _ + qs [-1] = _; rw [show qs [-1] = 0 from rfl]; dsimp only; omega
        omega
      · rename_i hx
        have hx0 := hv x (by simp)
        have hm := h.mo p (List.mem_of_getElem? hp)
        have h1 := ((h.mono (Nat.le_add_right m 2)).pay (p' := { p with mo := p.mo + x }) hp (by dsimp only; omega))
        have h2 := h1.way (x := ⟨l, if p.ow ≠ -1 ∧ (s.w (smN f, smN i)).cl = false then (s.w (smN f, smN i)).nt ++ [x] else (s.w (smN f, smN i)).nt, (s.w (smN f, smN i)).cl⟩) hn hf hi ⟨by dsimp only; omega, by dsimp only; split <;> (try simp) <;> omega⟩ hlv (M' := M) (by dsimp only; rw [hq, qs_cons, if_neg hx]; omega)
        exact h2
theorem BdS.send {m n i j : Nat} {M : Int} {s : SS} (nn : Int) (h : BdS m M n s) (hn : n ≤ 6) (hi : i < n) (hj : j < n) : BdS (m + 2) M n (sendS s i j nn).2 := by
  unfold sendS
  split
  · exact h.mono (by omega)
  · rename_i p hp
    split
    · exact h.mono (by omega)
    · have hl := h.q (smN i, smN j)
      have h1 := ((h.mono (Nat.le_add_right m 2)).pay (p' := { p with mo := p.mo - nn }) hp (by dsimp only; omega))
      exact h1.way (x := { s.w (smN i, smN j) with q := (s.w (smN i, smN j)).q ++ [nn] }) hn hi hj ⟨by simp; omega, by dsimp only; omega⟩ (fun y hy => by rcases List.mem_append.1 hy with g | g; (exact h.v _ y g); (simp at g; omega)) (M' := M) (by dsimp only; rw [qs_app]; show _ = _ + (_ + qs [nn]); rw [show qs [nn] = nn from by rw [qs_cons, if_neg (by omega)]; show nn + 0 = nn; omega]; omega)
theorem BdS.step {m n : Nat} {M : Int} {s : SS} (h : BdS m M n s) (hn : n ≤ 6) (c : Mv) : BdS (m + 2) M n (stepS s c).2 := by
  unfold stepS
  split
  · exact h.mono (by omega)
  · split
    · exact h.mono (by omega)
    · rename_i h2
      have h6 : isN s.ps.length c.who = true := by
        cases e : isN s.ps.length c.who
        · exact absurd e h2
        · rfl
      obtain ⟨i, e1, e2⟩ := isN_yes h6
      rw [h.len] at e2
      split
      · split
        · split
          · exact (h.note).mono (by omega)
          · exact h.mono (by omega)
        · exact h.mono (by omega)
      · split
        · exact h.mono (by omega)
        · rename_i h3
          have h5 : isN s.ps.length c.oth = true := by
            cases e : isN s.ps.length c.oth
            · exact absurd (.inl e) h3
            · rfl
          obtain ⟨j, e3, e4⟩ := isN_yes h5
          rw [h.len] at e4
          rw [e1, e3, Int.toNat_natCast, Int.toNat_natCast]
          split
          · exact h.take hn e2 e4
          · exact h.send c.n hn e2 e4
theorem BdS.run {n : Nat} {M : Int} (hn : n ≤ 6) : ∀ (l : List Mv) {m : Nat} {s : SS}, BdS m M n s → BdS (m + 2 * l.length) M n (stS s l)
  | [], m, s, h => h
  | c :: l, m, s, h => (BdS.run hn l (h.step hn c)).mono (by simp; omega)
abbrev mvV (c : Mv) : Value := .agg #[.int .i64 c.kind, .int .i64 c.who, .int .i64 c.oth, .int .i64 c.n]
theorem steps_to {W w : World} {S n : Nat} {s s2 : SS} {c : Mv} {z : Int} {R : Hp} (h : stepS s c = (z, s2)) (H : Calls Try.prog 12 #[ptr S 0, mvV c] w (Ret W fun v l => v = .int .i64 z ∧ sep l = worldH S n s2 * R)) :
    Calls Try.prog 12 #[ptr S 0, mvV c] w (Ret W fun v l => v = .int .i64 (stepS s c).1 ∧ sep l = worldH S n (stepS s c).2 * R) := by rw [h]; exact H
theorem step_any {W w : World} {S m n : Nat} {M : Int} {s : SS} {R : Hp} (c : Mv) (hb : BdS m M n s) (hn : n ≤ 6) (hm : m ≤ 1000) (hM : M ≤ 100000) (H : Sat W w (worldH S n s * R)) :
    Calls Try.prog 12 #[ptr S 0, mvV c] w (Ret W fun v l => v = .int .i64 (stepS s c).1 ∧ sep l = worldH S n (stepS s c).2 * R) := by
  have hln := hb.len
  have hq : ∀ a, (s.w a).q.length ≤ 10000 := fun a => by have := (hb.q a).1; omega
  have hnt : ∀ a, (s.w a).nt.length ≤ 10000 := fun a => by have := (hb.q a).2; omega
  obtain ⟨kd, x, o, nn⟩ := c
  by_cases hk : kd < 1 ∨ 3 < kd
  · exact steps_to (by unfold stepS; rw [if_pos hk]) (step_kind hk H)
  by_cases hw : isN s.ps.length x = false
  · exact steps_to (by unfold stepS; rw [if_neg hk, if_pos hw]) (step_who hk hw H)
  have hx : isN s.ps.length x = true := by
    cases e : isN s.ps.length x
    · exact absurd e hw
    · rfl
  obtain ⟨i, rfl, hi⟩ := isN_yes hx
  obtain ⟨p, hp⟩ := get_of_lt (xs := s.ps) hi
  have hmo := hb.mo p (List.mem_of_getElem? hp)
  have hml := hb.mo_le (List.mem_of_getElem? hp)
  by_cases h3 : kd = 3
  · subst h3
    by_cases ho : p.ow = -1
    · exact steps_to (by unfold stepS; rw [if_neg hk, if_neg hw, if_pos rfl]; dsimp only; rw [Int.toNat_natCast, hp]; dsimp only; rw [if_pos ho]) (step_begin hp (by omega) hq ho H)
    · exact steps_to (by unfold stepS; rw [if_neg hk, if_neg hw, if_pos rfl]; dsimp only; rw [Int.toNat_natCast, hp]; dsimp only; rw [if_neg ho]) (step_held hp (by omega) hq ho H)
  by_cases ho : isN s.ps.length o = false ∨ o = ((i : Nat) : Int)
  · have hst : stepS s ⟨kd, i, o, nn⟩ = (2, s) := by unfold stepS; rw [if_neg hk, if_neg hw, if_neg h3, if_pos ho]
    rcases (show kd = 1 ∨ kd = 2 by omega) with rfl | rfl
    · exact steps_to hst (step_other1 hp (by omega) ho H)
    · exact steps_to hst (step_other2 hp (by omega) ho H)
  have hy : isN s.ps.length o = true := by
    cases e : isN s.ps.length o
    · exact absurd (.inl e) ho
    · rfl
  obtain ⟨j, rfl, hj⟩ := isN_yes hy
  have hne : j ≠ i := fun e => ho (.inr (by rw [e]))
  obtain ⟨ik, hik⟩ : ∃ ik : Sm, ik.val = i := ⟨smN i, smN_val (by omega)⟩
  obtain ⟨jk, hjk⟩ : ∃ jk : Sm, jk.val = j := ⟨smN j, smN_val (by omega)⟩
  subst hik hjk
  have e1 := smN_self ik
  have e2 := smN_self jk
  have hnk : jk ≠ ik := fun e => hne (congrArg Fin.val e)
  rcases (show kd = 1 ∨ kd = 2 by omega) with rfl | rfl
  · have hst : stepS s ⟨1, ik.val, jk.val, nn⟩ = sendS s ik.val jk.val nn := by unfold stepS; rw [if_neg hk, if_neg hw, if_neg h3, if_neg ho, if_neg (show ¬ ((1 : Int) = 2) by decide)]; dsimp only; rw [Int.toNat_natCast, Int.toNat_natCast]
    by_cases hc : nn < 1 ∨ p.mo < nn
    · exact steps_to (hst.trans (by unfold sendS; rw [hp]; dsimp only; rw [if_pos hc])) (step_sendno hp (by omega) hln.symm hj hnk hq hmo (by omega) hc H)
    · refine steps_to (z := 0) (hst.trans (Prod.ext (by unfold sendS; rw [hp]; dsimp only; rw [if_neg hc]) rfl)) (step_send hp (by omega) hln.symm hj hnk hq hmo (by omega) hc H)
  · have hst : stepS s ⟨2, ik.val, jk.val, nn⟩ = takeS s ik.val jk.val := by unfold stepS; rw [if_neg hk, if_neg hw, if_neg h3, if_neg ho, if_pos rfl]; dsimp only; rw [Int.toNat_natCast, Int.toNat_natCast]
    cases hq0 : (s.w (jk, ik)).q with
    | nil =>
      exact steps_to (z := 5) (s2 := (takeS s ik.val jk.val).2) (hst.trans (Prod.ext (by unfold takeS; rw [e1, e2, hq0]) rfl)) (step_take hp (by omega) hj hne (fun H => take_none hp (by omega) (by omega) (by omega) hnk hq hnt hq0 H) H)
    | cons y lr =>
      have hy1 : y ≤ M := hb.q_le (a := jk.val) (b := ik.val) (by omega) (by omega) (by rw [e1, e2]; exact hq0)
      have hy0 : -1 ≤ y := hb.v (jk, ik) y (by rw [hq0]; simp)
      have hc : (takeS s ik.val jk.val).1 = 0 := by
        unfold takeS; rw [e1, e2, hq0]; dsimp only; rw [hp]; dsimp only
        split <;> rfl
      by_cases h0 : y = -1
      · exact steps_to (z := 0) (hst.trans (Prod.ext hc rfl)) (step_take hp (by omega) hj hne (fun H => take_mark hp (by omega) (by omega) (by omega) hnk hq hnt hq0 h0 H) H)
      · exact steps_to (z := 0) (hst.trans (Prod.ext hc rfl)) (step_take hp (by omega) hj hne (fun H => take_money hp (by omega) (by omega) (by omega) hnk hq hnt hq0 h0 hmo (by omega) hy0 (by omega) H) H)
end Go.Proofs.Ytanipkddfngnnaa
