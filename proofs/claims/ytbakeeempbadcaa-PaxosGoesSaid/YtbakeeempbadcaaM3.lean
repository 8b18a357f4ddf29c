/- Paxos in plain words: a ballot above all others goes. -/
import Derived.Test.YtbakeeempbadcaaM2
namespace Go.Proofs.Ytbakeeempbadcaa
set_option linter.unusedVariables false

/-- what has begun came in; what is promised has begun -/
structure Came (xs : List Tr) (s : St) : Prop where
  bs : ∀ (k : Int) (b : Bl), getM s.bs k = some b → k ≤ 1000 ∧ ∃ t ∈ xs, t.ballot = k
  pm : ∀ (i : Nat) (v : Vt), s.vs[i]? = some v → v.pm = 0 ∨ ∃ b : Bl, getM s.bs v.pm = some b

theorem Came.start (n : Nat) : Came [] (s0 n) := ⟨fun k b h => by simp [s0, getM] at h, fun i v h => by
  simp only [s0, List.getElem?_replicate] at h
  split at h
  · cases h; exact .inl rfl
  · cases h⟩

theorem Came.step {n : Nat} {xs : List Tr} {s : St} (h : Came xs s) (t : Tr) : Came (xs ++ [t]) (stepS s t).2 := by
  have up : ∀ k, (∃ u ∈ xs, u.ballot = k) → ∃ u ∈ xs ++ [t], u.ballot = k := fun k ⟨u, hu, e⟩ => ⟨u, List.mem_append_left _ hu, e⟩
  refine step_ways (n := n) (fun r => Came (xs ++ [t]) r.2) s t (fun _ _ => ⟨fun k b hb => ⟨(h.bs k b hb).1, up k (h.bs k b hb).2⟩, h.pm⟩) (fun h1 h2 _ hn => ⟨fun k b hb => ?_, fun i v hv => ?_⟩) (fun i v b _ _ hi hb hk => ⟨fun k c hc => ?_, fun i' u hu => ?_⟩) (fun i v b _ _ hi hb hk hf => ⟨fun k c hc => ?_, fun i' u hu => ?_⟩)
  · have hb : getM (s.bs ++ [(t.ballot, newB t.val)]) k = some b := hb
    rw [← putM_none hn, getM_put] at hb
    split at hb
    · rename_i e; exact ⟨by omega, t, by simp, e⟩
    · exact ⟨(h.bs k b hb).1, up k (h.bs k b hb).2⟩
  · rcases h.pm i v hv with h0 | ⟨b, h0⟩
    · exact .inl h0
    · refine .inr ⟨b, ?_⟩
      show getM (s.bs ++ [(t.ballot, newB t.val)]) v.pm = some b
      rw [← putM_none hn, getM_put, if_neg (fun e => by rw [e, h0] at hn; cases hn)]; exact h0
  · have hc : getM (putM s.bs t.ballot _) k = some c := hc
    rw [getM_put] at hc
    split at hc
    · rename_i e; subst e; exact ⟨(h.bs _ b hb).1, up _ (h.bs _ b hb).2⟩
    · exact ⟨(h.bs k c hc).1, up k (h.bs k c hc).2⟩
  · have key : ∀ k, (∃ b : Bl, getM s.bs k = some b) → ∃ b' : Bl, getM (putM s.bs t.ballot (if b.fx = true then b else askB s.vs.length t.ballot b v)) k = some b' := fun k ⟨c, hc⟩ => by
      rw [getM_put]; split; exact ⟨_, rfl⟩; exact ⟨c, hc⟩
    rcases getSet hu with ⟨_, rfl, _⟩ | ⟨_, hu⟩
    · exact .inr (key _ ⟨b, hb⟩)
    · rcases h.pm i' u hu with h0 | h0
      · exact .inl h0
      · exact .inr (key _ h0)
  · have hc : getM (putM s.bs t.ballot _) k = some c := hc
    rw [getM_put] at hc
    split at hc
    · rename_i e; subst e; exact ⟨(h.bs _ b hb).1, up _ (h.bs _ b hb).2⟩
    · exact ⟨(h.bs k c hc).1, up k (h.bs k c hc).2⟩
  · have key : ∀ k, (∃ b : Bl, getM s.bs k = some b) → ∃ b' : Bl, getM (putM s.bs t.ballot (takeB b i)) k = some b' := fun k ⟨c, hc⟩ => by
      rw [getM_put]; split; exact ⟨_, rfl⟩; exact ⟨c, hc⟩
    rcases getSet hu with ⟨_, rfl, _⟩ | ⟨_, hu⟩
    · exact .inr (key _ ⟨b, hb⟩)
    · rcases h.pm i' u hu with h0 | h0
      · exact .inl h0
      · exact .inr (key _ h0)

theorem Came.run {n : Nat} : ∀ (l ys : List Tr) {s : St}, Came ys s → Came (ys ++ l) (runS s l).1
  | [], ys, s, h => by rw [List.append_nil]; exact h
  | t :: l, ys, s, h => by
    have := Came.run (n := n) l (ys ++ [t]) (h.step (n := n) t)
    rw [List.append_assoc] at this
    exact this

theorem step_ask_eq {s : St} {t : Tr} {b : Bl} {v : Vt} {i : Nat} (hk : t.kind = 2) (h1 : 1 ≤ t.ballot) (h2 : t.ballot ≤ 1000) (hg : getM s.bs t.ballot = some b) (hw : t.who = i) (hv : s.vs[i]? = some v) :
    (stepS s t).2 = { s with vs := s.vs.set i (askS s.vs.length t.ballot v b s.fl).2.1, bs := putM s.bs t.ballot (askS s.vs.length t.ballot v b s.fl).2.2.1, fl := (askS s.vs.length t.ballot v b s.fl).2.2.2 } := by
  unfold stepS
  rw [if_neg (by omega), if_neg (by omega), hg]
  simp only []
  rw [if_neg (by omega), if_neg (by omega), show t.who.toNat = i by omega, hv]
  simp only []
  rw [if_pos hk]
theorem step_take_eq {s : St} {t : Tr} {b : Bl} {v : Vt} {i : Nat} (hk : t.kind = 3) (h1 : 1 ≤ t.ballot) (h2 : t.ballot ≤ 1000) (hg : getM s.bs t.ballot = some b) (hw : t.who = i) (hv : s.vs[i]? = some v) :
    (stepS s t).2 = { s with vs := s.vs.set i (takeS s.vs.length t.ballot i v b s.ch).2.1, bs := putM s.bs t.ballot (takeS s.vs.length t.ballot i v b s.ch).2.2.1, ch := (takeS s.vs.length t.ballot i v b s.ch).2.2.2 } := by
  unfold stepS
  rw [if_neg (by omega), if_neg (by omega), hg]
  simp only []
  rw [if_neg (by omega), if_neg (by omega), show t.who.toNat = i by omega, hv]
  simp only []
  rw [if_neg (by omega), hw]
theorem step_begin_eq {s : St} {t : Tr} (hk : t.kind = 1) (h1 : 1 ≤ t.ballot) (h2 : t.ballot ≤ 1000) (hg : getM s.bs t.ballot = none) : (stepS s t).2 = { s with bs := s.bs ++ [(t.ballot, newB t.val)] } := by
  unfold stepS
  rw [if_neg (by omega), if_neg (by omega), hg]
  simp only []
  rw [if_pos hk]

def askT (top : Int) (i : Nat) : Tr := ⟨2, top, i, 0⟩
def takeT (top : Int) (i : Nat) : Tr := ⟨3, top, i, 0⟩

structure Asked (n : Nat) (top : Int) (ch : List (Int × Int)) (i : Nat) (s : St) (b : Bl) : Prop where
  vl : s.vs.length = n
  get : getM s.bs top = some b
  yes : n < 2 * i → b.fx = true ∧ b.bn = top
  no : ¬ n < 2 * i → b.fx = false ∧ b.pr = i
  vs : ∀ (j : Nat) (v : Vt), s.vs[j]? = some v → (j < i → v.pm = top) ∧ (i ≤ j → v.pm < top)
  tk : b.tk = []
  ch : s.ch = ch

theorem Asked.step {n i : Nat} {top : Int} {ch : List (Int × Int)} {s : St} {b : Bl} (h : Asked n top ch i s b) (h1 : 1 ≤ top) (h2 : top ≤ 1000) (hi : i < n) : ∃ b', Asked n top ch (i + 1) (stepS s (askT top i)).2 b' := by
  obtain ⟨v, hv⟩ : ∃ v, s.vs[i]? = some v := ⟨_, List.getElem?_eq_getElem (by rw [h.vl]; exact hi)⟩
  have hpm := (h.vs i v hv).2 (Nat.le_refl _)
  have hb := h.get
  obtain ⟨t1, t2, t3, t4⟩ := best1_tk b v
  have hvs : ∀ (j : Nat) (u : Vt), (s.vs.set i { v with pm := top })[j]? = some u → (j < i + 1 → u.pm = top) ∧ (i + 1 ≤ j → u.pm < top) := fun j u hu => by
    rcases getSet hu with ⟨rfl, rfl, _⟩ | ⟨hne, hu⟩
    · exact ⟨fun _ => rfl, fun h => by omega⟩
    · obtain ⟨a1, a2⟩ := h.vs j u hu
      exact ⟨fun hj => a1 (by omega), fun hj => a2 (by omega)⟩
  rw [step_ask_eq (t := askT top i) rfl h1 h2 hb rfl hv]
  show ∃ b', Asked n top ch (i + 1) { s with vs := s.vs.set i (askS s.vs.length top v b s.fl).2.1, bs := putM s.bs top (askS s.vs.length top v b s.fl).2.2.1, fl := (askS s.vs.length top v b s.fl).2.2.2 } b'
  unfold askS
  rw [if_neg (by omega)]
  by_cases hf : b.fx = true
  · rw [if_pos hf]
    have hm : n < 2 * i := by
      by_cases hm : n < 2 * i
      · exact hm
      · have := (h.no hm).1; rw [hf] at this; cases this
    refine ⟨b, by simpa using h.vl, by show getM (putM s.bs top b) top = some b; rw [getM_put, if_pos rfl], fun _ => h.yes hm, fun h' => by omega, hvs, h.tk, h.ch⟩
  · rw [if_neg hf]
    have hm : ¬ n < 2 * i := fun hm => hf (h.yes hm).1
    obtain ⟨hfx, hpr⟩ := h.no hm
    refine ⟨askB s.vs.length top b v, by simpa using h.vl, by show getM (putM s.bs top _) top = _; rw [getM_put, if_pos rfl], fun h' => ?_, fun h' => ?_, hvs, ?_, h.ch⟩
    · unfold askB; rw [if_pos (by rw [h.vl, hpr]; exact h')]; exact ⟨rfl, rfl⟩
    · unfold askB; rw [if_neg (by rw [h.vl, hpr]; exact h')]
      exact ⟨by show (best1 b v).fx = false; rw [t2, hfx], by show b.pr + 1 = i + 1; omega⟩
    · have : (askB s.vs.length top b v).tk = (best1 b v).tk := by unfold askB; split <;> rfl
      rw [this, t1]; exact h.tk

theorem Asked.run {n : Nat} {top : Int} {ch : List (Int × Int)} (h1 : 1 ≤ top) (h2 : top ≤ 1000) {s : St} {b : Bl} (h : Asked n top ch 0 s b) : ∀ i, i ≤ n → ∃ b', Asked n top ch i (runS s ((List.range i).map (askT top))).1 b'
  | 0, _ => ⟨b, h⟩
  | i + 1, hi => by
    obtain ⟨b', h'⟩ := Asked.run h1 h2 h i (by omega)
    rw [List.range_succ, List.map_append, List.map_singleton, runS_snoc]
    exact h'.step h1 h2 (by omega)

structure Taken (n : Nat) (top V : Int) (ch : List (Int × Int)) (i : Nat) (s : St) (b : Bl) : Prop where
  vl : s.vs.length = n
  get : getM s.bs top = some b
  fx : b.fx = true ∧ b.bn = top ∧ b.bv = V
  vs : ∀ (j : Nat) (v : Vt), s.vs[j]? = some v → v.pm = top
  len : b.tk.length = i
  tk : ∀ p ∈ b.tk, p.1 < i
  ch : s.ch = if n < 2 * i then ch ++ [(top, V)] else ch

theorem Taken.step {n i : Nat} {top V : Int} {ch : List (Int × Int)} {s : St} {b : Bl} (h : Taken n top V ch i s b) (h1 : 1 ≤ top) (h2 : top ≤ 1000) (hi : i < n) : ∃ b', Taken n top V ch (i + 1) (stepS s (takeT top i)).2 b' := by
  obtain ⟨v, hv⟩ : ∃ v, s.vs[i]? = some v := ⟨_, List.getElem?_eq_getElem (by rw [h.vl]; exact hi)⟩
  have hpm := h.vs i v hv
  have hb := h.get
  obtain ⟨f1, f2, f3⟩ := h.fx
  have hnew : getM b.tk (i : Int) = none := getM_none.2 fun p hp e => by have := h.tk p hp; omega
  have hlen : (putM b.tk (i : Int) 1).length = i + 1 := by rw [putM_length, hnew]; simp [h.len]
  rw [step_take_eq (t := takeT top i) rfl h1 h2 hb rfl hv]
  show ∃ b', Taken n top V ch (i + 1) { s with vs := s.vs.set i (takeS s.vs.length top i v b s.ch).2.1, bs := putM s.bs top (takeS s.vs.length top i v b s.ch).2.2.1, ch := (takeS s.vs.length top i v b s.ch).2.2.2 } b'
  unfold takeS
  rw [if_neg (by rw [f1]; intro h; rcases h with h | h; cases h; omega)]
  refine ⟨takeB b i, by simpa using h.vl, by show getM (putM s.bs top _) top = _; rw [getM_put, if_pos rfl], ⟨f1, f2, f3⟩, fun j u hu => ?_, hlen, fun p hp => ?_, ?_⟩
  · rcases getSet hu with ⟨_, rfl, _⟩ | ⟨_, hu⟩
    · rfl
    · exact h.vs j u hu
  · rcases mem_putM hp with rfl | ⟨hp, _⟩
    · show (i : Int) < ((i + 1 : Nat) : Int); omega
    · have := h.tk p hp; omega
  · show takeF s.vs.length b i s.ch = _
    unfold takeF
    rw [hlen, h.len, h.vl, h.ch, f2, f3]
    by_cases ha : n < 2 * i
    · rw [if_pos ha, if_neg (by omega), if_pos (by omega)]
    · by_cases hb : n < 2 * (i + 1)
      · rw [if_neg ha, if_pos ⟨hb, ha⟩, if_pos hb]
      · rw [if_neg ha, if_neg (fun h => hb h.1), if_neg hb]

theorem Taken.run {n : Nat} {top V : Int} {ch : List (Int × Int)} (h1 : 1 ≤ top) (h2 : top ≤ 1000) {s : St} {b : Bl} (h : Taken n top V ch 0 s b) : ∀ i, i ≤ n → ∃ b', Taken n top V ch i (runS s ((List.range i).map (takeT top))).1 b'
  | 0, _ => ⟨b, h⟩
  | i + 1, hi => by
    obtain ⟨b', h'⟩ := Taken.run h1 h2 h i (by omega)
    rw [List.range_succ, List.map_append, List.map_singleton, runS_snoc]
    exact h'.step h1 h2 (by omega)

def goesL (n : Nat) (xs : List Tr) (top val : Int) : List Tr := xs ++ [⟨1, top, 0, val⟩] ++ (List.range n).map (askT top) ++ (List.range n).map (takeT top)

/-- A BALLOT ABOVE ALL OTHERS GOES. -/
theorem goes {n : Nat} {xs : List Tr} {top val : Int} (hn : 1 ≤ n) (h1 : 1 ≤ top) (h2 : top ≤ 1000) (hx : ∀ t ∈ xs, t.ballot ≤ 1000 → t.ballot < top) :
    ∃ V, (runS (s0 n) (goesL n xs top val)).1.ch = (runS (s0 n) xs).1.ch ++ [(top, V)] := by
  have hC := Came.run (n := n) xs [] (Came.start n)
  rw [List.nil_append] at hC
  have hI := Inv.run xs (Inv.start n)
  have hvl := hI.vl
  unfold goesL
  rw [runS_append, runS_append, runS_snoc]
  simp only []
  generalize (runS (s0 n) xs).1 = s at *
  have hnone : getM s.bs top = none := by
    cases hg : getM s.bs top with
    | none => rfl
    | some b =>
      obtain ⟨a1, t, ht, e⟩ := hC.bs top b hg
      have := hx t ht (by omega)
      omega
  have hst : (stepS s ⟨1, top, 0, val⟩).2 = { s with bs := s.bs ++ [(top, newB val)] } := by
    exact step_begin_eq rfl h1 h2 hnone
  rw [hst]
  have hA : Asked n top s.ch 0 { s with bs := s.bs ++ [(top, newB val)] } (newB val) := by
    refine ⟨hvl, ?_, fun h => by omega, fun _ => ⟨rfl, rfl⟩, fun j v hv => ⟨fun h => by omega, fun _ => ?_⟩, rfl, rfl⟩
    · show getM (s.bs ++ [(top, newB val)]) top = _
      rw [← putM_none hnone, getM_put, if_pos rfl]
    · rcases hC.pm j v hv with h0 | ⟨b, h0⟩
      · omega
      · obtain ⟨a1, t, ht, e⟩ := hC.bs _ b h0
        have := hx t ht (by omega)
        omega
  obtain ⟨b, hA'⟩ := Asked.run h1 h2 hA n (Nat.le_refl _)
  generalize (runS { s with bs := s.bs ++ [(top, newB val)] } ((List.range n).map (askT top))).1 = s2 at *
  obtain ⟨f1, f2⟩ := hA'.yes (by omega)
  have hT : Taken n top b.bv s.ch 0 s2 b := by
    refine ⟨hA'.vl, hA'.get, ⟨f1, f2, rfl⟩, fun j v hv => (hA'.vs j v hv).1 ?_, by rw [hA'.tk]; rfl, (fun p hp => by rw [hA'.tk] at hp; cases hp), by rw [hA'.ch, if_neg (by omega)]⟩
    have := (List.getElem?_eq_some_iff.1 hv).1
    have := hA'.vl
    omega
  obtain ⟨b', hT'⟩ := Taken.run h1 h2 hT n (Nat.le_refl _)
  exact ⟨b.bv, by rw [hT'.ch, if_pos (by omega)]⟩

end Go.Proofs.Ytbakeeempbadcaa
