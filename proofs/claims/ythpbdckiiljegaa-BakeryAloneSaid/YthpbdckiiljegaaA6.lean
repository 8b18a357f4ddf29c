/- The bakery's Play: the script. -/
import Derived.Test.YthpbdckiiljegaaA5
import Derived.Test.YthpbdckiiljegaaS6
import Derived.Laws.EntriesVeiled
namespace Go.Proofs.Ythpbdckiiljegaa
open Go.RowKit
set_option linter.unusedVariables false
attribute [local go_sem] EffAt EffUpon

def FZ (x : Int) : List Value := [.int .i64 x]
theorem FZ_len (x : Int) : (FZ x).length = 1 := rfl
theorem FZ_one (x : Int) (u : Value) (h : u ∈ FZ x) : u.oneCell' = true := by simp [FZ] at h; subst h; rfl
theorem Try.eC : Elem Try.prog 23 27 (.int .i64 0) 1 8 := ⟨Try.underlying23, by kernel_rfl, rfl, by decide⟩
theorem Try.eB : Elem Try.prog 24 4 (.bool false) 1 1 := ⟨Try.underlying24, by kernel_rfl, rfl, by decide⟩
theorem Try.eP : Elem Try.prog 42 46 (.agg #[.int .i64 0, .int .i64 0, .int .i64 0, .int .i64 0, .bool false]) 5 40 := ⟨Try.underlying42, by kernel_rfl, rfl, by decide⟩

def stepI (n : Nat) (s : St) (x : Int) : St := if x < 0 ∨ (n : Int) ≤ x then s else stepS s x.toNat
def runI (n : Nat) (s : St) (xs : List Int) : St := xs.foldl (stepI n) s
def p0 : Pr := ⟨0, 0, 0, 0, false⟩
def s0 (n : Nat) : St := (List.replicate n p0, [])
def codeI (n : Nat) (x : Int) : Int := if x < 0 ∨ (n : Int) ≤ x then 2 else 0
theorem Good.mono {n j j' : Nat} {s : St} (h : Good n j s) (hj : j ≤ j') : Good n j' s :=
  ⟨h.1, by have := h.2.1; omega, fun p hp => by obtain ⟨a, b, c, d⟩ := h.2.2 p hp; exact ⟨a, by omega, by omega, d⟩⟩
theorem Good.stepI {n j : Nat} {s : St} (h : Good n j s) (x : Int) : Good n (j + 1) (stepI n s x) := by
  unfold Ythpbdckiiljegaa.stepI
  split
  · exact h.mono (by omega)
  · exact h.step
theorem Good.run {n : Nat} : ∀ (xs : List Int) {j : Nat} {s : St}, Good n j s → Good n (j + xs.length) (runI n s xs)
  | [], _, _, h => h
  | x :: xs, j, s, h => by
    have := Good.run xs (h.stepI x)
    rw [show j + 1 + xs.length = j + (x :: xs).length by simp; omega] at this
    exact this
theorem Good.start (n : Nat) : Good n 0 (s0 n) := ⟨by simp [s0], by simp [s0], fun p hp => by
  have : p = p0 := by simp [s0] at hp; exact hp.2
  subst this; exact ⟨by simp [p0], by simp [p0], by simp [p0], by simp [p0], by simp [p0], by simp [p0]⟩⟩
theorem runI_snoc (n : Nat) (s : St) (xs : List Int) (x : Int) : runI n s (xs ++ [x]) = stepI n (runI n s xs) x := by simp [runI]

abbrev nils5 : List Value := [.slice none 0 0, .slice none 0 0, .slice none 0 0, .slice none 0 0, .slice none 0 0]
abbrev out5 (vc : Value) : List Value := [vc, .slice none 0 0, .slice none 0 0, .slice none 0 0, .slice none 0 0]
abbrev fns : List Value := [.func (.func 12) #[] #[], .func (.func 13) #[] #[], .func (.func 14) #[] #[], .func (.func 15) #[] #[], .func (.func 16) #[] #[], .func (.func 17) #[] #[]]
theorem fn_cell {w : World} {A : Nat} (h : Rec w A fns) {a : Nat} (ha : a ≤ 5) : w.cell? ⟨A, a, none⟩ = some (.func (.func (12 + a)) #[] #[]) := by
  rcases (by omega : a = 0 ∨ a = 1 ∨ a = 2 ∨ a = 3 ∨ a = 4 ∨ a = 5) with rfl | rfl | rfl | rfl | rfl | rfl <;> exact (h.2 _ _ rfl).1
theorem call_state {a : Nat} (ha : a ≤ 5) (args : Array Value) (w : World) : (callFunc (12 + a) args).run Try.prog w = .ok (.enter (12 + a) args) w := by
  rcases (by omega : a = 0 ∨ a = 1 ∨ a = 2 ∨ a = 3 ∨ a = 4 ∨ a = 5) with rfl | rfl | rfl | rfl | rfl | rfl <;> go_simp

def W5 (w : World) (n : Nat) : World :=
  ((((w.alloc (.cells #[.slice none 0 0, .slice none 0 0, .slice none 0 0, .slice none 0 0, .slice none 0 0] 26)).alloc
    (.cells #[.func (.func 12) #[] #[], .func (.func 13) #[] #[], .func (.func 14) #[] #[], .func (.func 15) #[] #[], .func (.func 16) #[] #[], .func (.func 17) #[] #[]] 40)).alloc
    (.cells (madeRow (.agg #[.int .i64 0, .int .i64 0, .int .i64 0, .int .i64 0, .bool false]) 5 n) 46)).alloc
    (.cells #[.slice (some ⟨w.heap.size + 1 + 1, 0, none⟩) n n, .slice none 0 0] 44)).alloc
    (.cells #[.slice none 0 0, .slice none 0 0, .slice none 0 0, .slice none 0 0, .slice none 0 0] 26)

theorem start (W : World) (n : Nat) : Sat W (W5 W n) (Hp.own FZ 1 (.slice none 0 0) ([] : List Int) * (shopH (W.heap.size + 1 + 1 + 1) (s0 n) * (Hp.rec_ (W.heap.size + 1 + 1 + 1 + 1) (out5 (.slice none 0 0)) * (Hp.rec_ (W.heap.size + 1) fns * (Hp.rec_ W.heap.size nils5 * 1))))) := by
  have h1 := (Sat.start W).allocAt #[.slice none 0 0, .slice none 0 0, .slice none 0 0, .slice none 0 0, .slice none 0 0] 26 nils5 rfl rfl
  have h2 := h1.allocAt #[.func (.func 12) #[] #[], .func (.func 13) #[] #[], .func (.func 14) #[] #[], .func (.func 15) #[] #[], .func (.func 16) #[] #[], .func (.func 17) #[] #[]] 40 fns rfl (b := W.heap.size + 1) (by simp)
  have h3 := h2.newOwnAt (b := W.heap.size + 1 + 1) (f := FP) (sz := 5) (xs := List.replicate n p0) (by simp) (OwS.made (e := 46) (z := .agg #[.int .i64 0, .int .i64 0, .int .i64 0, .int .i64 0, .bool false]) _ _ n p0 FP_len rfl (Nat.le_refl _))
  have h4 := h3.allocAt #[.slice (some ⟨W.heap.size + 1 + 1, 0, none⟩) n n, .slice none 0 0] 44 [.slice (some ⟨W.heap.size + 1 + 1, 0, none⟩) n n, .slice none 0 0] rfl (b := W.heap.size + 1 + 1 + 1) (by simp)
  have h5 := ((h4.allocAt #[.slice none 0 0, .slice none 0 0, .slice none 0 0, .slice none 0 0, .slice none 0 0] 26 (out5 (.slice none 0 0)) rfl (b := W.heap.size + 1 + 1 + 1 + 1) (by simp)).nil FI 1).nil FZ 1
  have h6 : Sat W (W5 W n) (Hp.rec_ (W.heap.size + 1 + 1 + 1) [.slice (some ⟨W.heap.size + 1 + 1, 0, none⟩) n n, .slice none 0 0] * (Hp.own FP 5 (.slice (some ⟨W.heap.size + 1 + 1, 0, none⟩) n n) (List.replicate n p0) * Hp.own FI 1 (.slice none 0 0) []) * (Hp.own FZ 1 (.slice none 0 0) ([] : List Int) * (Hp.rec_ (W.heap.size + 1 + 1 + 1 + 1) (out5 (.slice none 0 0)) * (Hp.rec_ (W.heap.size + 1) fns * (Hp.rec_ W.heap.size nils5 * 1))))) := h5.cast (by ac_rfl)
  have e : (s0 n).1.length = n := by simp [s0]
  have h7 : Sat W (W5 W n) (shopAt (W.heap.size + 1 + 1 + 1) (W.heap.size + 1 + 1) 0 n (.slice none 0 0) (s0 n).1 (s0 n).2 * (Hp.own FZ 1 (.slice none 0 0) ([] : List Int) * (Hp.rec_ (W.heap.size + 1 + 1 + 1 + 1) (out5 (.slice none 0 0)) * (Hp.rec_ (W.heap.size + 1) fns * (Hp.rec_ W.heap.size nils5 * 1))))) := by
    unfold shopAt
    rw [e]
    exact h6
  exact (shopH.shut h7).sw

theorem Sl.get {α : Type} {f : α → Value} {w : World} {a : Option Addr} {n cap : Nat} {xs : List α} (h : Sl f w (.slice a n cap) xs) {j : Nat} {x : α} (hx : xs[j]? = some x) : ∃ b off, a = some ⟨b, off, none⟩ ∧ w.cell? ⟨b, off + j, none⟩ = some (f x) := by
  obtain ⟨a', cap', hv, _, _, hc⟩ := h
  cases hv
  obtain ⟨b, off, e, _, h2⟩ := hc j x hx
  exact ⟨b, off, e, h2⟩

/-- the answer's record, of the first processes -/
def recOutB (O : Nat) (vc va vt vb : Value) (ps : List Pr) (s : St) : Hp :=
  Hp.own FW 1 va (ps.map fun p => .int .i64 p.at_) * (Hp.own FW 1 vt (ps.map fun p => .int .i64 p.tk) * (Hp.own FW 1 vb (ps.map fun p => .bool p.ch) * Hp.rec_ O [vc, va, vt, vb, .slice none 0 0]))

theorem SlS.mapZ {w : World} {v : Value} {ps : List Pr} (h : SlS FW 1 w v (ps.map fun p => .int .i64 p.at_)) : SlS FZ 1 w v (ps.map fun p => (p.at_ : Int)) := by
  obtain ⟨a, cap, rfl, hm, hn, hc⟩ := h
  refine ⟨a, cap, by simp, by simpa using hm, by simpa using hn, fun j x hx => ?_⟩
  rw [List.getElem?_map] at hx
  cases hp : ps[j]? with
  | none => rw [hp] at hx; cases hx
  | some p =>
    rw [hp] at hx; cases hx
    exact hc j (.int .i64 p.at_) (by rw [List.getElem?_map, hp]; rfl)

set_option maxHeartbeats 4000000 in
theorem play_run (n : Nat) (v : Value) (xs : List Int) (W : World) (h : SlI W v xs) (hn : 1 ≤ n) (hn4 : n ≤ 4) (hx : xs.length ≤ 120) :
    Calls Try.prog 7 #[.int .i64 n, v] W fun e w' => ∃ vc va a3 n3 c3 a4 n4 c4 vi, e = .returned (.tuple #[.agg #[vc, va, .slice a3 n3 c3, .slice a4 n4 c4, vi], .int .i64 0]) ∧ SlS FZ 1 w' vc (xs.map (codeI n)) ∧ SlS FZ 1 w' va ((runI n (s0 n) xs).1.map fun p => (p.at_ : Int)) ∧ SlS FI 1 w' vi (runI n (s0 n) xs).2 ∧ Below W.heap.size W w' := by
  have h0 := h
  obtain ⟨a, cap, rfl, hm, hnn, hc⟩ := h
  have mk := fun w => run_mk Try.eP (n := n) (by omega) (by omega) w
  clear hc hnn
  go_enter Try.func7, Try.ntmps7
  go_wp2_with fail
  obtain ⟨w5, hw5⟩ : ∃ w5, w5 = W5 W n := ⟨_, rfl⟩
  have hM := start W n
  rw [← hw5] at hM
  unfold W5 at hw5
  rw [← hw5]
  have HM := Lib.hid hM
  have H0 := Lib.hid h0
  clear hM h0 hw5 mk
  obtain ⟨O, hO⟩ : ∃ O, O = W.heap.size + 1 + 1 + 1 + 1 := ⟨_, rfl⟩
  obtain ⟨S, hS⟩ : ∃ S, S = W.heap.size + 1 + 1 + 1 := ⟨_, rfl⟩
  obtain ⟨A, hA⟩ : ∃ A, A = W.heap.size + 1 := ⟨_, rfl⟩
  rw [← hO] at HM ⊢
  rw [← hS] at HM ⊢
  rw [← hA] at HM
  try rw [← hA]
  clear hO hS hA
  go_loopw [32] (fun i wr => ∃ (j : Nat) (vc : Value), j ≤ xs.length ∧ i = .int .i64 j ∧ Sat W wr (Hp.own FZ 1 vc ((xs.take j).map (codeI n)) * (shopH S (runI n (s0 n) (xs.take j)) * (Hp.rec_ O (out5 vc) * (Hp.rec_ A fns * (Hp.rec_ W.heap.size nils5 * 1)))))) (fun i _ => xs.length - (intOf i).toNat)
  case atStart => exact ⟨0, _, Nat.zero_le _, rfl, by simpa [runI] using HM.out⟩
  case round =>
    obtain ⟨j, vc, hj, rfl, hmid⟩ := hrel
    have hgood := Good.run (xs.take j) (Good.start n)
    rw [Nat.zero_add, List.length_take, Nat.min_eq_left hj] at hgood
    by_cases hlt : j < xs.length
    · obtain ⟨x, hx'⟩ := get_of_lt hlt
      have htk := take_of hx'
      have HST := Lib.hid (show runI n (s0 n) (xs.take (j + 1)) = stepI n (runI n (s0 n) (xs.take j)) x by rw [htk, runI_snoc])
      have HCT := Lib.hid (show (xs.take (j + 1)).map (codeI n) = (xs.take j).map (codeI n) ++ [codeI n x] by rw [htk, List.map_append]; rfl)
      obtain ⟨b0, off, rfl, hcx⟩ := (H0.out.below hmid.below).get hx'
      have hcl : ((xs.take j).map (codeI n)).length = j := by simp; omega
      generalize (xs.take j).map (codeI n) = cs at *
      obtain ⟨av, cv, hvc, _⟩ := hmid.ows.form
      rw [hcl] at hvc
      subst hvc
      have q0 := hmid.up2.cell 0 rfl
      have HMID := Lib.hid hmid
      by_cases hbad : x < 0 ∨ (n : Int) ≤ x
      · have hst : stepI n (runI n (s0 n) (xs.take j)) x = runI n (s0 n) (xs.take j) := by unfold stepI; rw [if_pos hbad]
        have hcd : codeI n x = 2 := by unfold codeI; rw [if_pos hbad]
        rw [hst] at HST
        rw [hcd] at HCT
        clear hmid hst hcd htk hx' hgood
        by_cases hneg : x < 0
        · go_wp2_with (at_builtin; refine wpList_pushH rfl _ _ 23 rfl Try.eC FZ FZ_len FZ_one 2 (wr).heap.size rfl rfl ((HMID.out).alloc _ _ _ rfl) (by rw [hcl]; omega) (by rw [hcl]; omega) ?_; intro v' w3 hs' h'; have H6 := h'.up2; have z0 := H6.cell 0 rfl; have z0f := H6.free 0 rfl; have H7 := Lib.hid (H6.set 0 v'); obtain ⟨g3, o3, c3, rfl⟩ := hs'; rw [hcl] at H7 ⊢; clear h' H6)
          go_roundw
          case rel => exact ⟨j + 1, _, by omega, by go_num, by rw [HST.out, HCT.out]; exact H7.out.dn2⟩
          case measure => simp [intOf]; omega
        · have hge : (n : Int) ≤ x := by omega
          go_wp2_with (at_builtin; refine wpList_pushH rfl _ _ 23 rfl Try.eC FZ FZ_len FZ_one 2 (wr).heap.size rfl rfl ((HMID.out).alloc _ _ _ rfl) (by rw [hcl]; omega) (by rw [hcl]; omega) ?_; intro v' w3 hs' h'; have H6 := h'.up2; have z0 := H6.cell 0 rfl; have z0f := H6.free 0 rfl; have H7 := Lib.hid (H6.set 0 v'); obtain ⟨g3, o3, c3, rfl⟩ := hs'; rw [hcl] at H7 ⊢; clear h' H6)
          go_roundw
          case rel => exact ⟨j + 1, _, by omega, by go_num, by rw [HST.out, HCT.out]; exact H7.out.dn2⟩
          case measure => simp [intOf]; omega
      · obtain ⟨q, rfl⟩ := Int.eq_ofNat_of_zero_le (show 0 ≤ x by omega)
        have hst : stepI n (runI n (s0 n) (xs.take j)) (q : Int) = stepS (runI n (s0 n) (xs.take j)) q := by unfold stepI; rw [if_neg hbad]; rfl
        have hcd : codeI n (q : Int) = 0 := by unfold codeI; rw [if_neg hbad]
        rw [hst] at HST
        rw [hcd] at HCT
        generalize runI n (s0 n) (xs.take j) = s at *
        have hg0 := hgood
        obtain ⟨hsl, _, hok⟩ := hgood
        obtain ⟨p, hp⟩ := get_of_lt (show q < s.1.length by omega)
        have hat := (hok p (List.mem_of_getElem? hp)).1
        have HSTEP := Lib.hid (step_sat (p := p) hmid.sw hg0 hp hn4 (by omega))
        have hfc := fn_cell (hmid.up3.rec_) hat
        have hcf := fun args w => call_state hat args w
        obtain ⟨g, o, cap', vi, hsa⟩ := shopH.open_ hmid.sw
        have hsh := shop_of hsa
        obtain ⟨⟨c0, _, _, _, _⟩, _⟩ := hsh.procs.five hp
        obtain ⟨r0, _⟩ := hsh.rec_.2 0 _ rfl
        rw [hsl] at r0
        have i0 : (0 : Int) ≤ (q : Int) := by omega
        have i1 : (q : Int) < (n : Int) := by omega
        have i2 : (0 : Int) ≤ (p.at_ : Int) := by omega
        have i3 : (p.at_ : Int) < 6 := by omega
        clear hmid hst hcd htk hx' hok hsa hp hbad hsl hsh hg0
        go_wp2_with (first | (refine HSTEP.out.mono ?_; rintro e w2 ⟨⟨v2, rfl⟩, hstep⟩; have HM2 := Lib.hid hstep.sw; have y0 := hstep.up2.cell 0 rfl; clear hstep) | (at_builtin; refine wpList_pushH rfl _ _ 23 rfl Try.eC FZ FZ_len FZ_one 0 (w2).heap.size rfl rfl ((HM2.out).alloc _ _ _ rfl) (by rw [hcl]; omega) (by rw [hcl]; omega) ?_; intro v' w3 hs' h'; have H6 := h'.up2; have z0 := H6.cell 0 rfl; have z0f := H6.free 0 rfl; have H7 := Lib.hid (H6.set 0 v'); obtain ⟨g3, o3, c3, rfl⟩ := hs'; rw [hcl] at H7 ⊢; clear h' H6))
        go_roundw
        case rel => exact ⟨j + 1, _, by omega, by go_num, by rw [HST.out, HCT.out]; exact H7.out.dn2⟩
        case measure => simp [intOf]; omega
    · obtain rfl : j = xs.length := by omega
      rw [List.take_length] at hmid hgood
      have hcl : (xs.map (codeI n)).length = xs.length := by simp
      generalize hcs : xs.map (codeI n) = cs at *
      generalize hss : runI n (s0 n) xs = s at *
      have HCS := Lib.hid hcs
      have HSS := Lib.hid hss
      have HCL := Lib.hid hcl
      have hsn := hgood.2.1
      clear hcs hss hcl
      obtain ⟨g, o, cp, vi, hsa⟩ := shopH.open_ hmid.sw
      have hsh := shop_of hsa
      obtain ⟨r0, _⟩ := hsh.rec_.2 0 _ rfl
      obtain ⟨hsl, _, hok⟩ := hgood
      have HSL := Lib.hid hsl
      obtain ⟨av, cv, hvc, _⟩ := hmid.ows.form
      subst hvc
      obtain ⟨ai, ci, hvi, _⟩ := hsh.ins_.form
      subst hvi
      have HL := Lib.hid (show Sat W wr (recOutB O (.slice av cs.length cv) (.slice none 0 0) (.slice none 0 0) (.slice none 0 0) [] s * (Hp.own FZ 1 (.slice av cs.length cv) cs * (shopAt S g o cp (.slice ai s.2.length ci) s.1 s.2 * (Hp.rec_ A fns * (Hp.rec_ W.heap.size nils5 * 1))))) from by
        have := ((hsa.nil FW 1).nil FW 1).nil FW 1
        unfold recOutB
        unfold shopAt at this ⊢
        exact this.cast (by simp only [List.map_nil]; ac_rfl))
      clear hmid hsa hsh hok hsl HM H0
      go_wp2_with fail
      obtain ⟨wo, rfl⟩ : ∃ wo : World, wo = wr := ⟨_, rfl⟩
      go_loopw [72] (fun i wr => ∃ (k : Nat) (va vt vb : Value), k ≤ s.1.length ∧ i = .int .i64 k ∧ Sat W wr (recOutB O (.slice av cs.length cv) va vt vb (s.1.take k) s * (Hp.own FZ 1 (.slice av cs.length cv) cs * (shopAt S g o cp (.slice ai s.2.length ci) s.1 s.2 * (Hp.rec_ A fns * (Hp.rec_ W.heap.size nils5 * 1)))))) (fun i _ => s.1.length - (intOf i).toNat)
      case atStart => exact ⟨0, _, _, _, Nat.zero_le _, rfl, HL.out⟩
      case round =>
        obtain ⟨k, va, vt, vb, hk, rfl, hsat⟩ := hrel
        by_cases hlt2 : k < s.1.length
        · obtain ⟨p, hp⟩ := get_of_lt hlt2
          have hsh := shop_of (hsat.up2)
          obtain ⟨⟨c0, c1, c2, c3, c4⟩, _⟩ := hsh.procs.five hp
          have HS2 := Lib.hid hsat
          have HP := Lib.hid hp
          have i0 : (0 : Int) ≤ (k : Int) := by omega
          have i1 : (k : Int) < (s.1.length : Int) := by omega
          clear hsat hsh hp
          go_wp2_with fail
          refine region_in (W := W) (HS2.out.allocAt (b := wr.heap.size) #[.int .i64 p.at_, .int .i64 p.k, .int .i64 p.m, .int .i64 p.tk, .bool p.ch] 46 (FP p) rfl rfl) fun w1 H1 => ?_
          obtain ⟨TT, hTT⟩ : ∃ TT, TT = wr.heap.size := ⟨_, rfl⟩
          rw [← hTT] at H1 ⊢
          clear hTT c0 c1 c2 c3 c4 i0 i1
          obtain ⟨k1, hk1⟩ : ∃ c : Chn, c = ⟨1, 4, 5, 19, va, (s.1.take k).map fun p => .int .i64 p.at_, .int .i64 p.at_⟩ := ⟨_, rfl⟩
          obtain ⟨k2, hk2⟩ : ∃ c : Chn, c = ⟨2, 10, 11, 21, vt, (s.1.take k).map fun p => .int .i64 p.tk, .int .i64 p.tk⟩ := ⟨_, rfl⟩
          obtain ⟨k3, hk3⟩ : ∃ c : Chn, c = ⟨3, 16, 17, 23, vb, (s.1.take k).map fun p => .bool p.ch, .bool p.ch⟩ := ⟨_, rfl⟩
          have HD := Lib.hid (show DistC [k1, k2, k3] from DistC.three (by rw [hk1, hk2, hk3]; show [4, 5, 19, 10, 11, 21, 16, 17, 23].Nodup; decide) (by rw [hk1, hk2, hk3]; show [1, 2, 3].Nodup; decide))
          have HP1 : Sat W w1 (Hp.big (fun c : Chn => Hp.own FW 1 c.v c.xs) [k1, k2, k3] * (Hp.rec_ O [.slice av cs.length cv, va, vt, vb, .slice none 0 0] * (Hp.rec_ TT (FP p) * (Hp.own FZ 1 (.slice av cs.length cv) cs * (shopAt S g o cp (.slice ai s.2.length ci) s.1 s.2 * (Hp.rec_ A fns * (Hp.rec_ W.heap.size nils5 * 1))))))) := by
            rw [hk1, hk2, hk3]
            unfold recOutB at H1
            simp only [Hp.big]
            exact H1.cast (by ac_rfl)
          obtain ⟨Stt, hnet, Ft, hFt, hFCt⟩ := fact_class (fun _ => True) (w := w1) trivial
          obtain ⟨St1, hne1, F1, g1, hFC1⟩ := fact_class (fun w' => w'.cell? ⟨O, 1, none⟩ = some va) (w := w1) (by first | exact HP1.sw.cell _ rfl | exact HP1.drop.drop.cell _ rfl)
          obtain ⟨St7, hne7, F7, g7, hFC7⟩ := fact_class (fun w' => w'.cell? ⟨O, 2, none⟩ = some vt) (w := w1) (by first | exact HP1.sw.cell _ rfl | exact HP1.drop.drop.cell _ rfl)
          obtain ⟨St13, hne13, F13, g13, hFC13⟩ := fact_class (fun w' => w'.cell? ⟨O, 3, none⟩ = some vb) (w := w1) (by first | exact HP1.sw.cell _ rfl | exact HP1.drop.drop.cell _ rfl)
          obtain ⟨St3, hne3, F3, g3, hFC3⟩ := fact_class (fun w' => w'.cell? ⟨TT, 0, none⟩ = some (.int .i64 p.at_)) (w := w1) (by first | exact HP1.sw.cell _ rfl | exact HP1.drop.drop.cell _ rfl)
          obtain ⟨St9, hne9, F9, g9, hFC9⟩ := fact_class (fun w' => w'.cell? ⟨TT, 3, none⟩ = some (.int .i64 p.tk)) (w := w1) (by first | exact HP1.sw.cell _ rfl | exact HP1.drop.drop.cell _ rfl)
          obtain ⟨St15, hne15, F15, g15, hFC15⟩ := fact_class (fun w' => w'.cell? ⟨TT, 4, none⟩ = some (.bool p.ch)) (w := w1) (by first | exact HP1.sw.cell _ rfl | exact HP1.drop.drop.cell _ rfl)
          have HFC := Lib.hid (And.intro hFCt (And.intro hFC1 (And.intro hFC7 (And.intro hFC13 (And.intro hFC3 (And.intro hFC9 hFC15))))))
          have HPI := Lib.hid (parI.start (HP1.drawn (w1.drawn + 1)))
          have HK := Lib.hid (And.intro hk1 (And.intro hk2 hk3))
          clear hFCt hFC1 hFC7 hFC13 hFC3 hFC9 hFC15 hFt HP1 H1 hk1 hk2 hk3
          refine wp_region_free [4, 5, 10, 11, 16, 17, 19, 21, 23] (fun i w => (i = 1 → w.cell? ⟨O, 1, none⟩ = some va) ∧ (i = 7 → w.cell? ⟨O, 2, none⟩ = some vt) ∧ (i = 13 → w.cell? ⟨O, 3, none⟩ = some vb) ∧ (i = 3 → w.cell? ⟨TT, 0, none⟩ = some (.int .i64 p.at_)) ∧ (i = 9 → w.cell? ⟨TT, 3, none⟩ = some (.int .i64 p.tk)) ∧ (i = 15 → w.cell? ⟨TT, 4, none⟩ = some (.bool p.ch))) (parI W O [.slice av cs.length cv, va, vt, vb, .slice none 0 0] [k1, k2, k3] (Hp.rec_ TT (FP p) * (Hp.own FZ 1 (.slice av cs.length cv) cs * (shopAt S g o cp (.slice ai s.2.length ci) s.1 s.2 * (Hp.rec_ A fns * (Hp.rec_ W.heap.size nils5 * 1)))))) (by kernel_rfl) (by kernel_rfl) HPI.out ?_ ?_
          · intro i d w hC hpre
            obtain ⟨e1, e2, e3⟩ := HK.out
            obtain ⟨X, hX⟩ := hC.1.rest
            refine ⟨fun e => ?_, fun e => ?_, fun e => ?_, fun e => ?_, fun e => ?_, fun e => ?_⟩
            · subst e
              have := hC.get HD.out (c := k1) (by simp) (by rw [e1]; exact hpre 5 (by simp) (by kernel_rfl)) (u := va) (by rw [e1]; rfl)
              rw [e1] at this; exact this
            · subst e
              have := hC.get HD.out (c := k2) (by simp) (by rw [e2]; exact hpre 11 (by simp) (by kernel_rfl)) (u := vt) (by rw [e2]; rfl)
              rw [e2] at this; exact this
            · subst e
              have := hC.get HD.out (c := k3) (by simp) (by rw [e3]; exact hpre 17 (by simp) (by kernel_rfl)) (u := vb) (by rw [e3]; rfl)
              rw [e3] at this; exact this
            · exact hX.assoc.cell 0 rfl
            · exact hX.assoc.cell 3 rfl
            · exact hX.assoc.cell 4 rfl
          change pWalk _ _ _ _ [0, 1, 2, 3, 6, 7, 8, 9, 12, 13, 14, 15, 18, 20, 22] _
          refine pWalk_val (fun w' => ∃ s, w' = Ft s) (fun w' _ => HFC.out.1 _ trivial) rfl rfl (fun K hK => ?_); simp only [List.getElem_toArray, List.getElem_cons_zero, List.getElem_cons_succ]; go_big_quiet_op; refine hK _ ?_; clear hK K
          refine pWalk_val (fun w' => ∃ s, w' = F1 s) (fun w' h => HFC.out.2.1 _ (h.1 rfl)) rfl rfl (fun K hK => ?_); simp only [List.getElem_toArray, List.getElem_cons_zero, List.getElem_cons_succ]; go_big_quiet_op; refine hK _ ?_; clear hK K
          refine pWalk_val (fun w' => ∃ s, w' = Ft s) (fun w' _ => HFC.out.1 _ trivial) rfl rfl (fun K hK => ?_); simp only [List.getElem_toArray, List.getElem_cons_zero, List.getElem_cons_succ]; go_big_quiet_op; refine hK _ ?_; clear hK K
          refine pWalk_val (fun w' => ∃ s, w' = F3 s) (fun w' h => HFC.out.2.2.2.2.1 _ (h.2.2.2.1 rfl)) rfl rfl (fun K hK => ?_); simp only [List.getElem_toArray, List.getElem_cons_zero, List.getElem_cons_succ]; go_big_quiet_op; refine hK _ ?_; clear hK K
          refine pWalk_val (fun w' => ∃ s, w' = Ft s) (fun w' _ => HFC.out.1 _ trivial) rfl rfl (fun K hK => ?_); simp only [List.getElem_toArray, List.getElem_cons_zero, List.getElem_cons_succ]; go_big_quiet_op; refine hK _ ?_; clear hK K
          refine pWalk_val (fun w' => ∃ s, w' = F7 s) (fun w' h => HFC.out.2.2.1 _ (h.2.1 rfl)) rfl rfl (fun K hK => ?_); simp only [List.getElem_toArray, List.getElem_cons_zero, List.getElem_cons_succ]; go_big_quiet_op; refine hK _ ?_; clear hK K
          refine pWalk_val (fun w' => ∃ s, w' = Ft s) (fun w' _ => HFC.out.1 _ trivial) rfl rfl (fun K hK => ?_); simp only [List.getElem_toArray, List.getElem_cons_zero, List.getElem_cons_succ]; go_big_quiet_op; refine hK _ ?_; clear hK K
          refine pWalk_val (fun w' => ∃ s, w' = F9 s) (fun w' h => HFC.out.2.2.2.2.2.1 _ (h.2.2.2.2.1 rfl)) rfl rfl (fun K hK => ?_); simp only [List.getElem_toArray, List.getElem_cons_zero, List.getElem_cons_succ]; go_big_quiet_op; refine hK _ ?_; clear hK K
          refine pWalk_val (fun w' => ∃ s, w' = Ft s) (fun w' _ => HFC.out.1 _ trivial) rfl rfl (fun K hK => ?_); simp only [List.getElem_toArray, List.getElem_cons_zero, List.getElem_cons_succ]; go_big_quiet_op; refine hK _ ?_; clear hK K
          refine pWalk_val (fun w' => ∃ s, w' = F13 s) (fun w' h => HFC.out.2.2.2.1 _ (h.2.2.1 rfl)) rfl rfl (fun K hK => ?_); simp only [List.getElem_toArray, List.getElem_cons_zero, List.getElem_cons_succ]; go_big_quiet_op; refine hK _ ?_; clear hK K
          refine pWalk_val (fun w' => ∃ s, w' = Ft s) (fun w' _ => HFC.out.1 _ trivial) rfl rfl (fun K hK => ?_); simp only [List.getElem_toArray, List.getElem_cons_zero, List.getElem_cons_succ]; go_big_quiet_op; refine hK _ ?_; clear hK K
          refine pWalk_val (fun w' => ∃ s, w' = F15 s) (fun w' h => HFC.out.2.2.2.2.2.2 _ (h.2.2.2.2.2 rfl)) rfl rfl (fun K hK => ?_); simp only [List.getElem_toArray, List.getElem_cons_zero, List.getElem_cons_succ]; go_big_quiet_op; refine hK _ ?_; clear hK K
          refine pWalk_val (fun w' => ∃ s, w' = Ft s) (fun w' _ => HFC.out.1 _ trivial) rfl rfl (fun K hK => ?_); simp only [List.getElem_toArray, List.getElem_cons_zero, List.getElem_cons_succ]; go_big_quiet_op; refine hK _ ?_; clear hK K
          refine pWalk_val (fun w' => ∃ s, w' = Ft s) (fun w' _ => HFC.out.1 _ trivial) rfl rfl (fun K hK => ?_); simp only [List.getElem_toArray, List.getElem_cons_zero, List.getElem_cons_succ]; go_big_quiet_op; refine hK _ ?_; clear hK K
          refine pWalk_val (fun w' => ∃ s, w' = Ft s) (fun w' _ => HFC.out.1 _ trivial) rfl rfl (fun K hK => ?_); simp only [List.getElem_toArray, List.getElem_cons_zero, List.getElem_cons_succ]; go_big_quiet_op; refine hK _ ?_; clear hK K
          refine ⟨fun i hi o ho d w hC hd hpre => ?_, fun d w hC hall => ?_⟩
          · obtain ⟨e1, e2, e3⟩ := HK.out
            simp only [List.mem_cons, List.not_mem_nil, or_false] at hi
            rcases hi with rfl | rfl | rfl | rfl | rfl | rfl | rfl | rfl | rfl
            · obtain rfl : _ = o := Option.some.inj ho
              refine EffAt.frame0 (by kernel_rfl) ?_
              refine hC.buildAt HD.out (c := k1) (by simp) (show k1.bi = 4 by rw [e1]) hd (e := 3) (show k1.x = _ by rw [e1]) ?_
              simp only [List.getElem_toArray, List.getElem_cons_zero, List.getElem_cons_succ]
              go_simp
              rfl
            · obtain rfl : _ = o := Option.some.inj ho
              obtain ⟨u, hu⟩ := Done.some_of (hpre ⟨4, .data⟩ (by simp) rfl (by simp))
              refine EffAt.frame1 4 (by kernel_rfl) hu rfl ?_
              refine hC.pushAt HD.out (c := k1) (by simp) (show k1.ai = 5 by rw [e1]) (show k1.bi = 4 by rw [e1]) hu hd (.tmp 77) (.tmp 80) 22 rfl Try.eI (by rw [e1]; rfl) rfl (by rw [e1]; rfl) (by rw [e1]; intro y hy; obtain ⟨q, _, rfl⟩ := List.mem_map.1 hy; rfl) (by have := HSL.out; rw [e1]; simp; omega) (by have := HSL.out; rw [e1]; simp; omega)
            · obtain rfl : _ = o := Option.some.inj ho
              refine EffAt.frame0 (by kernel_rfl) ?_
              refine hC.buildAt HD.out (c := k2) (by simp) (show k2.bi = 10 by rw [e2]) hd (e := 3) (show k2.x = _ by rw [e2]) ?_
              simp only [List.getElem_toArray, List.getElem_cons_zero, List.getElem_cons_succ]
              go_simp
              rfl
            · obtain rfl : _ = o := Option.some.inj ho
              obtain ⟨u, hu⟩ := Done.some_of (hpre ⟨10, .data⟩ (by simp) rfl (by simp))
              refine EffAt.frame1 10 (by kernel_rfl) hu rfl ?_
              refine hC.pushAt HD.out (c := k2) (by simp) (show k2.ai = 11 by rw [e2]) (show k2.bi = 10 by rw [e2]) hu hd (.tmp 83) (.tmp 86) 22 rfl Try.eI (by rw [e2]; rfl) rfl (by rw [e2]; rfl) (by rw [e2]; intro y hy; obtain ⟨q, _, rfl⟩ := List.mem_map.1 hy; rfl) (by have := HSL.out; rw [e2]; simp; omega) (by have := HSL.out; rw [e2]; simp; omega)
            · obtain rfl : _ = o := Option.some.inj ho
              refine EffAt.frame0 (by kernel_rfl) ?_
              refine hC.buildAt HD.out (c := k3) (by simp) (show k3.bi = 16 by rw [e3]) hd (e := 4) (show k3.x = _ by rw [e3]) ?_
              simp only [List.getElem_toArray, List.getElem_cons_zero, List.getElem_cons_succ]
              go_simp
              rfl
            · obtain rfl : _ = o := Option.some.inj ho
              obtain ⟨u, hu⟩ := Done.some_of (hpre ⟨16, .data⟩ (by simp) rfl (by simp))
              refine EffAt.frame1 16 (by kernel_rfl) hu rfl ?_
              refine hC.pushAt HD.out (c := k3) (by simp) (show k3.ai = 17 by rw [e3]) (show k3.bi = 16 by rw [e3]) hu hd (.tmp 89) (.tmp 92) 24 rfl Try.eB (by rw [e3]; rfl) rfl (by rw [e3]; rfl) (by rw [e3]; intro y hy; obtain ⟨q, _, rfl⟩ := List.mem_map.1 hy; rfl) (by have := HSL.out; rw [e3]; simp; omega) (by have := HSL.out; rw [e3]; simp; omega)
            · obtain rfl : _ = o := Option.some.inj ho
              obtain ⟨u, hu⟩ := Done.some_of (hpre ⟨5, .data⟩ (by simp) rfl (by simp))
              refine EffAt.frame1 5 (by kernel_rfl) hu rfl ?_
              refine hC.storeAt HD.out (c := k1) (by simp) (show k1.si = 19 by rw [e1]) (show k1.ai = 5 by rw [e1]) (show k1.fld = 1 by rw [e1]) hu hd (by simp) (fun ⟨al, nl, cl, hv⟩ q1 q2 => ?_)
              subst hv
              obtain ⟨y, hy⟩ := Option.isSome_iff_exists.1 q1
              simp only [List.getElem_toArray, List.getElem_cons_zero, List.getElem_cons_succ]
              go_simp
            · obtain rfl : _ = o := Option.some.inj ho
              obtain ⟨u, hu⟩ := Done.some_of (hpre ⟨11, .data⟩ (by simp) rfl (by simp))
              refine EffAt.frame1 11 (by kernel_rfl) hu rfl ?_
              refine hC.storeAt HD.out (c := k2) (by simp) (show k2.si = 21 by rw [e2]) (show k2.ai = 11 by rw [e2]) (show k2.fld = 2 by rw [e2]) hu hd (by simp) (fun ⟨al, nl, cl, hv⟩ q1 q2 => ?_)
              subst hv
              obtain ⟨y, hy⟩ := Option.isSome_iff_exists.1 q1
              simp only [List.getElem_toArray, List.getElem_cons_zero, List.getElem_cons_succ]
              go_simp
            · obtain rfl : _ = o := Option.some.inj ho
              obtain ⟨u, hu⟩ := Done.some_of (hpre ⟨17, .data⟩ (by simp) rfl (by simp))
              refine EffAt.frame1 17 (by kernel_rfl) hu rfl ?_
              refine hC.storeAt HD.out (c := k3) (by simp) (show k3.si = 23 by rw [e3]) (show k3.ai = 17 by rw [e3]) (show k3.fld = 3 by rw [e3]) hu hd (by simp) (fun ⟨al, nl, cl, hv⟩ q1 q2 => ?_)
              subst hv
              obtain ⟨y, hy⟩ := Option.isSome_iff_exists.1 q1
              simp only [List.getElem_toArray, List.getElem_cons_zero, List.getElem_cons_succ]
              go_simp
          · obtain ⟨e1, e2, e3⟩ := HK.out
            obtain ⟨u4, d4⟩ := Done.some_of (hall 4 (by simp))
            obtain ⟨u5, d5⟩ := Done.some_of (hall 5 (by simp))
            obtain ⟨u10, d10⟩ := Done.some_of (hall 10 (by simp))
            obtain ⟨u11, d11⟩ := Done.some_of (hall 11 (by simp))
            obtain ⟨u16, d16⟩ := Done.some_of (hall 16 (by simp))
            obtain ⟨u17, d17⟩ := Done.some_of (hall 17 (by simp))
            obtain ⟨u19, d19⟩ := Done.some_of (hall 19 (by simp))
            obtain ⟨u21, d21⟩ := Done.some_of (hall 21 (by simp))
            obtain ⟨u23, d23⟩ := Done.some_of (hall 23 (by simp))
            have HF := hC.done (fun c hc => by
              simp only [List.mem_cons, List.not_mem_nil, or_false] at hc
              rcases hc with rfl | rfl | rfl
              · rw [e1]; exact hall 19 (by simp)
              · rw [e2]; exact hall 21 (by simp)
              · rw [e3]; exact hall 23 (by simp))
            rw [e1, e2, e3] at HF
            simp only [Hp.big, Chn.cur, List.foldl, d5, d11, d17, Option.getD_some, List.set_cons_succ, List.set_cons_zero] at HF
            have HTK := take_of HP.out
            have HF2 := Lib.hid (show Sat W w (recOutB O (.slice av cs.length cv) u5 u11 u17 (s.1.take (k + 1)) s * (Hp.own FZ 1 (.slice av cs.length cv) cs * (shopAt S g o cp (.slice ai s.2.length ci) s.1 s.2 * (Hp.rec_ A fns * (Hp.rec_ W.heap.size nils5 * 1))))) from by
              rw [HTK]
              unfold recOutB
              simp only [List.map_append, List.map_cons, List.map_nil]
              refine Sat.drop (P := Hp.rec_ TT (FP p)) (HF.cast ?_)
              rw [Hp.mul_one]
              ac_rfl)
            refine Q_nil (P := Try.prog) (ops := #[]) ?_
            simp only [putL, d4, d5, d10, d11, d16, d17, d19, d21, d23, dstOf, List.getElem?_toArray, List.getElem?_cons_zero, List.getElem?_cons_succ, Option.bind_some, Act.put, List.setIfInBounds_toArray, List.set_cons_succ, List.set_cons_zero]
            clear HF HTK hall hC d4 d5 d10 d11 d16 d17 d19 d21 d23
            have i0 : (0 : Int) ≤ (k : Int) := by omega
            have i1 : (k : Int) < 5 := by have := HSL.out; omega
            go_wp2_with fail
            go_roundw
            case rel => exact ⟨k + 1, _, _, _, by omega, by go_num, HF2.out⟩
            case measure => simp [intOf]; omega
        · obtain rfl : k = s.1.length := by omega
          rw [List.take_length] at hsat
          have hsat2 := hsat
          unfold recOutB shopAt at hsat2
          obtain ⟨a2, c2, hva, m2⟩ := hsat2.assoc.ows.form
          obtain ⟨a3, c3, hvt, m3⟩ := hsat2.assoc.drop.assoc.ows.form
          obtain ⟨a4, c4, hvb, m4⟩ := hsat2.assoc.drop.assoc.drop.assoc.ows.form
          simp only [List.length_map] at hva hvt hvb
          subst hva hvt hvb
          have r0 := hsat2.up2.assoc.cell 0 rfl
          have r1 := hsat2.up2.assoc.cell 1 rfl
          have hY : Sat W wr (Hp.rec_ O [.slice av cs.length cv, .slice a2 s.1.length c2, .slice a3 s.1.length c3, .slice a4 s.1.length c4, .slice none 0 0] * (Hp.rec_ W.heap.size nils5 * (Hp.own FZ 1 (.slice av cs.length cv) cs * (Hp.own FW 1 (.slice a2 s.1.length c2) (s.1.map fun p => .int .i64 p.at_) * (Hp.own FI 1 (.slice ai s.2.length ci) s.2 * (Hp.own FW 1 (.slice a3 s.1.length c3) (s.1.map fun p => .int .i64 p.tk) * (Hp.own FW 1 (.slice a4 s.1.length c4) (s.1.map fun p => .bool p.ch) * (Hp.rec_ S [.slice (some ⟨g, o, none⟩) s.1.length cp, .slice ai s.2.length ci] * (Hp.own FP 5 (.slice (some ⟨g, o, none⟩) s.1.length cp) s.1 * (Hp.rec_ A fns * 1)))))))))) := hsat2.cast (by ac_rfl)
          have o0 := hY.cell 0 rfl
          have o1 := hY.cell 1 rfl
          have o2 := hY.cell 2 rfl
          have o3 := hY.cell 3 rfl
          have o4 := hY.cell 4 rfl
          have f4 := hY.free 4 rfl
          have n1 := hY.ne
          have n2 := n1.symm
          have hz := hY.sw.rec_
          have z0 := (hz.2 0 _ rfl).2
          have z1 := (hz.2 1 _ rfl).2
          have z2 := (hz.2 2 _ rfl).2
          have z3 := (hz.2 3 _ rfl).2
          have z4 := (hz.2 4 _ rfl).2
          have y0 := (hz.2 0 _ rfl).1
          have y1 := (hz.2 1 _ rfl).1
          have y2 := (hz.2 2 _ rfl).1
          have y3 := (hz.2 3 _ rfl).1
          have y4 := (hz.2 4 _ rfl).1
          have HY := Lib.hid ((((((hY.set 4 (.slice ai s.2.length ci)).sw.set 0 (.slice av cs.length cv)).set 1 (.slice a2 s.1.length c2)).set 2 (.slice a3 s.1.length c3)).set 3 (.slice a4 s.1.length c4)).set 4 (.slice ai s.2.length ci)).drop.drop
          have HN := Lib.hid hsn
          clear hsat hsat2 hY hz HL hsn
          go_wp2_with fail
          refine bodyPost_ret (v := .tuple #[.agg #[.slice av cs.length cv, .slice a2 s.1.length c2, .slice a3 s.1.length c3, .slice a4 s.1.length c4, .slice ai s.2.length ci], .int .i64 0]) (by simp [results, Try.results7, go_sem, *]) rfl ?_
          rw [HCS.out, HSS.out]
          refine ⟨_, _, _, _, _, _, _, _, _, rfl, HY.out.sls (by have := HCL.out; omega), ?_, HY.out.drop.drop.sls (by have := HN.out; omega), HY.out.below⟩
          exact SlS.mapZ (HY.out.drop.sls (by have := HSL.out; simp; omega))

set_option maxHeartbeats 1000000 in
theorem play_bad (n : Int) (v : Value) (xs : List Int) (W : World) (h : SlI W v xs) (hb : n < 1 ∨ 4 < n ∨ 120 < xs.length) :
    Calls Try.prog 7 #[.int .i64 n, v] W fun e w' => e = .returned (.tuple #[.agg #[.slice none 0 0, .slice none 0 0, .slice none 0 0, .slice none 0 0, .slice none 0 0], .int .i64 1]) ∧ Below W.heap.size W w' := by
  obtain ⟨a, cap, rfl, hm, hnn, hc⟩ := h
  clear hc hnn
  have HB := Lib.hid ((Below.refl W.heap.size W).alloc (Nat.le_refl _) (.cells #[.slice none 0 0, .slice none 0 0, .slice none 0 0, .slice none 0 0, .slice none 0 0] 26))
  by_cases h1 : n < 1
  · clear hb
    go_enter Try.func7, Try.ntmps7
    go_wp2_with fail
    refine bodyPost_ret (v := .tuple #[.agg #[.slice none 0 0, .slice none 0 0, .slice none 0 0, .slice none 0 0, .slice none 0 0], .int .i64 1]) (by simp [results, Try.results7, go_sem, *]) rfl ⟨rfl, ?_⟩
    exact HB.out
  · by_cases h2 : 4 < n
    · clear hb
      go_enter Try.func7, Try.ntmps7
      go_wp2_with fail
      refine bodyPost_ret (v := .tuple #[.agg #[.slice none 0 0, .slice none 0 0, .slice none 0 0, .slice none 0 0, .slice none 0 0], .int .i64 1]) (by simp [results, Try.results7, go_sem, *]) rfl ⟨rfl, ?_⟩
      exact HB.out
    · have h3 : (120 : Int) < (xs.length : Int) := by omega
      clear hb
      go_enter Try.func7, Try.ntmps7
      go_wp2_with fail
      refine bodyPost_ret (v := .tuple #[.agg #[.slice none 0 0, .slice none 0 0, .slice none 0 0, .slice none 0 0, .slice none 0 0], .int .i64 1]) (by simp [results, Try.results7, go_sem, *]) rfl ⟨rfl, ?_⟩
      exact HB.out

end Go.Proofs.Ythpbdckiiljegaa
