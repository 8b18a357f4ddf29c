/- The walks of what one says, and of a poll, in the court. -/
import Derived.Test.YthlhmilckenoaaaA1
namespace Go.Proofs.Ythlhmilckenoaaa
open Go.RowKit

def saysF (n li : Nat) (ls : List Nat) (i j at_ : Nat) (x : Bool) : Bool :=
  if li.testBit i then decide (at_ < ls.length) && (ls.getD at_ 0).testBit ((n * i + j) % 64) else x

set_option maxHeartbeats 800000 in
theorem says_any (n li : Nat) (v : Value) (ls : List Nat) (i j at_ : Nat) (x : Bool) (w : World) (h : Sl U64 w v ls) (hls : ∀ q ∈ ls, q < 18446744073709551616) (hx : li < 4294967296) (hn : n ≤ 9) (hi : i < 9) (hj : j < 9) (hat : at_ ≤ 100) :
    Calls Try.prog 12 #[.agg #[.int .i64 n, .int .u32 li, v], .int .i64 i, .int .i64 j, .int .i64 at_, .bool x] w fun e w' => e = .returned (.bool (saysF n li ls i j at_ x)) ∧ Below w.heap.size w w' := by
  obtain ⟨a, cap, rfl, hm, hnn, hc⟩ := h
  have hii : (i : Int) < 9 := by omega
  have hbit := u32_shr_and (x := li) (i := i) hx
  cases ht : li.testBit i
  · have hr : saysF n li ls i j at_ x = x := by unfold saysF; rw [ht]; rfl
    rw [ht] at hbit
    have hb0 : bits .and .u32 ((li : Int) / 2 ^ i) 1 = 0 := hbit
    have HR := Lib.hid hr
    clear hr ht hbit hc
    go_enter Try.func12, Try.ntmps12
    go_wp2
    all_goals first | (exfalso; omega) | (go_ret; exact ⟨ret_bool HR.out.symm, (Below.refl _ _).alloc (Nat.le_refl _) _⟩)
  · rw [ht] at hbit
    have hb0 : bits .and .u32 ((li : Int) / 2 ^ i) 1 = 1 := hbit
    by_cases hl : at_ < ls.length
    · obtain ⟨q, hq⟩ := get_of_lt hl
      obtain ⟨b, off, rfl, hb, hcell⟩ := hc _ q hq
      have hr : saysF n li ls i j at_ x = q.testBit ((n * i + j) % 64) := by
        unfold saysF; rw [ht, decide_eq_true hl]; simp [List.getD, hq]
      have hmul : (n : Int) * (i : Int) = ((n * i : Nat) : Int) := by push_cast; rfl
      have hmb : n * i ≤ 81 := Nat.le_trans (Nat.mul_le_mul hn (show i ≤ 9 by omega)) (by decide)
      generalize n * i = p at *
      have e1 : IntKind.i64.wrap ((n : Int) * (i : Int)) = (p : Int) := by rw [hmul]; exact IntWalk.i64_in _ (by omega)
      have e2 : IntKind.i64.wrap ((p : Int) + (j : Int)) = ((p + j : Nat) : Int) := by rw [IntWalk.i64_in _ (by omega)]; omega
      obtain ⟨s, hs⟩ : ∃ s : Nat, (p + j) % 64 = s := ⟨_, rfl⟩
      have hs64 : s < 64 := by omega
      have e3 : (((p + j : Nat) : Int)).tmod 64 = (s : Int) := by rw [Int.tmod_eq_emod_of_nonneg (by omega)]; omega
      rw [hs] at hr
      have hb1 := u64_shr_and (x := q) (i := s) (hls q (List.mem_of_getElem? hq))
      have l1 : (at_ : Int) < (ls.length : Int) := by omega
      have l0 : (0 : Int) ≤ (at_ : Int) := by omega
      have ld : decide ((at_ : Int) < (ls.length : Int)) = true := by simp; omega
      have ld' : decide (at_ < ls.length) = true := by simp; omega
      have s0 : (0 : Int) ≤ (s : Int) := by omega
      have s1 : (s : Int) < 64 := by omega
      generalize p + j = u at *
      have HR := Lib.hid hr
      have hbq : (bits .and .u64 ((q : Int) / 2 ^ s) 1 == 1) = q.testBit s := by rw [hb1]; cases q.testBit s <;> rfl
      clear hr hmul hmb hq hc hls hs hb1 ht hbit
      go_enter Try.func12, Try.ntmps12
      go_wp2_with fail
      all_goals first | (exfalso; omega) | skip
      go_quiet (fail)
      go_wp2
      go_ret
      exact ⟨ret_bool HR.out.symm, below_drewN ((Below.refl _ _).alloc (Nat.le_refl _) _) _⟩
    · have hr : saysF n li ls i j at_ x = false := by unfold saysF; rw [ht, decide_eq_false hl]; rfl
      have ld : decide ((at_ : Int) < (ls.length : Int)) = false := by simp; omega
      have ld' : decide (at_ < ls.length) = false := by simp; omega
      have HR := Lib.hid hr
      clear hr hc ht hbit
      go_enter Try.func12, Try.ntmps12
      go_wp2_with fail
      all_goals first | (exfalso; omega) | skip
      go_quiet (fail)
      go_wp2
      go_ret
      exact ⟨ret_bool HR.out.symm, below_drewN ((Below.refl _ _).alloc (Nat.le_refl _) _) _⟩

/-- how many say true to j -/
def yesF (n li : Nat) (ls : List Nat) (vs : List Bool) (j at_ : Nat) : Nat → Nat
  | 0 => 0
  | m + 1 => yesF n li ls vs j at_ m + (if saysF n li ls m j at_ (vs.getD m false) then 1 else 0)

theorem yesF_le (n li : Nat) (ls : List Nat) (vs : List Bool) (j at_ m : Nat) : yesF n li ls vs j at_ m ≤ m := by
  induction m with
  | zero => exact Nat.le_refl _
  | succ m ih => unfold yesF; split <;> omega

def pollB (n li : Nat) (ls : List Nat) (vs : List Bool) (j at_ : Nat) : Bool := decide (n < 2 * yesF n li ls vs j at_ n)
def pollC (n li : Nat) (ls : List Nat) (vs : List Bool) (j at_ : Nat) : Nat := if n < 2 * yesF n li ls vs j at_ n then yesF n li ls vs j at_ n else n - yesF n li ls vs j at_ n

set_option maxHeartbeats 800000 in
theorem poll_any (n li : Nat) (v vv : Value) (ls : List Nat) (vs : List Bool) (j at_ : Nat) (w : World) (h : Sl U64 w v ls) (hv : Sl Value.bool w vv vs) (hvn : vs.length = n) (hls : ∀ q ∈ ls, q < 18446744073709551616) (hx : li < 4294967296) (hn : n ≤ 9) (hj : j < 9) (hat : at_ ≤ 100) :
    Calls Try.prog 11 #[.agg #[.int .i64 n, .int .u32 li, v], vv, .int .i64 j, .int .i64 at_] w fun e w' => e = .returned (.tuple #[.bool (pollB n li ls vs j at_), .int .i64 (pollC n li ls vs j at_)]) ∧ Below w.heap.size w w' := by
  subst hvn
  have h0 := h
  have hv0 := hv
  obtain ⟨a, cap, rfl, hm, hnn, hc⟩ := h
  obtain ⟨a', cap', rfl, hm', hnn', hc'⟩ := hv
  have HS := Lib.hid (fun w1 i (x : Bool) (hi : i < 9) (hb : Below w.heap.size w w1) => says_any vs.length li _ ls i j at_ x w1 (h0.below hb) hls hx hn hi hj hat)
  clear hls hc
  go_enter Try.func11, Try.ntmps11
  go_wp2
  obtain ⟨W, hW⟩ : ∃ W, W = w.alloc (Obj.cells #[.int .i64 vs.length, .int .u32 li, .slice a ls.length cap] 34) := ⟨_, rfl⟩
  have c0 : W.cell? ⟨w.heap.size, 0, none⟩ = some (.int .i64 vs.length) := by rw [hW, World.cell?_alloc_at _ _ _ _ rfl]; rfl
  have c1 : W.cell? ⟨w.heap.size, 1, none⟩ = some (.int .u32 li) := by rw [hW, World.cell?_alloc_at _ _ _ _ rfl]; rfl
  have c2 : W.cell? ⟨w.heap.size, 2, none⟩ = some (.slice a ls.length cap) := by rw [hW, World.cell?_alloc_at _ _ _ _ rfl]; rfl
  have hsz : w.heap.size < W.heap.size := by rw [hW]; simp
  have b1 : Below w.heap.size w W := by rw [hW]; exact (Below.refl _ _).alloc (Nat.le_refl _) _
  rw [← hW]
  have HC := Lib.hid (And.intro c0 (And.intro c1 c2))
  clear hW c0 c1 c2
  have hyl := yesF_le vs.length li ls vs j at_
  have HYL := Lib.hid hyl
  clear hyl
  go_loopw [10, 16] (fun y i wr => ∃ m : Nat, m ≤ vs.length ∧ i = .int .i64 m ∧ y = .int .i64 (yesF vs.length li ls vs j at_ m : Nat) ∧ Below W.heap.size W wr) (fun _ i _ => vs.length - (intOf i).toNat)
  case atStart => exact ⟨0, Nat.zero_le _, rfl, rfl, Below.refl _ _⟩
  case round =>
    obtain ⟨m, hmm, rfl, rfl, hbr⟩ := hrel
    have hbw : Below w.heap.size w wr := b1.trans (hbr.mono b1.size)
    have d0 : wr.cell? ⟨w.heap.size, 0, none⟩ = some (.int .i64 vs.length) := (hbr.cell (p := ⟨w.heap.size, 0, none⟩) hsz).trans HC.out.1
    have d1 : wr.cell? ⟨w.heap.size, 1, none⟩ = some (.int .u32 li) := (hbr.cell (p := ⟨w.heap.size, 1, none⟩) hsz).trans HC.out.2.1
    have d2 : wr.cell? ⟨w.heap.size, 2, none⟩ = some (.slice a ls.length cap) := (hbr.cell (p := ⟨w.heap.size, 2, none⟩) hsz).trans HC.out.2.2
    have hyl := HYL.out m
    by_cases hlt : m < vs.length
    · obtain ⟨x, hxx⟩ := get_of_lt hlt
      obtain ⟨b, off, rfl, hb, hcell⟩ := hc' m x hxx
      have hcl : wr.cell? ⟨b, off + m, none⟩ = some (.bool x) := (hbw.cell (p := ⟨b, off + m, none⟩) hb).trans hcell
      have hg : vs.getD m false = x := by simp [List.getD, hxx]
      have HSM := Lib.hid (HS.out wr m x (by omega) hbw)
      have hys : yesF vs.length li ls vs j at_ (m + 1) = yesF vs.length li ls vs j at_ m + (if saysF vs.length li ls m j at_ x then 1 else 0) := by rw [yesF, hg]
      have HYS := Lib.hid hys
      clear hys hg hxx hcell hc'
      generalize hq : saysF vs.length li ls m j at_ x = q at *
      clear hq
      cases q
      all_goals
        go_wp2_with (go_at_call 12; refine HSM.out.mono ?_; rintro e w2 ⟨rfl, hb2⟩)
        all_goals first | (exfalso; omega) | skip
        go_roundw
        case rel => exact ⟨m + 1, by omega, by go_num, by rw [HYS.out]; first | rfl | simp, hbr.trans (hb2.mono hbr.size)⟩
        case measure => simp [intOf]; omega
    · obtain rfl : m = vs.length := by omega
      clear hc'
      by_cases hmaj : vs.length < 2 * yesF vs.length li ls vs j at_ vs.length
      · have hB : pollB vs.length li ls vs j at_ = true := decide_eq_true hmaj
        have hC : pollC vs.length li ls vs j at_ = yesF vs.length li ls vs j at_ vs.length := if_pos hmaj
        have HB := Lib.hid hB
        have HCC := Lib.hid hC
        clear hB hC
        generalize yesF vs.length li ls vs j at_ vs.length = y at *
        go_wp2
        all_goals first | (exfalso; omega) | skip
        go_ret2
        exact ⟨by rw [HB.out, HCC.out]; rfl, hbw⟩
      · have hB : pollB vs.length li ls vs j at_ = false := decide_eq_false hmaj
        have hC : pollC vs.length li ls vs j at_ = vs.length - yesF vs.length li ls vs j at_ vs.length := if_neg hmaj
        have HB := Lib.hid hB
        have HCC := Lib.hid hC
        clear hB hC
        generalize yesF vs.length li ls vs j at_ vs.length = y at *
        go_wp2
        all_goals first | (exfalso; omega) | skip
        go_ret2
        exact ⟨by rw [HB.out, HCC.out, Int.ofNat_sub hyl]; rfl, hbw⟩

end Go.Proofs.Ythlhmilckenoaaa
