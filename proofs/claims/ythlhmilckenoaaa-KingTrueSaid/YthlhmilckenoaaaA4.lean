/- The walk of king.Play. -/
import Derived.Test.YthlhmilckenoaaaA3
namespace Go.Proofs.Ythlhmilckenoaaa
open Go.RowKit

def startF (n vo : Nat) : List Bool := (List.range n).map fun i => vo.testBit i
def iterF (n li : Nat) (ls : List Nat) (vs : List Bool) (t : Nat) : Nat → List Bool
  | 0 => vs
  | k + 1 => phaseF n li ls (iterF n li ls vs t k) k t

theorem iterF_len {n li : Nat} {ls : List Nat} {vs : List Bool} {t : Nat} (h : vs.length = n) : ∀ k, (iterF n li ls vs t k).length = n
  | 0 => h
  | k + 1 => by simp [iterF, phaseF]

def playC (n t : Int) (li vo : Nat) : Int :=
  if n < 1 ∨ 9 < n ∨ t < 0 ∨ n - 1 < t then 1 else if (li ||| vo) >>> n.toNat ≠ 0 then 2 else 0
def playL (n t : Int) (li vo : Nat) (ls : List Nat) : List Bool :=
  if playC n t li vo = 0 then iterF n.toNat li ls (startF n.toNat vo) t.toNat (t.toNat + 1) else []

/-- what Play tells -/
def PlayPost (n t : Int) (li vo : Nat) (ls : List Nat) (w : World) (e : Ending) (w' : World) : Prop :=
  ∃ v, e = .returned (.tuple #[v, .int .i64 (playC n t li vo)]) ∧ OwS FB 1 w' w.heap.size v (playL n t li vo ls) ∧ Below w.heap.size w w'

theorem playPost_none {n t : Int} {li vo : Nat} {ls : List Nat} {w : World} {c : Int} (hc : playC n t li vo = c) (h0 : c ≠ 0) : PlayPost n t li vo ls w (.returned (.tuple #[.slice none 0 0, .int .i64 c])) w :=
  ⟨_, ret_pair rfl hc.symm, by unfold playL; rw [if_neg (by rw [hc]; exact h0)]; exact OwS.nil _ _, Below.refl _ _⟩

set_option maxHeartbeats 2000000 in
theorem play_any (n t : Int) (li vo : Nat) (v : Value) (ls : List Nat) (w : World) (h : Sl U64 w v ls) (hls : ∀ q ∈ ls, q < 18446744073709551616) (hx : li < 4294967296) (hvx : vo < 4294967296) :
    Calls Try.prog 5 #[.int .i64 n, .int .i64 t, .int .u32 li, .int .u32 vo, v] w (PlayPost n t li vo ls w) := by
  have h0 := h
  obtain ⟨a, cap, rfl, hm, hnn, hc⟩ := h
  clear hc hnn
  by_cases hg : n < 1 ∨ 9 < n ∨ t < 0 ∨ n - 1 < t
  · have HC := Lib.hid (show playC n t li vo = 1 by unfold playC; rw [if_pos hg])
    clear hls
    by_cases g1 : n < 1
    · go_enter Try.func5, Try.ntmps5
      go_wp2
      all_goals first | (exfalso; omega) | (go_ret2; exact playPost_none HC.out (by decide))
    · by_cases g2 : 9 < n
      · go_enter Try.func5, Try.ntmps5
        go_wp2
        all_goals first | (exfalso; omega) | (go_ret2; exact playPost_none HC.out (by decide))
      · by_cases g3 : t < 0
        · go_enter Try.func5, Try.ntmps5
          go_wp2
          all_goals first | (exfalso; omega) | (go_ret2; exact playPost_none HC.out (by decide))
        · have g4 : n - 1 < t := by omega
          clear hg
          go_enter Try.func5, Try.ntmps5
          go_wp2
          all_goals first | (exfalso; omega) | (go_ret2; exact playPost_none HC.out (by decide))
  · obtain ⟨m, rfl⟩ := Int.eq_ofNat_of_zero_le (show 0 ≤ n by omega)
    obtain ⟨s, rfl⟩ := Int.eq_ofNat_of_zero_le (show 0 ≤ t by omega)
    obtain ⟨m1, m2, m3⟩ : 1 ≤ m ∧ m ≤ 9 ∧ s < m := by omega
    have hor := u32_or hx hvx
    have horl : li ||| vo < 4294967296 := Nat.or_lt_two_pow (n := 32) hx hvx
    have hpc : playC (m : Int) (s : Int) li vo = if (li ||| vo) >>> m ≠ 0 then 2 else 0 := by unfold playC; rw [if_neg hg, Int.toNat_natCast]
    have hsh := shr_cast (li ||| vo) m
    have hmi : (m : Int) < 32 := by omega
    by_cases hz : (li ||| vo) >>> m = 0
    · rw [if_neg (by simpa using hz)] at hpc
      rw [hz] at hsh
      have hpl : playL (m : Int) (s : Int) li vo ls = iterF m li ls (startF m vo) s (s + 1) := by unfold playL; rw [if_pos hpc, Int.toNat_natCast, Int.toNat_natCast]
      have HPC := Lib.hid hpc
      have HPL := Lib.hid hpl
      generalize li ||| vo = lv at *
      have hsh' : (lv : Int) / 2 ^ m = 0 := hsh
      have hbit := fun j => u32_shr_and (x := vo) (i := j) hvx
      have HB := Lib.hid hbit
      have mk1 := fun w => run_mk Try.eB (n := m) (by omega) (by omega) w
      have HPH := Lib.hid (fun w1 vv vs k (hv : Sl Value.bool w1 vv vs) (hvn : vs.length = m) (hk : k < m) (hb : Below w.heap.size w w1) => phase_any m li _ vv ls vs k s w1 (h0.below hb) hv hvn hls hx m2 hk (by omega))
      clear hg hpc hpl hz hsh hbit hls
      go_enter Try.func5, Try.ntmps5
      go_wp2_with fail
      all_goals first | (exfalso; omega) | skip
      obtain ⟨W, hW⟩ : ∃ W, W = w.alloc (Obj.cells #[.int .i64 m, .int .u32 li, .slice a ls.length cap] 34) := ⟨_, rfl⟩
      have c0 : W.cell? ⟨w.heap.size, 0, none⟩ = some (.int .i64 m) := by rw [hW, World.cell?_alloc_at _ _ _ _ rfl]; rfl
      have c1 : W.cell? ⟨w.heap.size, 1, none⟩ = some (.int .u32 li) := by rw [hW, World.cell?_alloc_at _ _ _ _ rfl]; rfl
      have c2 : W.cell? ⟨w.heap.size, 2, none⟩ = some (.slice a ls.length cap) := by rw [hW, World.cell?_alloc_at _ _ _ _ rfl]; rfl
      have hsz : W.heap.size = w.heap.size + 1 := by rw [hW]; simp
      have b1 : Below w.heap.size w W := by rw [hW]; exact (Below.refl _ _).alloc (Nat.le_refl _) _
      rw [← hW]
      have HC := Lib.hid (And.intro c0 (And.intro c1 c2))
      clear hW
      have hon := OwS.made (f := FB) (sz := 1) (e := 4) (z := .bool false) W W.heap.size m false (fun _ => rfl) rfl (Nat.le_refl _)
      rw [← fill_zero (fun j => vo.testBit j)] at hon
      have hb2 : Below W.heap.size W (W.alloc (Obj.cells (madeRow (.bool false) 1 m) 4)) := (Below.refl _ _).alloc (Nat.le_refl _) _
      have hsz2 : (W.alloc (Obj.cells (madeRow (.bool false) 1 m) 4)).heap.size = W.heap.size + 1 := by simp
      rw [← hsz]
      generalize W.alloc (Obj.cells (madeRow (.bool false) 1 m) 4) = X at *
      have HON := Lib.hid hon
      have HSZ := Lib.hid hsz
      clear c0 c1 c2 hon hsz hsz2
      go_loopw [46] (fun i wr => ∃ q : Nat, q ≤ m ∧ i = .int .i64 q ∧ OwS FB 1 wr W.heap.size (.slice (some ⟨W.heap.size, 0, none⟩) m m) (fill (fun j => vo.testBit j) false m q) ∧ Below W.heap.size W wr) (fun i _ => m - (intOf i).toNat)
      case atStart => exact ⟨0, Nat.zero_le _, rfl, HON.out, hb2⟩
      case round =>
        obtain ⟨q, hq, rfl, hon, hbq⟩ := hrel
        by_cases hql : q < m
        · obtain ⟨xn, hxn⟩ := get_of_lt (show q < (fill (fun j => vo.testBit j) false m q).length by rw [fill_len]; exact hql)
          have t4 := hon.cell1 hxn
          have t5 := hon.free1 (j := q) hql
          have hstep := hon.stored1 (p := Value.bool) (j := q) (by rw [fill_len]; exact hql) (vo.testBit q)
          rw [fill_set (fun j => vo.testBit j) false hql] at hstep
          have HST := Lib.hid hstep
          have HBS := Lib.hid (hbq.setCell (show W.heap.size ≤ (⟨W.heap.size, q, none⟩ : Addr).block from Nat.le_refl _) (.bool (vo.testBit q)))
          have hbv : (bits .and .u32 ((vo : Int) / 2 ^ q) 1 == 1) = vo.testBit q := by rw [HB.out q]; cases vo.testBit q <;> rfl
          have hqi : (q : Int) < 32 := by omega
          clear hstep hxn hon
          go_wp2_with fail
          all_goals first | (exfalso; omega) | skip
          go_roundw
          case rel => exact ⟨q + 1, by omega, by go_num, HST.out, HBS.out⟩
          case measure => simp [intOf]; omega
        · obtain rfl : q = m := by omega
          rw [fill_all] at hon
          have hws : W.heap.size < wr.heap.size := (hon.lt W.heap.size rfl).2
          have hon' : OwS FB 1 wr W.heap.size (.slice (some ⟨W.heap.size, 0, none⟩) q q) (iterF q li ls (startF q vo) s 0) := hon
          have HON2 := Lib.hid hon'
          clear hon hon'
          obtain ⟨wo, rfl⟩ : ∃ wo : World, wo = wr := ⟨_, rfl⟩
          go_wp2_with fail
          all_goals first | (exfalso; omega) | skip
          go_loopw [13, 60] (fun vl i wr => ∃ k : Nat, k ≤ s + 1 ∧ i = .int .i64 k ∧ OwS FB 1 wr w.heap.size vl (iterF q li ls (startF q vo) s k) ∧ Below W.heap.size W wr) (fun _ i _ => s + 1 - (intOf i).toNat)
          case atStart => exact ⟨0, Nat.zero_le _, rfl, HON2.out.mono b1.size, hbq⟩
          case round =>
            obtain ⟨k, hk, rfl, hol, hbr⟩ := hrel
            have hbw : Below w.heap.size w wr := b1.trans (hbr.mono b1.size)
            have HL := Lib.hid (iterF_len (n := q) (li := li) (ls := ls) (vs := startF q vo) (t := s) (by simp [startF]) k)
            by_cases hkl : k < s + 1
            · have d0 : wr.cell? ⟨w.heap.size, 0, none⟩ = some (.int .i64 q) := (hbr.cell (p := ⟨w.heap.size, 0, none⟩) (by rw [HSZ.out]; exact Nat.lt_succ_self _)).trans HC.out.1
              have d1 : wr.cell? ⟨w.heap.size, 1, none⟩ = some (.int .u32 li) := (hbr.cell (p := ⟨w.heap.size, 1, none⟩) (by rw [HSZ.out]; exact Nat.lt_succ_self _)).trans HC.out.2.1
              have d2 : wr.cell? ⟨w.heap.size, 2, none⟩ = some (.slice a ls.length cap) := (hbr.cell (p := ⟨w.heap.size, 2, none⟩) (by rw [HSZ.out]; exact Nat.lt_succ_self _)).trans HC.out.2.2
              have hph := HPH.out wr u13 _ k ((hol.sl (by rw [HL.out]; omega)).one) HL.out (by omega) hbw
              have HP1 := Lib.hid hph
              clear hph
              go_wp2_with fail
              all_goals first | (exfalso; omega) | skip
              refine HP1.out.mono ?_
              rintro e w2 ⟨v2, rfl, ho2, hb2'⟩
              go_wp2_with fail
              go_roundw
              case rel => exact ⟨k + 1, by omega, by go_num, ho2.mono hbw.size, hbr.trans (hb2'.mono hbr.size)⟩
              case measure => simp [intOf]; omega
            · obtain rfl : k = s + 1 := by omega
              go_wp2_with fail
              all_goals first | (exfalso; omega) | skip
              go_ret2
              exact ⟨_, ret_pair rfl HPC.out.symm, by rw [HPL.out]; exact hol, hbw⟩
    · rw [if_pos hz] at hpc
      have HPC := Lib.hid hpc
      have hnz : (((li ||| vo) >>> m : Nat) : Int) ≠ 0 := by omega
      rw [← hsh] at hnz
      generalize li ||| vo = lv at *
      have hd : ((lv : Int) / 2 ^ m != 0) = true := by simpa using hnz
      clear hg hpc hls hz hsh
      go_enter Try.func5, Try.ntmps5
      go_wp2_with fail
      all_goals first | (exfalso; omega) | skip
      go_ret2
      exact playPost_none HPC.out (by decide)
end Go.Proofs.Ythlhmilckenoaaa
