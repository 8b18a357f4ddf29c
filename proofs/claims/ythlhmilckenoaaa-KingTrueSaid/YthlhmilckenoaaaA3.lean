/- The walk of a phase in the court. -/
import Derived.Test.YthlhmilckenoaaaA2
import Derived.Deep.Cut
namespace Go.Proofs.Ythlhmilckenoaaa
open Go.RowKit
attribute [local go_sem] EffAt EffUpon

theorem Try.eB : Elem Try.prog 24 4 (.bool false) 1 1 := ⟨Try.underlying24, by kernel_rfl, rfl, by decide⟩
theorem Try.eC : Elem Try.prog 37 3 (.int .i64 0) 1 8 := ⟨Try.underlying37, by kernel_rfl, rfl, by decide⟩
abbrev FB : Bool → List Value := fun x => [Value.bool x]
abbrev FN : Nat → List Value := fun x => [Value.int .i64 x]

/-- the votes behind a phase -/
def phaseF (n li : Nat) (ls : List Nat) (vs : List Bool) (k t : Nat) : List Bool :=
  (List.range n).map fun j => if n + 2 * t < 2 * pollC n li ls vs j (2 * k) then pollB n li ls vs j (2 * k) else saysF n li ls k j (2 * k + 1) (pollB n li ls vs k (2 * k))

theorem pollC_le {n li : Nat} {ls : List Nat} {vs : List Bool} {j a : Nat} : pollC n li ls vs j a ≤ n := by
  unfold pollC
  have := yesF_le n li ls vs j a n
  split <;> omega

/-- what the first two makes leave -/
def Two (n B : Nat) (w0 : World) (v9 v10 : Value) (wc : World) : Prop :=
  ∃ gm gc, v9 = .slice (some ⟨gm, 0, none⟩) n n ∧ v10 = .slice (some ⟨gc, 0, none⟩) n n ∧ gm ≠ gc ∧ B ≤ gm ∧ B ≤ gc ∧ OwS FB 1 wc B v9 (List.replicate n false) ∧ OwS FN 1 wc B v10 (List.replicate n 0) ∧ Below B w0 wc

theorem two_bc (n : Nat) (w0 : World) : Two n w0.heap.size w0 (.slice (some ⟨w0.heap.size, 0, none⟩) n n) (.slice (some ⟨w0.heap.size + 1, 0, none⟩) n n) ((w0.alloc (.cells (madeRow (.bool false) 1 n) 4)).alloc (.cells (madeRow (.int .i64 0) 1 n) 3)).drew := by
  have h1 := OwS.made (f := FB) (sz := 1) (e := 4) (z := .bool false) w0 w0.heap.size n false (fun _ => rfl) rfl (Nat.le_refl _)
  have h2 := OwS.made (f := FN) (sz := 1) (e := 3) (z := .int .i64 0) (w0.alloc (.cells (madeRow (.bool false) 1 n) 4)) w0.heap.size n 0 (fun _ => rfl) rfl (by simp)
  have hs : (w0.alloc (.cells (madeRow (.bool false) 1 n) 4)).heap.size = w0.heap.size + 1 := by simp
  rw [hs] at h2
  exact ⟨_, _, rfl, rfl, by omega, Nat.le_refl _, by omega, (h1.below ((Below.refl _ _).alloc (Nat.le_refl _) _)).below (Below.refl _ _).drew, h2.below (Below.refl _ _).drew, (((Below.refl _ _).alloc (Nat.le_refl _) _).alloc (by simp) _).drew⟩
theorem two_cb (n : Nat) (w0 : World) : Two n w0.heap.size w0 (.slice (some ⟨w0.heap.size + 1, 0, none⟩) n n) (.slice (some ⟨w0.heap.size, 0, none⟩) n n) ((w0.alloc (.cells (madeRow (.int .i64 0) 1 n) 3)).alloc (.cells (madeRow (.bool false) 1 n) 4)).drew := by
  have h1 := OwS.made (f := FN) (sz := 1) (e := 3) (z := .int .i64 0) w0 w0.heap.size n 0 (fun _ => rfl) rfl (Nat.le_refl _)
  have h2 := OwS.made (f := FB) (sz := 1) (e := 4) (z := .bool false) (w0.alloc (.cells (madeRow (.int .i64 0) 1 n) 3)) w0.heap.size n false (fun _ => rfl) rfl (by simp)
  have hs : (w0.alloc (.cells (madeRow (.int .i64 0) 1 n) 3)).heap.size = w0.heap.size + 1 := by simp
  rw [hs] at h2
  exact ⟨_, _, rfl, rfl, by omega, by omega, Nat.le_refl _, h2.below (Below.refl _ _).drew, (h1.below ((Below.refl _ _).alloc (Nat.le_refl _) _)).below (Below.refl _ _).drew, (((Below.refl _ _).alloc (Nat.le_refl _) _).alloc (by simp) _).drew⟩

set_option maxHeartbeats 2000000 in
theorem phase_any (n li : Nat) (v vv : Value) (ls : List Nat) (vs : List Bool) (k t : Nat) (w : World) (h : Sl U64 w v ls) (hv : Sl Value.bool w vv vs) (hvn : vs.length = n) (hls : ∀ q ∈ ls, q < 18446744073709551616) (hx : li < 4294967296) (hn : n ≤ 9) (hk : k < n) (ht : t ≤ 9) :
    Calls Try.prog 10 #[.agg #[.int .i64 n, .int .u32 li, v], vv, .int .i64 k, .int .i64 t] w fun e w' => ∃ v', e = .returned v' ∧ OwS FB 1 w' w.heap.size v' (phaseF n li ls vs k t) ∧ Below w.heap.size w w' := by
  have h0 := h
  have hv0 := hv
  obtain ⟨a, cap, rfl, hm, hnn, hc⟩ := h
  obtain ⟨a', cap', rfl, hm', hnn', hc'⟩ := hv
  clear hc hc' hnn hnn'
  have mk1 := fun w => run_mk Try.eB (n := n) (by omega) (by omega) w
  have mk2 := fun w => run_mk Try.eC (n := n) (by omega) (by omega) w
  have HP := Lib.hid (fun w1 j (hj : j < 9) (hb : Below w.heap.size w w1) => poll_any n li _ _ ls vs j (2 * k) w1 (h0.below hb) (hv0.below hb) hvn hls hx hn hj (by omega))
  have HS := Lib.hid (fun w1 j x (hj : j < 9) (hb : Below w.heap.size w w1) => says_any n li _ ls k j (2 * k + 1) x w1 (h0.below hb) hls hx hn (by omega) hj (by omega))
  have HVN := Lib.hid hvn
  clear hvn
  go_enter Try.func10, Try.ntmps10
  go_wp2_with fail
  obtain ⟨W, hW⟩ : ∃ W, W = w.alloc (Obj.cells #[.int .i64 n, .int .u32 li, .slice a ls.length cap] 34) := ⟨_, rfl⟩
  have c0 : W.cell? ⟨w.heap.size, 0, none⟩ = some (.int .i64 n) := by rw [hW, World.cell?_alloc_at _ _ _ _ rfl]; rfl
  have c1 : W.cell? ⟨w.heap.size, 1, none⟩ = some (.int .u32 li) := by rw [hW, World.cell?_alloc_at _ _ _ _ rfl]; rfl
  have c2 : W.cell? ⟨w.heap.size, 2, none⟩ = some (.slice a ls.length cap) := by rw [hW, World.cell?_alloc_at _ _ _ _ rfl]; rfl
  have hsz : w.heap.size < W.heap.size := by rw [hW]; simp
  have b1 : Below w.heap.size w W := by rw [hW]; exact (Below.refl _ _).alloc (Nat.le_refl _) _
  rw [← hW]
  have HC := Lib.hid (And.intro c0 (And.intro c1 c2))
  clear hW
  go_cut [9, 10] from 14 (fun v9 v10 wc => Two n W.heap.size W v9 v10 wc)
  case first =>
    have e1 : W.heap.size + 1 = W.heap.size + 1 := rfl
    go_region
    all_goals
      go_wp2_with fail
      go_meet
    case rel => exact two_bc n W
    case rel => exact two_cb n W
  case rest =>
    obtain ⟨gm, gc, rfl, rfl, hne, hgm, hgc, hom, hoc, hbc⟩ := hcut
    have hgne : gc ≠ gm := fun e => hne e.symm
    have hwc := hbc.size
    have dc : ∀ wr, Below W.heap.size wc wr → wr.cell? ⟨w.heap.size, 0, none⟩ = some (.int .i64 n) ∧ wr.cell? ⟨w.heap.size, 1, none⟩ = some (.int .u32 li) ∧ wr.cell? ⟨w.heap.size, 2, none⟩ = some (.slice a ls.length cap) := fun wr hb => by
      have hb' := hbc.trans hb
      exact ⟨(hb'.cell (p := ⟨w.heap.size, 0, none⟩) hsz).trans HC.out.1, (hb'.cell (p := ⟨w.heap.size, 1, none⟩) hsz).trans HC.out.2.1, (hb'.cell (p := ⟨w.heap.size, 2, none⟩) hsz).trans HC.out.2.2⟩
    have DC := Lib.hid dc
    clear dc c0 c1 c2
    have hd := DC.out wc (Below.refl _ _)
    obtain ⟨d0, d1, d2⟩ := hd
    go_wp2_with fail
    clear d0 d1 d2
    have hom0 : OwS FB 1 wc W.heap.size (.slice (some ⟨gm, 0, none⟩) n n) (fill (fun j => pollB n li ls vs j (2 * k)) false n 0) := by rw [fill_zero]; exact hom
    have hoc0 : OwS FN 1 wc W.heap.size (.slice (some ⟨gc, 0, none⟩) n n) (fill (fun j => pollC n li ls vs j (2 * k)) 0 n 0) := by rw [fill_zero]; exact hoc
    have HI := Lib.hid (And.intro hom0 hoc0)
    clear hom hoc hom0 hoc0
    go_loopw [22] (fun i wr => ∃ m : Nat, m ≤ n ∧ i = .int .i64 m ∧ OwS FB 1 wr W.heap.size (.slice (some ⟨gm, 0, none⟩) n n) (fill (fun j => pollB n li ls vs j (2 * k)) false n m) ∧ OwS FN 1 wr W.heap.size (.slice (some ⟨gc, 0, none⟩) n n) (fill (fun j => pollC n li ls vs j (2 * k)) 0 n m) ∧ Below W.heap.size wc wr) (fun i _ => n - (intOf i).toNat)
    case atStart => exact ⟨0, Nat.zero_le _, rfl, HI.out.1, HI.out.2, Below.refl _ _⟩
    case round =>
      obtain ⟨m, hmm, rfl, hom, hoc, hbr⟩ := hrel
      have hbw : Below w.heap.size w wr := b1.trans ((hbc.trans hbr).mono b1.size)
      by_cases hlt : m < n
      · obtain ⟨d0, d1, d2⟩ := DC.out wr hbr
        have HPM := Lib.hid (HP.out wr m (by omega) hbw)
        have hpcl := pollC_le (n := n) (li := li) (ls := ls) (vs := vs) (j := m) (a := 2 * k)
        have hsr := hbr.size
        have hlm := (hom.lt gm rfl).2
        have hlc := (hoc.lt gc rfl).2
        go_wp2_with fail
        have ek : (2 : Int) * (k : Int) = ((2 * k : Nat) : Int) := by omega
        rw [ek]
        clear ek
        refine HPM.out.mono ?_
        rintro e w2 ⟨rfl, hb2⟩
        have hom2 := hom.below hb2
        have hoc2 := hoc.below hb2
        obtain ⟨xm, hxm⟩ := get_of_lt (show m < (fill (fun j => pollB n li ls vs j (2 * k)) false n m).length by rw [fill_len]; exact hlt)
        obtain ⟨xc, hxc⟩ := get_of_lt (show m < (fill (fun j => pollC n li ls vs j (2 * k)) 0 n m).length by rw [fill_len]; exact hlt)
        have t1 := hom2.cell1 hxm
        have t2 := hom2.free1 (j := m) hlt
        have t3 : (w2.setCell ⟨gm, m, none⟩ (.bool (pollB n li ls vs m (2 * k)))).cell? ⟨gc, m, none⟩ = some (.int .i64 xc) := (World.cell?_setCell_other _ _ _ _ (fun e => hne (by cases e; rfl))).trans (hoc2.cell1 hxc)
        have t4 : (w2.setCell ⟨gm, m, none⟩ (.bool (pollB n li ls vs m (2 * k)))).frozen? ⟨gc, m, none⟩ = false := by rw [World.frozen?_setCell]; exact hoc2.free1 hlt
        have hom3 := hom2.stored1 (p := Value.bool) (j := m) (by rw [fill_len]; exact hlt) (pollB n li ls vs m (2 * k))
        have hoc3 := hoc2.stored1 (p := fun x : Nat => Value.int .i64 x) (j := m) (by rw [fill_len]; exact hlt) (pollC n li ls vs m (2 * k))
        rw [fill_set (fun j => pollB n li ls vs j (2 * k)) false hlt] at hom3
        rw [fill_set (fun j => pollC n li ls vs j (2 * k)) 0 hlt] at hoc3
        have hoc4 := (hoc2.kept (grownBy_setCell w2 ⟨gm, m, none⟩ (.bool (pollB n li ls vs m (2 * k)))) (.inr (by simp [Value.ownBlock]; exact hgne))).stored1 (p := fun x : Nat => Value.int .i64 x) (j := m) (by rw [fill_len]; exact hlt) (pollC n li ls vs m (2 * k))
        rw [fill_set (fun j => pollC n li ls vs j (2 * k)) 0 hlt] at hoc4
        have hom4 := hom3.kept (grownBy_setCell _ ⟨gc, m, none⟩ (.int .i64 (pollC n li ls vs m (2 * k)))) (.inr (by simp [Value.ownBlock]; exact hne))
        have hb4 : Below W.heap.size wc ((w2.setCell ⟨gm, m, none⟩ (.bool (pollB n li ls vs m (2 * k)))).setCell ⟨gc, m, none⟩ (.int .i64 (pollC n li ls vs m (2 * k)))) := ((hbr.trans (hb2.mono (by omega))).setCell (by exact hgm) _).setCell (by exact hgc) _
        have H4 := Lib.hid (And.intro hom4 (And.intro hoc4 hb4))
        clear hom3 hoc3 hom4 hoc4 hb4 hxm hxc hom2 hoc2 hom hoc
        generalize pollB n li ls vs m (2 * k) = pb at *
        generalize pollC n li ls vs m (2 * k) = pc at *
        go_wp2_with fail
        go_roundw
        case rel => exact ⟨m + 1, by omega, by go_num, H4.out.1, H4.out.2.1, H4.out.2.2⟩
        case measure => simp [intOf]; omega
      · obtain rfl : m = n := by omega
        rw [fill_all] at hom hoc
        obtain ⟨d0, d1, d2⟩ := DC.out wr hbr
        have hsr := hbr.size
        have hlm := (hom.lt gm rfl).2
        have hlc := (hoc.lt gc rfl).2
        go_wp2_with fail
        clear d0 d1 d2
        obtain ⟨X, hX⟩ : ∃ X, X = wr.alloc (Obj.cells (madeRow (.bool false) 1 m) 4) := ⟨_, rfl⟩
        have hon := OwS.made (f := FB) (sz := 1) (e := 4) (z := .bool false) wr wr.heap.size m false (fun _ => rfl) rfl (Nat.le_refl _)
        have hbX : Below wr.heap.size wr X := by rw [hX]; exact (Below.refl _ _).alloc (Nat.le_refl _) _
        rw [← fill_zero (fun j => if m + 2 * t < 2 * pollC m li ls vs j (2 * k) then pollB m li ls vs j (2 * k) else saysF m li ls k j (2 * k + 1) (pollB m li ls vs k (2 * k)))] at hon
        rw [← hX] at hon
        have HN := Lib.hid hon
        have HO := Lib.hid (And.intro hom hoc)
        clear hon hom hoc
        rw [← hX]
        clear hX
        obtain ⟨wo, rfl⟩ : ∃ wo : World, wo = wr := ⟨_, rfl⟩
        go_loopw [46] (fun i wq => ∃ q : Nat, q ≤ m ∧ i = .int .i64 q ∧ OwS FB 1 wq wo.heap.size (.slice (some ⟨wo.heap.size, 0, none⟩) m m) (fill (fun j => if m + 2 * t < 2 * pollC m li ls vs j (2 * k) then pollB m li ls vs j (2 * k) else saysF m li ls k j (2 * k + 1) (pollB m li ls vs k (2 * k))) false m q) ∧ Below wo.heap.size wo wq) (fun i _ => m - (intOf i).toNat)
        case atStart => exact ⟨0, Nat.zero_le _, rfl, HN.out, hbX⟩
        case round =>
          obtain ⟨q, hq, rfl, hon, hbq⟩ := hrel
          have hbw2 : Below w.heap.size w wr := hbw.trans (hbq.mono (by have := hbw.size; omega))
          by_cases hql : q < m
          · obtain ⟨d0, d1, d2⟩ := DC.out wr (hbr.trans (hbq.mono (by omega)))
            have homr := HO.out.1.below hbq
            have hocr := HO.out.2.below hbq
            have hpcl := pollC_le (n := m) (li := li) (ls := ls) (vs := vs) (j := q) (a := 2 * k)
            have t1 := hocr.cell1 (j := q) (x := pollC m li ls vs q (2 * k)) (by rw [List.getElem?_map, List.getElem?_range hql]; rfl)
            have t2 := homr.cell1 (j := q) (x := pollB m li ls vs q (2 * k)) (by rw [List.getElem?_map, List.getElem?_range hql]; rfl)
            have t3 := homr.cell1 (j := k) (x := pollB m li ls vs k (2 * k)) (by rw [List.getElem?_map, List.getElem?_range hk]; rfl)
            obtain ⟨xn, hxn⟩ := get_of_lt (show q < (fill (fun j => if m + 2 * t < 2 * pollC m li ls vs j (2 * k) then pollB m li ls vs j (2 * k) else saysF m li ls k j (2 * k + 1) (pollB m li ls vs k (2 * k))) false m q).length by rw [fill_len]; exact hql)
            have t4 := hon.cell1 hxn
            have t5 := hon.free1 (j := q) hql
            have hstep := fun (w2 : World) (hb : Below wr.heap.size wr w2) => (hon.below hb).stored1 (p := Value.bool) (j := q) (by rw [fill_len]; exact hql) (if m + 2 * t < 2 * pollC m li ls vs q (2 * k) then pollB m li ls vs q (2 * k) else saysF m li ls k q (2 * k + 1) (pollB m li ls vs k (2 * k)))
            rw [fill_set (fun j => if m + 2 * t < 2 * pollC m li ls vs j (2 * k) then pollB m li ls vs j (2 * k) else saysF m li ls k j (2 * k + 1) (pollB m li ls vs k (2 * k))) false hql] at hstep
            have HST := Lib.hid hstep
            have hbset := fun (w2 : World) (x : Value) (hb : Below wr.heap.size wr w2) => ((hbq.trans (hb.mono hbq.size)).setCell (show wo.heap.size ≤ (⟨wo.heap.size, q, none⟩ : Addr).block from Nat.le_refl _) x)
            have HBS := Lib.hid hbset
            have hln := (hon.lt wo.heap.size rfl).2
            clear hstep hxn hbset hon
            have i0 : (0 : Int) ≤ (q : Int) := by omega
            have i1 : (q : Int) < (m : Int) := by omega
            have i2 : (k : Int) < (m : Int) := by omega
            have i3 : (0 : Int) ≤ (k : Int) := by omega
            have HSQ := Lib.hid (fun w1 (hb : Below wr.heap.size wr w1) => HS.out w1 q (pollB m li ls vs k (2 * k)) (by omega) (hbw2.trans (hb.mono hbw2.size)))
            generalize hpc : pollC m li ls vs q (2 * k) = pc at *
            have HPC := Lib.hid hpc
            clear hpc
            have e1 : IntKind.i64.wrap (2 * (pc : Int)) = 2 * (pc : Int) := IntWalk.i64_in _ (by omega)
            have e2 : IntKind.i64.wrap (2 * (t : Int)) = 2 * (t : Int) := IntWalk.i64_in _ (by omega)
            have e3 : IntKind.i64.wrap ((m : Int) + 2 * (t : Int)) = (m : Int) + 2 * (t : Int) := IntWalk.i64_in _ (by omega)
            by_cases hgt : m + 2 * t < 2 * pc
            · have hd1 : decide ((m : Int) + 2 * (t : Int) < 2 * (pc : Int)) = true := by simp; omega
              rw [if_pos hgt] at HST
              go_wp2_with fail
              go_quiet (fail)
              clear e1 e2 e3
              go_wp2_with fail
              go_roundw
              case rel => exact ⟨q + 1, by omega, by go_num, HST.out _ (below_drewN (Below.refl _ _) _), HBS.out _ _ (below_drewN (Below.refl _ _) _)⟩
              case measure => simp [intOf]; omega
            · have hd1 : decide ((m : Int) + 2 * (t : Int) < 2 * (pc : Int)) = false := by simp; omega
              rw [if_neg hgt] at HST
              obtain ⟨kb, hkb⟩ : ∃ kb : Nat, 2 * k + 1 = kb := ⟨_, rfl⟩
              rw [hkb] at HST HSQ
              have f1 : IntKind.i64.wrap (2 * (k : Int)) = 2 * (k : Int) := IntWalk.i64_in _ (by omega)
              have f2 : IntKind.i64.wrap (2 * (k : Int) + 1) = (kb : Int) := by rw [IntWalk.i64_in _ (by omega)]; omega
              have HKB := Lib.hid hkb
              clear hkb
              go_wp2_with fail
              go_quiet (fail)
              clear e1 e2 e3
              go_wp2_with fail
              obtain ⟨w1, hw1⟩ : ∃ w1, w1 = wr.drewN nq := ⟨_, rfl⟩
              rw [← hw1]
              have hb1 : Below wr.heap.size wr w1 := by rw [hw1]; exact below_drewN (Below.refl _ _) _
              have hs1 : w1.heap.size = wr.heap.size := by rw [hw1]; rfl
              have HS1 := Lib.hid hs1
              clear hw1 hs1
              obtain ⟨St, hne', F, hF, hC'⟩ := stable_class wr.heap.size wr
              have g0 : ∀ s, (F s).cell? ⟨w.heap.size, 0, none⟩ = some (.int .i64 m) := fun s => ((hF s).cell (p := ⟨w.heap.size, 0, none⟩) (by show w.heap.size < _; omega)).trans d0
              have g1 : ∀ s, (F s).cell? ⟨w.heap.size, 1, none⟩ = some (.int .u32 li) := fun s => ((hF s).cell (p := ⟨w.heap.size, 1, none⟩) (by show w.heap.size < _; omega)).trans d1
              have g2 : ∀ s, (F s).cell? ⟨w.heap.size, 2, none⟩ = some (.slice a ls.length cap) := fun s => ((hF s).cell (p := ⟨w.heap.size, 2, none⟩) (by show w.heap.size < _; omega)).trans d2
              have g3 : ∀ s, (F s).cell? ⟨gm, k, none⟩ = some (.bool (pollB m li ls vs k (2 * k))) := fun s => ((hF s).cell (p := ⟨gm, k, none⟩) (by show gm < _; omega)).trans t3
              have g4 : ∀ s, (F s).cell? ⟨wo.heap.size, q, none⟩ = some (.bool xn) := fun s => ((hF s).cell (p := ⟨wo.heap.size, q, none⟩) hln).trans t4
              have g5 : ∀ s, (F s).frozen? ⟨wo.heap.size, q, none⟩ = false := fun s => ((hF s).frozen (p := ⟨wo.heap.size, q, none⟩) hln).trans t5
              have HCC := Lib.hid hC'
              have HF := Lib.hid hF
              clear hC' hF t1 t2 t3 t4 t5
              refine wp_region_ord (fun _ => false) 14 [0, 1, 2, 3, 4, 5, 6, 7, 8, 9, 10, 11, 12, 13] (fun _ w' => ∃ s, w' = F s) (by kernel_rfl) (by kernel_rfl) (HCC.out _ hb1.drew) ?_
              repeat (refine gWalk_val (fun w' => ∃ s, w' = F s) rfl rfl rfl rfl (fun _ _ h => h) (fun K hK => ?_); simp only [List.getElem_toArray, List.getElem_cons_zero, List.getElem_cons_succ]; go_big_quiet_op; refine hK _ ?_; clear hK K)
              refine gWalk_call (.bool (saysF m li ls k q kb (pollB m li ls vs k (2 * k)))) rfl rfl rfl (by decide +kernel) ?_ ?_
              · rintro _ ⟨s, rfl⟩
                simp only [List.getElem_toArray, List.getElem_cons_zero, List.getElem_cons_succ]
                go_simp
                refine (HSQ.out _ (HF.out s)).mono ?_
                rintro e w' ⟨rfl, hb'⟩
                exact ⟨_, rfl, rfl, HCC.out _ ((HF.out s).trans (hb'.mono (HF.out s).size))⟩
              simp only [List.getElem_toArray, List.getElem_cons_zero, List.getElem_cons_succ, Act.put, List.setIfInBounds_toArray, List.set_cons_succ, List.set_cons_zero]
              repeat (refine gWalk_val (fun w' => ∃ s, w' = F s) rfl rfl rfl rfl (fun _ _ h => h) (fun K hK => ?_); simp only [List.getElem_toArray, List.getElem_cons_zero, List.getElem_cons_succ]; go_big_quiet_op; refine hK _ ?_; clear hK K)
              rintro _ ⟨s, rfl⟩
              simp only [List.drop_succ_cons, List.drop_zero]
              go_wp2_with fail
              go_roundw
              case rel => exact ⟨q + 1, by omega, by go_num, by rw [HKB.out]; exact HST.out _ (HF.out s), HBS.out _ _ (HF.out s)⟩
              case measure => simp [intOf]; omega
          · obtain rfl : q = m := by omega
            rw [fill_all] at hon
            go_wp2_with fail
            go_ret
            exact ⟨_, rfl, hon.mono hbw.size, hbw2⟩
end Go.Proofs.Ythlhmilckenoaaa
