/- The bakery's other steps: to wait, to yield. -/
import Derived.Test.YthpbdckiiljegaaA1
namespace Go.Proofs.Ythpbdckiiljegaa
open Go.RowKit

theorem Try.eI : Elem Try.prog 22 3 (.int .i64 0) 1 8 := ⟨Try.underlying22, by kernel_rfl, rfl, by decide⟩

theorem kept_two {w w1 w2 : World} {F : Nat → Prop} (h : Kept F w w1) (h' : Kept F w1 w2) : Kept F w w2 := h.trans h' (Sub.refl _ _)

/-- behind an append to what went in, and its store -/
theorem ShopAt.pushed {w w1 w2 : World} {F : Nat → Prop} {B S g o cap i : Nat} {vi v' : Value} {ps ps1 : List Pr} {ins : List Nat} (h : ShopAt w F B S g o cap vi ps ins)
    (h1 : OwS FP 5 w1 B (.slice (some ⟨g, o, none⟩) ps.length cap) ps1) (hl : ps1.length = ps.length) (hk : w.grownBy w1 (some g))
    (hv : OwS FI 1 w2 B v' (ins ++ [i])) (hg : w1.grownBy w2 vi.ownBlock) (hf : v'.ownBlock = vi.ownBlock ∨ ∃ g, v'.ownBlock = some g ∧ w1.heap.size ≤ g) (hlo : ∀ k, v'.ownBlock = some k → B ≤ k) :
    ∃ F', Shop (w2.setCell ⟨S, 1, none⟩ v') F' B S ps1 (ins ++ [i]) ∧ Kept F w (w2.setCell ⟨S, 1, none⟩ v') ∧ Sub w.heap.size F F' := by
  have hgl := (h1.lt g rfl).2
  have hsl := (h.rec_.grown hk (by intro e; cases e; exact h.sg rfl)).1
  have hne : ∀ b, b < w1.heap.size → vi.ownBlock ≠ some b → v'.ownBlock ≠ some b := fun b hb hvb e => by
    rcases hf with hf | ⟨g', hg', hle⟩
    · exact hvb (by rw [← hf, e])
    · rw [hg'] at e; cases e; omega
  refine ⟨fun k => F k ∨ v'.ownBlock = some k, ⟨g, o, cap, v', ?_, ?_, ?_, h.sg, ?_, ?_, .inl h.fs, .inl h.fg, fun k hk => .inr hk, ?_, ?_⟩, ?_, ?_⟩
  · rw [hl]
    exact ((h.rec_.grown hk (by intro e; cases e; exact h.sg rfl)).grown hg h.si).stored 1 v'
  · rw [hl]
    exact (h1.kept hg (.inr (fun e => h.gi e.symm))).kept (grownBy_setCell _ _ _) (.inr (by intro e; cases e; exact h.sg rfl))
  · exact hv.kept (grownBy_setCell _ _ _) (.inr (hne S hsl h.si))
  · exact hne S hsl h.si
  · exact hne g hgl h.gi
  · rintro k (hk' | hk')
    · exact h.low k hk'
    · exact hlo k hk'
  · have hsz : w.heap.size ≤ (w2.setCell ⟨S, 1, none⟩ v').heap.size := by
      have h1 := hk.size
      have h2 := hg.size
      have h3 : (w2.setCell ⟨S, 1, none⟩ v').heap.size = w2.heap.size := by simp [World.setCell]
      omega
    rintro k (hk' | hk')
    · exact Nat.lt_of_lt_of_le (h.high k hk') hsz
    · have := (hv.lt k hk').2
      simpa [World.setCell] using this
  · exact (kept_two (Kept.grownBy hk (fun k e => by cases e; exact h.fg)) (Kept.grownBy hg h.fi)).setCell h.fs
  · rintro k hk' (hF | hF)
    · exact hF
    · rcases hf with hf | ⟨g', hg', hle⟩
      · exact h.fi k (by rw [← hf, hF])
      · rw [hg'] at hF; cases hF; have := hk.size; omega

set_option maxHeartbeats 1000000 in
theorem wait_in {S i : Nat} {ps : List Pr} {ins : List Nat} {p : Pr} {w : World} {F : Nat → Prop} {B : Nat} (h : Shop w F B S ps ins) (hi : ps[i]? = some p) (he : p.k = ps.length) (hb : ps.length ≤ 4) (hil : ins.length ≤ 1000) (hB : B ≤ w.heap.size) :
    StepsTo 15 S i w F B (ps.set i { p with at_ := 5 }) (ins ++ [i]) := by
  obtain ⟨g, o, cap, vi, h⟩ := h
  have hn := (List.getElem?_eq_some_iff.1 hi).1
  obtain ⟨⟨c0, c1, c2, c3, c4⟩, f0, f1, f2, f3, f4⟩ := h.procs.five hi
  have r0 := (h.rec_.2 0 _ rfl).1
  have r1 := (h.rec_.2 1 _ rfl).1
  have rf := (h.rec_.2 1 _ rfl).2
  have hSg := h.sg
  have hgS : g ≠ S := fun e => hSg e.symm
  have hst := fun nq => (((OwS.drewN (h.spelled hi) nq).put0 FP_len hn (.int .i64 5) { p with at_ := 5 } (by decide) rfl))
  have hown := fun nq => ((h.ins_.drewN nq).kept (gset0 (w := w.drewN nq) (g := g) (i := o + i * 5) (u := .int .i64 5)) (.inr h.gi))
  have H := Lib.hid h
  have HS := Lib.hid hst
  have HO := Lib.hid hown
  have hd : ((p.k : Int) == (ps.length : Int)) = true := by rw [cast_beq]; simpa using he
  have hsz : ∀ nq, ((w.drewN nq).setCell ⟨g, o + i * 5, none⟩ (.int .i64 5)).heap.size = w.heap.size := fun nq => by simp [World.setCell]
  clear h hi hst hown
  generalize hlen : ps.length = n at *
  go_enter Try.func15, Try.ntmps15
  go_wp2_with fail
  go_quiet (fail)
  go_wp2_with (at_builtin; refine wpList_pushS _ rfl _ _ 22 rfl Try.eI B FI (fun _ => rfl) (fun x u hu => by simp at hu; subst hu; rfl) i ((HO.out _).below ((Below.refl _ _).alloc (Nat.le_refl _) _)) rfl _ rfl ?_ (by omega) (by omega) ?_ ?_)
  · intro q u hu
    match q, hu with
    | 0, hu => simp at hu; subst hu; rw [← hsz nq, World.cell?_alloc_at _ _ _ _ rfl]; rfl
  · simp [World.setCell]; omega
  · intro v' w' hown' hg' hf'
    have hal : ((w.drewN nq).setCell ⟨g, o + i * 5, none⟩ (.int .i64 5)).grownBy (((w.drewN nq).setCell ⟨g, o + i * 5, none⟩ (.int .i64 5)).alloc (.cells #[.int .i64 i] 3)) none := Below.grownBy_none ((Below.refl _ _).alloc (Nat.le_refl _) _) none
    have hk : w.grownBy (((w.drewN nq).setCell ⟨g, o + i * 5, none⟩ (.int .i64 5)).alloc (.cells #[.int .i64 i] 3)) (some g) := grownBy_trans (gset (gdrewN (World.grownBy.refl _ _) _)) (Below.grownBy_none ((Below.refl _ _).alloc (Nat.le_refl _) _) _)
    have hr := (H.out.rec_.grown hk (by intro e; cases e; exact hSg rfl)).grown hg' H.out.si
    obtain ⟨q1, q2⟩ := hr.2 1 _ rfl
    have h1 := (HS.out nq).below ((Below.refl _ _).alloc (Nat.le_refl _) (.cells #[.int .i64 i] 3))
    have HF := Lib.hid (H.out.pushed (ps1 := ps.set i { p with at_ := 5 }) (by rw [hlen]; exact h1) (by simp) hk hown' hg' (by simpa [World.setCell] using hf') (fun k hk => (hown'.lt k hk).1))
    obtain ⟨g', o', cp', rfl, _, _, _⟩ := hown'.form_ne (by simp)
    rw [show (ins ++ [i]).length = ins.length + 1 by simp] at HF
    clear hr h1 hk hal hg' hf' hown'
    go_wp2_with fail
    go_end0
    exact ⟨⟨_, rfl⟩, HF.out⟩

set_option maxHeartbeats 1000000 in
theorem wait_on {S i : Nat} {ps : List Pr} {ins : List Nat} {p q : Pr} {w : World} {F : Nat → Prop} {B : Nat} (h : Shop w F B S ps ins) (hi : ps[i]? = some p) (hq : ps[p.k]? = some q) (hb : ps.length ≤ 4) :
    StepsTo 15 S i w F B (ps.set i (if q.ch then p else { p with at_ := 4 })) ins := by
  obtain ⟨g, o, cap, vi, h⟩ := h
  have hn := (List.getElem?_eq_some_iff.1 hi).1
  have hk2 := (List.getElem?_eq_some_iff.1 hq).1
  obtain ⟨⟨c0, c1, c2, c3, c4⟩, f0, f1, f2, f3, f4⟩ := h.procs.five hi
  obtain ⟨_, _, _, _, c8⟩ := (h.procs.five hq).1
  have r0 := (h.rec_.2 0 _ rfl).1
  have HS := Lib.hid (fun nq => (OwS.drewN (h.spelled hi) nq))
  have H := Lib.hid h
  have hd : ((p.k : Int) == (ps.length : Int)) = false := by rw [cast_beq]; simp; omega
  have i0 : (0 : Int) ≤ (p.k : Int) := by omega
  have i1 : (p.k : Int) < (ps.length : Int) := by omega
  clear h hi hq
  generalize hlen : ps.length = n at *
  cases hc : q.ch
  · rw [hc] at c8
    rw [if_neg (by decide)]
    go_enter Try.func15, Try.ntmps15
    go_wp2_with fail
    go_quiet (fail)
    go_wp2_with fail
    go_quiet (fail)
    go_wp2_with fail
    go_end0
    refine ⟨⟨_, rfl⟩, Shop.same (ShopAt.write H.out (gset (gdrewN (World.grownBy.refl _ _) _)) ?_ (by simp))⟩
    rw [hlen]
    exact (HS.out _).put0 FP_len (by omega) _ { p with at_ := 4 } (by decide) rfl
  · rw [hc] at c8
    rw [if_pos rfl]
    go_enter Try.func15, Try.ntmps15
    go_wp2_with fail
    go_quiet (fail)
    go_wp2_with fail
    go_quiet (fail)
    go_wp2_with fail
    go_end0
    refine ⟨⟨_, rfl⟩, Shop.same (ShopAt.write H.out (gdrewN (gdrewN (World.grownBy.refl _ _) _) _) ?_ (by simp))⟩
    rw [hlen]
    exact (HS.out _).drewN _

end Go.Proofs.Ythpbdckiiljegaa
