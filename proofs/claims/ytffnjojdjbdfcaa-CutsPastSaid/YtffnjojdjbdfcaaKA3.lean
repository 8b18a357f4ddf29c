/- Each event, with those before it at once: the iterator's walk. -/
import Derived.Test.YtffnjojdjbdfcaaA2
namespace Go.Proofs.Ytffnjojdjbdfcaa
open Go.RowKit Go.Shelf
set_option linter.unusedVariables false
attribute [local go_sem] Oper.semAt_some

abbrev SZ (x : Int) : List Value := [.int .i64 x]
theorem SZ_len (x : Int) : (SZ x).length = 1 := rfl
theorem SZ_one (x : Int) (u : Value) (h : u ∈ SZ x) : u.oneCell' = true := by simp [SZ] at h; subst h; rfl
theorem Try.eZ : Elem Try.prog 23 3 (.int .i64 0) 1 8 := ⟨Try.underlying23, by kernel_rfl, rfl, by decide⟩
theorem intKey (q : IntKind) (a : Int) : WideAt.IsKeyLit (Lit.int q a) := trivial
theorem Try.kI : KeyT Try.prog 3 (Value.int .i64) (Lit.int .i64) (fun a => (Lit.int .i64 a).wf = true) := intKeyT (by kernel_rfl)
theorem zeroI (w : World) : (zeroValue 3).run Try.prog w = .ok (.int .i64 0) w := by kernel_rfl
theorem wf_i64 {a : Int} (h0 : -9223372036854775808 ≤ a) (h1 : a ≤ 9223372036854775807) : (Lit.int .i64 a).wf = true := by
  have e : IntKind.i64.min = -9223372036854775808 := rfl
  simp [Lit.wf]; omega

/-- the last one of a process, of the first k -/
def lastOf (l : List Ev) : Nat → Int → Option Nat
  | 0, _ => none
  | k + 1, w => match l[k]? with | some e => if e.who = w then some k else lastOf l k w | none => lastOf l k w
/-- those that are before it at once -/
def fromE (l : List Ev) (k : Nat) (e : Ev) : List Int := (match lastOf l k e.who with | some j => [(j : Int)] | none => []) ++ if e.kind = 3 then [e.src] else []
def fromL (l : List Ev) (k : Nat) : List Int := match l[k]? with | some e => fromE l k e | none => []
theorem fromL_at {l : List Ev} {k : Nat} {e : Ev} (h : l[k]? = some e) : fromL l k = fromE l k e := by unfold fromL; rw [h]
def LastIs (l : List Ev) (k : Nat) (ms : List (Int × Int)) : Prop := ∀ w, getM ms w = (lastOf l k w).map fun j : Nat => (j : Int)
theorem LastIs.next {l : List Ev} {k : Nat} {ms : List (Int × Int)} (h : LastIs l k ms) {e : Ev} (he : l[k]? = some e) : LastIs l (k + 1) (putM ms e.who (k : Int)) := by
  intro w
  rw [getM_put, lastOf, he]
  simp only
  split
  · rfl
  · exact h w

set_option maxHeartbeats 8000000 in
set_option maxRecDepth 100000 in
theorem behind_any {W w : World} {vl : Value} {n : Int} {l : List Ev} {Bl lp : Nat} {B : Nat → Hp} {R : Hp} (hs : SlS FE 3 W vl l) (hok : OkE n l)
    (hY : YieldsV Try.prog W lp (fun k v => #[.int .i64 k, v]) (fun k v => Hp.own SZ 1 v (fromL l k)) l.length B)
    (H : Sat W w (B 0 * (Hp.rec_ Bl [vl] * R))) :
    Calls Try.prog 34 (#[.func (.yield lp) #[] #[]] ++ #[.pointer (some ⟨Bl, 0, none⟩)]) w fun e w' => (∃ v, e = .returned v) ∧ Sat W w' (B l.length * (Hp.rec_ Bl [vl] * R)) := by
  obtain ⟨al, cl, rfl, _⟩ := hs.form
  have HS := Lib.hid hs
  have HOK := Lib.hid hok
  have c0 := H.sw.cell 0 rfl
  have hfew := hok.few
  have H1 := Lib.hid ((H.mapAllocAt Try.prog 3 (Lit.int .i64) (Value.int .i64) (b := w.heap.size) rfl))
  have c1 := H1.out.drop.sw.cell 0 rfl
  have hmm := @run_makeMap Try.prog
  clear H hs hok
  refine (callsIn_wide (n := 0)).1 (callsIn_of_wp Try.func34 rfl trivial ?_ rfl)
  simp only [Try.ntmps34, List.size_toArray, List.length_cons, List.length_nil, Nat.reduceAdd, Nat.reduceSub, Array.replicate_succ, Array.replicate_zero, List.push_toArray, List.append_toArray, List.nil_append, List.cons_append]
  gi_wp2
  clear c0 c1 hmm
  obtain ⟨mb, hmb⟩ : ∃ mb, mb = w.heap.size := ⟨_, rfl⟩
  rw [← hmb] at H1 ⊢
  clear hmb
  gi_loopw [12] (fun i wr => ∃ (k : Nat) (ms : List (Int × Int)), k ≤ l.length ∧ i = .int .i64 k ∧ LastIs l k ms ∧ ms.length ≤ k ∧ Sat W wr (Hp.map Try.prog 3 (Lit.int .i64) (Value.int .i64) mb ms * (B k * (Hp.rec_ Bl [.slice al l.length cl] * R)))) (fun i _ => l.length - (intOf i).toNat)
  case atStart => exact ⟨0, [], Nat.zero_le _, rfl, fun w => rfl, Nat.le_refl _, H1.out⟩
  case round =>
    obtain ⟨k, ms, hk, rfl, hla, hml, hsat⟩ := hrel
    have i0 : (0 : Int) ≤ (k : Int) := by omega
    by_cases hlt : k < l.length
    · obtain ⟨e, he⟩ := get_of_lt hlt
      have i1 : (k : Int) < (l.length : Int) := by omega
      obtain ⟨b0, off, rfl, hlb, hc⟩ := (HS.out.below hsat.below).el he
      have c0 : wr.cell? ⟨b0, off + k * 3, none⟩ = some (.int .i64 e.kind) := hc 0 _ rfl
      have c1 : wr.cell? ⟨b0, off + k * 3 + 1, none⟩ = some (.int .i64 e.who) := hc 1 _ rfl
      have c2 : wr.cell? ⟨b0, off + k * 3 + 2, none⟩ = some (.int .i64 e.src) := hc 2 _ rfl
      obtain ⟨o1, o2, o3, _⟩ := HOK.out.all k e he
      have o4 := HOK.out.high
      have hwf : (Lit.int .i64 e.who).wf = true := wf_i64 (by omega) (by omega)
      have HLAST := Lib.hid (hla.next he)
      have HLEN := Lib.hid (show (putM ms e.who (k : Int)).length ≤ k + 1 by rw [putM_length]; split <;> omega)
      have hfr := fromL_at he
      have hg := hla e.who
      have h1 := hsat.allocAt #[.int .i64 e.kind, .int .i64 e.who, .int .i64 e.src] 36 (FE e) rfl (b := wr.heap.size) rfl
      have h2 := h1.sw
      have hlk := h2.look Try.kI Try.underlying64 (zeroI _) hwf true
      have HR1 := Lib.hid (h1.nil SZ 1)
      have HHY := Lib.hid hY
      clear hla hc he o1 o2 o3 h1 h2 hsat hY
      rw [hg] at hlk
      obtain ⟨kd, who, src⟩ := e
      simp only at c0 c1 c2 hlk hwf hfr HLAST HLEN HR1
      unfold fromE at hfr
      simp only at hfr
      generalize lastOf l k who = lo at *
      by_cases hk3 : kd = 3
      · subst hk3
        rw [if_pos rfl] at hfr
        cases lo with
        | none =>
          simp only [Option.map_none, if_true] at hlk
          simp only [List.nil_append] at hfr
          gi_wp2_with (gi_at_builtin; (refine wpListIn_pushH rfl (.tmp 32) (.tmp 35) 23 rfl Try.eZ SZ SZ_len SZ_one (xs := []) src (wr.heap.size + 1) rfl rfl (HR1.out.allocAt #[.int .i64 src] 3 [.int .i64 src] rfl (b := wr.heap.size + 1) (by simp)) (by simp) (by simp) ?_; intro v' w2 hs' h'; replace hs' : isSl v' 1 := hs'; obtain ⟨g', o', c', rfl⟩ := hs'; have hd1 := h'.sw.cell 1 rfl; have hX : Sat W w2 (Hp.map Try.prog 3 (Lit.int .i64) (Value.int .i64) mb ms * (Hp.own SZ 1 (.slice (some ⟨g', o', none⟩) 1 c') (fromL l k) * (B k * (Hp.rec_ Bl [.slice (some ⟨b0, off, none⟩) l.length cl] * R)))) := (by rw [hfr]; exact h'.sw.drop.sw); obtain ⟨w5, hrun, h5, _⟩ := hX.storeM Try.kI (intKey .i64) Try.underlying64 (by unfold maxLen; omega) hwf (k : Int); obtain ⟨fn, tmps, assign, body, hy, hR⟩ := HHY.out k _ w5 _ hlt (h5.cast (Q := Hp.own SZ 1 (.slice (some ⟨g', o', none⟩) 1 c') (fromL l k) * (B k * (Hp.map Try.prog 3 (Lit.int .i64) (Value.int .i64) mb (putM ms who (k : Int)) * (Hp.rec_ Bl [.slice (some ⟨b0, off, none⟩) l.length cl] * R)))) (by ac_rfl)); dsimp only at hy; have HR := Lib.hid hR; clear h5 hR hX; clear h'))
          refine ⟨rfl, HR.out.mono ?_⟩
          rintro e w6 ⟨rfl, hs6⟩
          have H6 := Lib.hid (hs6.cast (Q := Hp.map Try.prog 3 (Lit.int .i64) (Value.int .i64) mb (putM ms who (k : Int)) * (B (k + 1) * (Hp.rec_ Bl [.slice (some ⟨b0, off, none⟩) l.length cl] * R))) (by ac_rfl))
          clear hs6
          gi_wp2
          go_roundw
          case rel => exact ⟨k + 1, _, by omega, by go_num, HLAST.out, HLEN.out, H6.out⟩
          case measure => simp [intOf]; omega
        | some j =>
          simp only [Option.map_some, if_true] at hlk
          simp only [List.cons_append, List.nil_append] at hfr
          gi_wp2_with (first | (gi_at_builtin; (refine wpListIn_pushH rfl (.tmp 25) (.tmp 27) 23 rfl Try.eZ SZ SZ_len SZ_one (xs := []) (j : Int) (wr.heap.size + 1) rfl rfl (HR1.out.allocAt #[.int .i64 (j : Int)] 3 [.int .i64 (j : Int)] rfl (b := wr.heap.size + 1) (by simp)) (by simp) (by simp) ?_; intro v' w2 hs' h'; replace hs' : isSl v' 1 := hs'; obtain ⟨g', o', c', rfl⟩ := hs'; have d0 := h'.sw.cell 0 rfl; have d1 := h'.sw.cell 1 rfl; have d2 := h'.sw.cell 2 rfl; have H2 := Lib.hid h'; clear h')) | (gi_at_builtin; (refine wpListIn_pushH rfl (.tmp 32) (.tmp 35) 23 rfl Try.eZ SZ SZ_len SZ_one (xs := [(j : Int)]) src w2.heap.size rfl rfl (H2.out.allocAt #[.int .i64 src] 3 [.int .i64 src] rfl rfl) (by simp) (by simp) ?_; intro v2 w3 hs2' h'; replace hs2' : isSl v2 2 := hs2'; obtain ⟨g2, o2, c2', rfl⟩ := hs2'; have hd1 := h'.sw.cell 1 rfl; have hX : Sat W w3 (Hp.map Try.prog 3 (Lit.int .i64) (Value.int .i64) mb ms * (Hp.own SZ 1 (.slice (some ⟨g2, o2, none⟩) 2 c2') (fromL l k) * (B k * (Hp.rec_ Bl [.slice (some ⟨b0, off, none⟩) l.length cl] * R)))) := (by rw [hfr]; exact h'.sw.drop.sw); obtain ⟨w5, hrun, h5, _⟩ := hX.storeM Try.kI (intKey .i64) Try.underlying64 (by unfold maxLen; omega) hwf (k : Int); obtain ⟨fn, tmps, assign, body, hy, hR⟩ := HHY.out k _ w5 _ hlt (h5.cast (Q := Hp.own SZ 1 (.slice (some ⟨g2, o2, none⟩) 2 c2') (fromL l k) * (B k * (Hp.map Try.prog 3 (Lit.int .i64) (Value.int .i64) mb (putM ms who (k : Int)) * (Hp.rec_ Bl [.slice (some ⟨b0, off, none⟩) l.length cl] * R)))) (by ac_rfl)); dsimp only at hy; have HR := Lib.hid hR; clear h5 hR hX; clear h')))
          refine ⟨rfl, HR.out.mono ?_⟩
          rintro e w6 ⟨rfl, hs6⟩
          have H6 := Lib.hid (hs6.cast (Q := Hp.map Try.prog 3 (Lit.int .i64) (Value.int .i64) mb (putM ms who (k : Int)) * (B (k + 1) * (Hp.rec_ Bl [.slice (some ⟨b0, off, none⟩) l.length cl] * R))) (by ac_rfl))
          clear hs6
          gi_wp2
          go_roundw
          case rel => exact ⟨k + 1, _, by omega, by go_num, HLAST.out, HLEN.out, H6.out⟩
          case measure => simp [intOf]; omega
      · have hk4 : (kd == 3) = false := by simpa using hk3
        rw [if_neg hk3, List.append_nil] at hfr
        cases lo with
        | none =>
          simp only [Option.map_none, if_true] at hlk
          have hX : Sat W _ (Hp.map Try.prog 3 (Lit.int .i64) (Value.int .i64) mb ms * (Hp.own SZ 1 (.slice none 0 0) (fromL l k) * (B k * (Hp.rec_ Bl [.slice (some ⟨b0, off, none⟩) l.length cl] * R)))) := (by rw [hfr]; exact HR1.out.sw.drop.sw)
          obtain ⟨w5, hrun, h5, _⟩ := hX.storeM Try.kI (intKey .i64) Try.underlying64 (by unfold maxLen; omega) hwf (k : Int)
          obtain ⟨fn, tmps, assign, body, hy, hR⟩ := HHY.out k _ w5 _ hlt (h5.cast (Q := Hp.own SZ 1 (.slice none 0 0) (fromL l k) * (B k * (Hp.map Try.prog 3 (Lit.int .i64) (Value.int .i64) mb (putM ms who (k : Int)) * (Hp.rec_ Bl [.slice (some ⟨b0, off, none⟩) l.length cl] * R)))) (by ac_rfl))
          dsimp only at hy
          have HR := Lib.hid hR
          clear h5 hR hX
          gi_wp2
          refine ⟨rfl, HR.out.mono ?_⟩
          rintro e w6 ⟨rfl, hs6⟩
          have H6 := Lib.hid (hs6.cast (Q := Hp.map Try.prog 3 (Lit.int .i64) (Value.int .i64) mb (putM ms who (k : Int)) * (B (k + 1) * (Hp.rec_ Bl [.slice (some ⟨b0, off, none⟩) l.length cl] * R))) (by ac_rfl))
          clear hs6
          gi_wp2
          go_roundw
          case rel => exact ⟨k + 1, _, by omega, by go_num, HLAST.out, HLEN.out, H6.out⟩
          case measure => simp [intOf]; omega
        | some j =>
          simp only [Option.map_some, if_true] at hlk
          gi_wp2_with (gi_at_builtin; (refine wpListIn_pushH rfl (.tmp 25) (.tmp 27) 23 rfl Try.eZ SZ SZ_len SZ_one (xs := []) (j : Int) (wr.heap.size + 1) rfl rfl (HR1.out.allocAt #[.int .i64 (j : Int)] 3 [.int .i64 (j : Int)] rfl (b := wr.heap.size + 1) (by simp)) (by simp) (by simp) ?_; intro v' w2 hs' h'; replace hs' : isSl v' 1 := hs'; obtain ⟨g', o', c', rfl⟩ := hs'; have d0 := h'.sw.cell 0 rfl; have hd1 := h'.sw.cell 1 rfl; have hX : Sat W w2 (Hp.map Try.prog 3 (Lit.int .i64) (Value.int .i64) mb ms * (Hp.own SZ 1 (.slice (some ⟨g', o', none⟩) 1 c') (fromL l k) * (B k * (Hp.rec_ Bl [.slice (some ⟨b0, off, none⟩) l.length cl] * R)))) := (by rw [hfr]; exact h'.sw.drop.sw); obtain ⟨w5, hrun, h5, _⟩ := hX.storeM Try.kI (intKey .i64) Try.underlying64 (by unfold maxLen; omega) hwf (k : Int); obtain ⟨fn, tmps, assign, body, hy, hR⟩ := HHY.out k _ w5 _ hlt (h5.cast (Q := Hp.own SZ 1 (.slice (some ⟨g', o', none⟩) 1 c') (fromL l k) * (B k * (Hp.map Try.prog 3 (Lit.int .i64) (Value.int .i64) mb (putM ms who (k : Int)) * (Hp.rec_ Bl [.slice (some ⟨b0, off, none⟩) l.length cl] * R)))) (by ac_rfl)); dsimp only at hy; have HR := Lib.hid hR; clear h5 hR hX; clear h'))
          refine ⟨rfl, HR.out.mono ?_⟩
          rintro e w6 ⟨rfl, hs6⟩
          have H6 := Lib.hid (hs6.cast (Q := Hp.map Try.prog 3 (Lit.int .i64) (Value.int .i64) mb (putM ms who (k : Int)) * (B (k + 1) * (Hp.rec_ Bl [.slice (some ⟨b0, off, none⟩) l.length cl] * R))) (by ac_rfl))
          clear hs6
          gi_wp2
          go_roundw
          case rel => exact ⟨k + 1, _, by omega, by go_num, HLAST.out, HLEN.out, H6.out⟩
          case measure => simp [intOf]; omega
    · obtain rfl : k = l.length := by omega
      have HS5 := Lib.hid hsat.drop
      clear hsat
      gi_wp2
      go_end0
      exact ⟨⟨_, rfl⟩, HS5.out⟩
end Go.Proofs.Ytffnjojdjbdfcaa
