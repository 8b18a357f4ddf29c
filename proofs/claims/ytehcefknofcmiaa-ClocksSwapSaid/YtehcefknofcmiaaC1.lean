/- Before: is an event before another one? The walk. No condition. -/
import Derived.Test.YtehcefknofcmiaaT
import Derived.Test.YtehcefknofcmiaaA6
import Derived.Test.YtehcefknofcmiaaH
namespace Go.Proofs.Ytehcefknofcmiaa
open Go.RowKit
set_option linter.unusedVariables false
set_option maxRecDepth 100000

def inB (n : Nat) (k : Int) : Bool := decide (0 ≤ k ∧ k < (n : Int))
def firstI (p : Int → Bool) : List Int → Int
  | [] => -1
  | x :: l => if p x then 0 else if firstI p l < 0 then -1 else firstI p l + 1
theorem firstI_none {p : Int → Bool} : ∀ {l : List Int}, (∀ x ∈ l, p x = false) → firstI p l = -1
  | [], _ => rfl
  | x :: l, h => by simp [firstI, h x (by simp), firstI_none (l := l) (fun y hy => h y (by simp [hy]))]
theorem firstI_at {p : Int → Bool} : ∀ {l : List Int} {k : Nat} {x : Int}, l[k]? = some x → (∀ y ∈ l.take k, p y = false) → p x = true → firstI p l = k
  | [], _, _, h, _, _ => by simp at h
  | y :: l, 0, x, h, _, hp => by simp at h; subst h; simp [firstI, hp]
  | y :: l, k + 1, x, h, hn, hp => by
    have h1 := firstI_at (l := l) (k := k) (by simpa using h) (fun z hz => hn z (by simp [hz])) hp
    have h2 := hn y (by simp)
    simp [firstI, h1, h2]
    omega
theorem sl_sz {w : World} {v : Value} {xs : List Int} (h : SlS SZ 1 w v xs) : SlI w v xs := SlS.one (g := Value.int .i64) h
theorem inB_any {W : World} {b : Nat} {v : Value} {l : List Ev} (k : Int) (hb : b < W.heap.size) (hc : W.cell? ⟨b, 0, none⟩ = some v) (hs : SlS FE 3 W v l) :
    Calls Try.prog 22 #[.int .i64 k, ptr b 0] W fun e w' => e = .returned (.bool (inB l.length k)) ∧ Below W.heap.size W w' := by
  refine calls_pure (Gx.enter (l := []) Try.func22 rfl Try.ntmps22 rfl (Sat.start W) ?_)
  refine Gx.know (m' := [(0, .int .i64 k), (1, ptr b 0)]) (.cons rfl (.cons rfl .nil)) ?_
  refine Gx.seq ?_
  refine Gx.region ?_
  refine Gx.val rfl rfl rfl (val_assign rfl rfl) ?_
  refine Gx.done ?_
  refine Gx.thenN ?_
  refine Gx.seq ?_
  refine Gx.region ?_
  refine Gx.val rfl rfl rfl (val_move rfl rfl) ?_
  refine Gx.val rfl rfl rfl (val_geq rfl rfl rfl) ?_
  refine Gx.val rfl rfl rfl (val_move rfl rfl) ?_
  refine Gx.cases (t := 6) rfl (fun h1 => ?_) (fun h1 => ?_)
  · refine Gx.valg rfl rfl rfl rfl rfl (val_move rfl rfl) ?_
    refine Gx.valg rfl rfl rfl rfl rfl (val_load rfl Try.ty22 rfl rfl (cell_old hb hc)) ?_
    refine Gx.valg rfl rfl rfl rfl rfl (val_len rfl Try.underlying22 rfl (len_base hs)) ?_
    refine Gx.valg rfl rfl rfl rfl rfl (val_lss rfl rfl rfl) ?_
    refine Gx.val rfl rfl rfl (val_pickT rfl rfl rfl) ?_
    refine Gx.val rfl rfl rfl (val_assign rfl rfl) ?_
    refine Gx.done ?_
    refine Gx.thenN ?_
    refine Gx.ret ?_
    refine Gx.ret1 Try.results22 rfl ?_
    exact congrArg Value.bool (by unfold inB; simp; try omega)
  · refine Gx.skipg rfl rfl rfl rfl rfl rfl ?_
    refine Gx.skipg rfl rfl rfl rfl rfl rfl ?_
    refine Gx.skipg rfl rfl rfl rfl rfl rfl ?_
    refine Gx.skipg rfl rfl rfl rfl rfl rfl ?_
    refine Gx.val rfl rfl rfl (val_pickF rfl rfl rfl) ?_
    refine Gx.val rfl rfl rfl (val_assign rfl rfl) ?_
    refine Gx.done ?_
    refine Gx.thenN ?_
    refine Gx.ret ?_
    refine Gx.ret1 Try.results22 rfl ?_
    exact congrArg Value.bool (by unfold inB; simp; try omega)

theorem index_any {W : World} {b : Nat} {v vx : Value} {l : List Ev} {xs : List Int} (hb : b < W.heap.size) (hc : W.cell? ⟨b, 0, none⟩ = some v) (hs : SlS FE 3 W v l) (hx : SlS SZ 1 W vx xs) :
    Calls Try.prog 25 #[vx, .func (.func 22) #[] #[ptr b 0]] W fun e w' => e = .returned (.int .i64 (firstI (inB l.length) xs)) ∧ Below W.heap.size W w' := by
  refine calls_pure (Gx.enter (l := []) Try.func25 rfl Try.ntmps25 rfl (Sat.start W) ?_)
  refine Gx.know (m' := [(0, vx), (1, .func (.func 22) #[] #[ptr b 0])]) (.cons rfl (.cons rfl .nil)) ?_
  have hm := hx.form
  obtain ⟨_, _, _, hm⟩ := hm
  refine Gx.seq ?_
  refine Gx.region ?_
  refine Gx.val rfl rfl rfl (val_assign rfl rfl) ?_
  refine Gx.done ?_
  refine Gx.thenN ?_
  refine Gx.seq ?_
  refine Gx.seq ?_
  refine Gx.region ?_
  refine Gx.val rfl rfl rfl (val_move rfl rfl) ?_
  refine Gx.val rfl rfl rfl (val_len rfl Try.underlying32 rfl (len_base hx)) ?_
  refine Gx.val rfl rfl rfl (val_move rfl rfl) ?_
  refine Gx.done ?_
  refine Gx.thenN ?_
  refine Gx.block ?_
  refine Gx.loop (ι := Nat) (fun q => (q ≤ xs.length) ∧ (∀ y ∈ xs.take q, inB l.length y = false)) (fun q => [(0, vx), (1, .func (.func 22) #[] #[ptr b 0]), (7, .int .i64 ((xs.length : Nat) : Int)), (8, .int .i64 ((q : Nat) : Int))]) (fun q => []) (fun q => xs.length - q) 0 ⟨by omega, by simp⟩ ((.cons rfl (.cons rfl (.cons rfl (.cons rfl .nil))))) rfl ?_
  rintro k ⟨hk, hn⟩
  refine Gx.know (m' := [(0, vx), (1, .func (.func 22) #[] #[ptr b 0]), (7, .int .i64 ((xs.length : Nat) : Int)), (8, .int .i64 ((k : Nat) : Int))]) (.cons rfl (.cons rfl (.cons rfl (.cons rfl .nil)))) (Gx.norm (l' := []) rfl ?_)
  refine Gx.seq ?_
  refine Gx.region ?_
  refine Gx.val rfl rfl rfl (val_lss rfl rfl rfl) ?_
  refine Gx.done ?_
  refine Gx.thenN ?_
  refine Gx.seq ?_
  refine Gx.dec rfl (fun h1 => ?_) (fun h1 => ?_)
  · refine Gx.skip ?_
    refine Gx.thenN ?_
    refine Gx.seq ?_
    refine Gx.block ?_
    refine Gx.seq ?_
    refine Gx.region ?_
    refine Gx.val rfl rfl rfl (val_move rfl rfl) ?_
    refine Gx.val rfl rfl rfl (val_assign rfl rfl) ?_
    refine Gx.done ?_
    refine Gx.thenN ?_
    refine Gx.seq ?_
    refine Gx.region ?_
    refine Gx.val rfl rfl rfl (val_move rfl rfl) ?_
    refine Gx.val rfl rfl rfl (val_move rfl rfl) ?_
    refine Gx.val rfl rfl rfl (val_move rfl rfl) ?_
    obtain ⟨x2, hx2⟩ := get_of_lt (xs := xs) (k := k) (by omega)
    refine Gx.val rfl rfl rfl (val_ixa rfl Try.underlying32 Try.ty3 rfl rfl (j := k) (rfl) (reach_base hx hx2)) ?_
    refine Gx.val rfl rfl rfl (val_load rfl Try.ty3 rfl rfl (cell_base (i := 0) hx hx2 rfl)) ?_
    refine Gx.val rfl rfl rfl (val_callV (vs := [.int .i64 x2]) (fs := []) (cs := [ptr b 0]) rfl Try.fn22 rfl rfl (fun w H => inB_any x2 (Nat.lt_of_lt_of_le hb H.size) ((H.below.cell (p := ⟨b, 0, none⟩) hb).trans hc) (hs.below H.below))) ?_
    refine Gx.done ?_
    refine Gx.thenN ?_
    refine Gx.bool rfl (fun h3 => ?_) (fun h3 => ?_)
    · refine Gx.seq ?_
      refine Gx.region ?_
      refine Gx.val rfl rfl rfl (val_move rfl rfl) ?_
      refine Gx.val rfl rfl rfl (val_assign rfl rfl) ?_
      refine Gx.done ?_
      refine Gx.thenN ?_
      refine Gx.ret ?_
      refine Gx.blkR ?_
      refine Gx.thenR ?_
      refine Gx.thenR ?_
      refine Gx.blkR ?_
      refine Gx.thenR ?_
      refine Gx.ret1 Try.results25 rfl ?_
      exact congrArg (Value.int .i64) (firstI_at hx2 hn (by assumption)).symm
    · refine Gx.skip ?_
      refine Gx.blkN ?_
      refine Gx.thenN ?_
      refine Gx.region ?_
      refine Gx.val rfl rfl rfl (val_add rfl rfl rfl (r := ((k + 1 : Nat) : Int)) (w64 (by omega) (by omega))) ?_
      refine Gx.val rfl rfl rfl (val_move rfl rfl) ?_
      refine Gx.done ?_
      refine Gx.thenN ?_
      exact Gx.round (k + 1) ⟨by omega, by rw [take_of hx2]; intro y hy; rcases List.mem_append.1 hy with h | h <;> first | exact hn y h | (simp at h; subst h; assumption)⟩ (by omega) ((.cons rfl (.cons rfl (.cons rfl (.cons rfl .nil))))) rfl
  · refine Gx.exit ?_
    refine Gx.thenE ?_
    refine Gx.thenE ?_
    refine Gx.blkE ?_
    refine Gx.thenN ?_
    refine Gx.seq ?_
    refine Gx.region ?_
    refine Gx.val rfl rfl rfl (val_assign rfl rfl) ?_
    refine Gx.done ?_
    refine Gx.thenN ?_
    refine Gx.ret ?_
    refine Gx.ret1 Try.results25 rfl ?_
    refine congrArg (Value.int .i64) (firstI_none fun y hy => hn y ?_).symm
    rw [List.take_of_length_le (by omega)]; exact hy

theorem contains_any {W : World} {b : Nat} {v vx : Value} {l : List Ev} {xs : List Int} (hb : b < W.heap.size) (hc : W.cell? ⟨b, 0, none⟩ = some v) (hs : SlS FE 3 W v l) (hx : SlS SZ 1 W vx xs) :
    Calls Try.prog 23 #[vx, .func (.func 22) #[] #[ptr b 0]] W fun e w' => e = .returned (.bool (decide (0 ≤ firstI (inB l.length) xs))) ∧ Below W.heap.size W w' := by
  refine calls_pure (Gx.enter (l := []) Try.func23 rfl Try.ntmps23 rfl (Sat.start W) ?_)
  refine Gx.know (m' := [(0, vx), (1, .func (.func 22) #[] #[ptr b 0])]) (.cons rfl (.cons rfl .nil)) ?_
  refine Gx.seq ?_
  refine Gx.region ?_
  refine Gx.val rfl rfl rfl (val_assign rfl rfl) ?_
  refine Gx.done ?_
  refine Gx.thenN ?_
  refine Gx.seq ?_
  refine Gx.region ?_
  refine Gx.val rfl rfl rfl (val_move rfl rfl) ?_
  refine Gx.val rfl rfl rfl (val_move rfl rfl) ?_
  refine Gx.val rfl rfl rfl (val_call (vs := [vx, .func (.func 22) #[] #[ptr b 0]]) rfl Try.fn25 rfl (fun w H => index_any (Nat.lt_of_lt_of_le hb H.size) ((H.below.cell (p := ⟨b, 0, none⟩) hb).trans hc) (hs.below H.below) (hx.below H.below))) ?_
  refine Gx.val rfl rfl rfl (val_geq rfl rfl rfl) ?_
  refine Gx.val rfl rfl rfl (val_assign rfl rfl) ?_
  refine Gx.done ?_
  refine Gx.thenN ?_
  refine Gx.ret ?_
  refine Gx.ret1 Try.results23 rfl ?_
  rfl

end Go.Proofs.Ytehcefknofcmiaa
