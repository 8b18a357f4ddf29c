/- The arguments as they come in; what their bulk bounds. -/
import Derived.Test.YtfeeociajllbhaaDoorK6
import Derived.Test.YtfeeociajllbhaaDoorW2
import Derived.Test.YtfeeociajllbhaaDoorRows
namespace Go.Proofs.YtfeeociajllbhaaDoor
open Go.ChangeShapes Go.WideShapes Go.ChangeAt Go.RowKit Go.Deep
set_option maxRecDepth 100000

def Tryd.bytes55 : Nat := 40
theorem Tryd.bytesEq55 : Tryd.prog.bytesOf 55 = Tryd.bytes55 := by kernel_rfl
theorem Tryd.open23 {H : Type} {enc : TypeId × Value → H} {w : World} {a : Option Addr} {len cap : Nat} {d : DataW H} {p : List MemPlace} (h : DataW.Trod enc Tryd.prog w 0 (fun _ => true) true 23 (.slice a len cap) d p) (hsz : len ≤ 140737488355328) :
    ∃ xs, SlS Mt.FM 5 w (.slice a len cap) xs ∧ ∀ t ∈ xs, True := by
  refine sls_of Mt.FM (fun _ => True) Tryd.underlying23 (show Tryd.prog.cellsOf 55 = 5 from by kernel_rfl) (by decide) (fun n cs y hy => ?_) h hsz
  obtain ⟨hl, m, hf⟩ := fields_of Tryd.underlying55 hy
  obtain ⟨y0, h0⟩ := hf 0 _ rfl
  obtain ⟨y1, h1⟩ := hf 1 _ rfl
  obtain ⟨y2, h2⟩ := hf 2 _ rfl
  obtain ⟨y3, h3⟩ := hf 3 _ rfl
  obtain ⟨y4, h4⟩ := hf 4 _ rfl
  obtain ⟨x0, e0, _⟩ := field_int (off := 0) Tryd.underlying3 (show DataW.trod enc Tryd.prog w 0 (fun _ => true) true m 3 ((cs.drop 0).take 1) = some y0 from h0)
  obtain ⟨x1, e1, _⟩ := field_int (off := 1) Tryd.underlying3 (show DataW.trod enc Tryd.prog w 0 (fun _ => true) true m 3 ((cs.drop 1).take 1) = some y1 from h1)
  obtain ⟨x2, e2, _⟩ := field_int (off := 2) Tryd.underlying3 (show DataW.trod enc Tryd.prog w 0 (fun _ => true) true m 3 ((cs.drop 2).take 1) = some y2 from h2)
  obtain ⟨x3, e3, _⟩ := field_int (off := 3) Tryd.underlying3 (show DataW.trod enc Tryd.prog w 0 (fun _ => true) true m 3 ((cs.drop 3).take 1) = some y3 from h3)
  obtain ⟨x4, e4, _⟩ := field_int (off := 4) Tryd.underlying3 (show DataW.trod enc Tryd.prog w 0 (fun _ => true) true m 3 ((cs.drop 4).take 1) = some y4 from h4)
  refine ⟨⟨x0, x1, x2, x3, x4⟩, ?_, trivial⟩
  have hln : cs.length = 5 := by rw [hl]; kernel_rfl
  match cs, hln, e0, e1, e2, e3, e4 with
  | [c0, c1, c2, c3, c4], _, e0, e1, e2, e3, e4 =>
    simp at e0 e1 e2 e3 e4
    subst e0 e1 e2 e3 e4
    rfl
def Tryd.bytes82 : Nat := 32
theorem Tryd.bytesEq82 : Tryd.prog.bytesOf 82 = Tryd.bytes82 := by kernel_rfl
theorem Tryd.open34 {H : Type} {enc : TypeId × Value → H} {w : World} {a : Option Addr} {len cap : Nat} {d : DataW H} {p : List MemPlace} (h : DataW.Trod enc Tryd.prog w 0 (fun _ => true) true 34 (.slice a len cap) d p) (hsz : len ≤ 140737488355328) :
    ∃ xs, SlS Lg.FP 4 w (.slice a len cap) xs ∧ ∀ t ∈ xs, True := by
  refine sls_of Lg.FP (fun _ => True) Tryd.underlying34 (show Tryd.prog.cellsOf 82 = 4 from by kernel_rfl) (by decide) (fun n cs y hy => ?_) h hsz
  obtain ⟨hl, m, hf⟩ := fields_of Tryd.underlying82 hy
  obtain ⟨y0, h0⟩ := hf 0 _ rfl
  obtain ⟨y1, h1⟩ := hf 1 _ rfl
  obtain ⟨y2, h2⟩ := hf 2 _ rfl
  obtain ⟨y3, h3⟩ := hf 3 _ rfl
  obtain ⟨x0, e0, _⟩ := field_int (off := 0) Tryd.underlying3 (show DataW.trod enc Tryd.prog w 0 (fun _ => true) true m 3 ((cs.drop 0).take 1) = some y0 from h0)
  obtain ⟨x1, e1, _⟩ := field_int (off := 1) Tryd.underlying3 (show DataW.trod enc Tryd.prog w 0 (fun _ => true) true m 3 ((cs.drop 1).take 1) = some y1 from h1)
  obtain ⟨x2, e2, _⟩ := field_int (off := 2) Tryd.underlying3 (show DataW.trod enc Tryd.prog w 0 (fun _ => true) true m 3 ((cs.drop 2).take 1) = some y2 from h2)
  obtain ⟨x3, e3, _⟩ := field_int (off := 3) Tryd.underlying2 (show DataW.trod enc Tryd.prog w 0 (fun _ => true) true m 2 ((cs.drop 3).take 1) = some y3 from h3)
  refine ⟨⟨x0, x1, x2, x3⟩, ?_, trivial⟩
  have hln : cs.length = 4 := by rw [hl]; kernel_rfl
  match cs, hln, e0, e1, e2, e3 with
  | [c0, c1, c2, c3], _, e0, e1, e2, e3 =>
    simp at e0 e1 e2 e3
    subst e0 e1 e2 e3
    rfl
theorem bulk_one {H : Type} (d : DataW H) : 1 ≤ Rows.uptoBulk d := by
  cases d with
  | lit l => cases l <;> simp [Rows.uptoBulk]
  | nil => simp [Rows.uptoBulk]
  | ptr d => simp [Rows.uptoBulk]
  | slice elems spare => simp [Rows.uptoBulk]
  | agg parts => simp [Rows.uptoBulk]
  | iface t d => simp [Rows.uptoBulk]
  | map entries => simp [Rows.uptoBulk]
  | held h => simp [Rows.uptoBulk]
theorem bulk_part {H : Type} {d : DataW H} {l : List (DataW H)} (h : d ∈ l) : Rows.uptoBulk d ≤ Rows.uptoBulkAll l := by
  induction l with
  | nil => cases h
  | cons x r ih =>
    simp only [Rows.uptoBulkAll]
    cases List.mem_cons.1 h with
    | inl e => subst e; omega
    | inr e => have := ih e; omega
theorem bulk_length {H : Type} (l : List (DataW H)) : l.length ≤ Rows.uptoBulkAll l := by
  induction l with
  | nil => simp [Rows.uptoBulkAll]
  | cons x r ih => have := bulk_one x; simp only [Rows.uptoBulkAll, List.length_cons]; omega
abbrev bulkMax : Nat := 1048576
theorem bulk_bound {H : Type} {l : List (DataW H)} (hk : Rows.uptoSmall H l = true) : Rows.uptoBulkAll l ≤ bulkMax := of_decide_eq_true hk
theorem bulk_at {H : Type} {l : List (DataW H)} {j : Nat} {d : DataW H} (hk : Rows.uptoBulkAll l ≤ bulkMax) (hj : l[j]? = some d) : Rows.uptoBulk d ≤ bulkMax := Nat.le_trans (bulk_part (List.mem_of_getElem? hj)) hk
theorem bulk_rows {H : Type} {d : DataW H} (h : Rows.uptoBulk d ≤ bulkMax) : ∀ elems spare, d = .slice elems spare → ∀ e ∈ elems, Rows.uptoBulk e ≤ bulkMax := fun elems spare hd e he => by
  subst hd
  have h1 := bulk_part he
  simp only [Rows.uptoBulk] at h
  omega
theorem bulk_len {H : Type} {enc : TypeId × Value → H} {P : Program} {w : World} {T E : TypeId} {a : Option Addr} {len cap : Nat} {d : DataW H} {p : List MemPlace} (ht : P.underlying T = some (.slice E)) (hd : Rows.uptoBulk d ≤ bulkMax) (h : DataW.Trod enc P w 0 (fun _ => true) true T (.slice a len cap) d p) : len ≤ bulkMax := by
  rcases len_of ht h with rfl | ⟨elems, spare, rfl, rfl⟩
  · exact Nat.zero_le _
  · have := bulk_length elems
    simp only [Rows.uptoBulk] at hd
    omega
def Tryd.bytes34 : Nat := 24
theorem Tryd.bytesEq34 : Tryd.prog.bytesOf 34 = Tryd.bytes34 := by kernel_rfl
theorem Tryd.open25 {H : Type} {enc : TypeId × Value → H} {w : World} {a : Option Addr} {len cap : Nat} {d : DataW H} {p : List MemPlace} (h : DataW.Trod enc Tryd.prog w 0 (fun _ => true) true 25 (.slice a len cap) d p) (hsz : len ≤ 140737488355328) (hd : Rows.uptoBulk d ≤ bulkMax) :
    ∃ xs, SlS FW 1 w (.slice a len cap) xs ∧ ∀ r ∈ xs, SlS Lg.FP 4 w (.slice r.a r.xs.length r.c) r.xs ∧ r.xs.length ≤ 1048576 := by
  refine sls_ofQ (fun e => Rows.uptoBulk e ≤ bulkMax) FW (fun r => SlS Lg.FP 4 w (.slice r.a r.xs.length r.c) r.xs ∧ r.xs.length ≤ 1048576) Tryd.underlying25 (show Tryd.prog.cellsOf 34 = 1 from by kernel_rfl) (by decide) (fun n cs y hy hq => ?_) (bulk_rows hd) h hsz
  obtain ⟨a', len', cap', rfl, hs⟩ := elem_slice Tryd.underlying34 hy
  have hl := bulk_len Tryd.underlying34 hq hs
  obtain ⟨xs, hxs, _⟩ := Tryd.open34 hs (Nat.le_trans hl (by decide))
  obtain ⟨a9, c9, e9, _⟩ := hxs.form
  obtain ⟨rfl, rfl, rfl⟩ : a' = a9 ∧ len' = xs.length ∧ cap' = c9 := by cases e9; exact ⟨rfl, rfl, rfl⟩
  exact ⟨⟨a', xs, cap'⟩, rfl, hxs, hl⟩
end Go.Proofs.YtfeeociajllbhaaDoor
