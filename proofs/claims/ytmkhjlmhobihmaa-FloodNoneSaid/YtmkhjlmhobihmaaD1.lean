/- Who crashes, and who knows what, in plain words. No condition. -/
import Derived.Test.YtmkhjlmhobihmaaT
import Derived.Test.YtmkhjlmhobihmaaX15
namespace Go.Proofs.Ytmkhjlmhobihmaa
open Go.RowKit
set_option linter.unusedVariables false
set_option linter.unusedSimpArgs false
set_option maxRecDepth 100000

structure Cr where
  who : Int
  rnd : Int
  to_ : Nat
abbrev FI (x : Int) : List Value := [.int .i64 x]
theorem FI_len (c : Int) : (FI c).length = 1 := rfl
theorem FI_one (p : Int) (u : Value) (h : u ∈ FI p) : u.oneCell' = true := by simp [FI] at h; subst h; rfl
theorem Try.eI : Elem Try.prog 22 3 (.int .i64 0) 1 8 := ⟨Try.underlying22, by kernel_rfl, rfl, by decide⟩
abbrev FC (c : Cr) : List Value := [.int .i64 c.who, .int .i64 c.rnd, .int .u32 ((c.to_ : Nat) : Int)]
theorem FC_len (c : Cr) : (FC c).length = 3 := rfl
theorem FC_one (p : Cr) (u : Value) (h : u ∈ FC p) : u.oneCell' = true := by simp [FC] at h; rcases h with rfl | rfl | rfl <;> rfl
theorem Try.eC : Elem Try.prog 23 30 (.agg #[.int .i64 0, .int .i64 0, .int .u32 0]) 3 24 := ⟨Try.underlying23, by kernel_rfl, rfl, by decide⟩
abbrev FQ (o : Option Nat) : List Value := [.map o]
theorem FQ_len (c : Option Nat) : (FQ c).length = 1 := rfl
theorem FQ_one (p : Option Nat) (u : Value) (h : u ∈ FQ p) : u.oneCell' = true := by simp [FQ] at h; subst h; rfl
theorem Try.eQ : Elem Try.prog 37 38 (.map none) 1 8 := ⟨Try.underlying37, by kernel_rfl, rfl, by decide⟩
abbrev intV (x : Int) : Value := .int .i64 x
abbrev intL (x : Int) : Lit := .int .i64 x
abbrev In (a : Int) : Prop := (Lit.int .i64 a).wf = true
theorem In_of {a : Int} (h : -9223372036854775808 ≤ a) (h' : a ≤ 9223372036854775807) : In a := by
  simp [In, Lit.wf]; exact ⟨h, h'⟩
theorem intK (n : Int) : WideAt.IsKeyLit (intL n) := trivial
theorem Try.kI : KeyT Try.prog 3 intV intL In := intKeyT Try.underlying3
abbrev Ms := List (Int × Int)
abbrev mapI (b : Nat) (ms : Ms) : Hp := Hp.map Try.prog 3 intL intV b ms
def keysM (ms : Ms) : List Int := ms.map (·.1)
def kH (m : Nat × Ms) : Hp := mapI m.1 m.2
section
variable {P : Program} {c : Cx} {m : List (Nat × Value)} {l l' : List Hp} {o : Oper} {x y z : Operand} {T : TypeId}
theorem eff_insert {α β : Type} [DecidableEq α] {k' e : TypeId} {kl : α → Lit} {kf : α → Value} {ok : α → Prop} {vf : β → Value} {b k : Nat} {ms : List (α × β)} {i : α} {r : β} (ho : o.op = .insert T x y z) (hT : P.underlying T = some (.map k' e)) (K : KeyT P k' kf kl ok) (hkey : ∀ a : α, WideAt.IsKeyLit (kl a))
    (hx : evo m x = some (.map (some b))) (hy : evo m y = some (kf i)) (hz : evo m z = some (vf r)) (hi : ok i) (hk : l[k]? = some (Hp.map P k' kl vf b ms)) (hroom : ms.length < maxLen) (hl : l.set k (Hp.map P k' kl vf b (putM ms i r)) = l') : Eff P c m l o (fun _ l'' => l'' = l') := Eff.ofSkip fun a w s H => by
  obtain ⟨w', h1, h2, _⟩ := (H.at_ hk).storeM K hkey hT hroom hi r
  refine ⟨w', ?_, l', rfl, Sat.back hk hl h2⟩
  simp [execOp, ho, s.ev hx, s.ev hy, s.ev hz, h1, Result.andThen]
end
/-- what lies in new memory alone is owned -/
theorem Sat.ofOws {α : Type} {f : α → List Value} {sz : Nat} {w w' : World} {v : Value} {xs : List α} (hb : Below w.heap.size w w') (h : OwS f sz w' w.heap.size v xs) : Sat w w' (Hp.own f sz v xs) := by
  rcases h with ⟨rfl, rfl⟩ | ⟨g, off, cap, rfl, hb', hlt', hc', hs', he'⟩
  · exact ⟨hb, fun _ => none, fun k o hk => (by cases hk), .inl ⟨rfl, rfl, rfl⟩⟩
  · obtain ⟨o', ho'⟩ : ∃ o', w'.heap[g]? = some o' := ⟨_, Array.getElem?_eq_getElem hlt'⟩
    have hrow := isRow_of (w := w') (base := w.heap.size) (.inr ⟨g, off, cap, rfl, hb', hlt', hc', hs', he'⟩) ho'
    refine ⟨hb, single g o', fun k q hk => ?_, .inr ⟨g, off, cap, rfl, hc', o', hrow.1, rfl⟩⟩
    unfold single at hk
    split at hk
    · rename_i e; subst e; cases hk; exact ⟨hb', ho'⟩
    · cases hk
end Go.Proofs.Ytmkhjlmhobihmaa
