/- The walk of the law MemoryPlays, for its row. -/
import Derived.Test.YtiiemfnaegapmaaOpenA
namespace Go.Proofs.Ytiiemfnaegapmaa.Q
open Go.RowKit Go.Proofs.YtiiemfnaegapmaaW.PrintWords
set_option linter.unusedVariables false
abbrev RowI (A1 : Option Addr) (len1 cap1 : Nat) (z1 : List Int) (W : World) : Prop := (A1 = none ∧ len1 = 0 ∧ cap1 = 0 ∧ z1 = []) ∨ ∃ x, A1 = some x ∧ len1 ≤ cap1 ∧ cap1 ≤ maxLen ∧ z1.length = cap1 ∧ (∀ i, i < z1.length → W.cell? (x.add i) = some (.int .i64 (z1.getD i 0))) ∧ ∀ n ∈ z1, (Lit.int .i64 n).wf = true
theorem walkPlays (A0 : Option Addr) (len0 cap0 : Nat) (l : List A11) (A1 : Option Addr) (len1 cap1 : Nat) (z1 : List Int) (A2 : Option Addr) (len2 cap2 : Nat) (z2 : List Int) (A3 : Option Addr) (len3 cap3 : Nat) (z3 : List Int) (W : World)
    (e0 : l.length = len0) (K0 : Acts W A0 l) (w1 : RowI A1 len1 cap1 z1 W) (y1 : len1 * 8 ≤ 140737488351232) (w2 : RowI A2 len2 cap2 z2 W) (y2 : len2 * 8 ≤ 140737488351232) (w3 : RowI A3 len3 cap3 z3 W) (y3 : len3 * 8 ≤ 140737488351232) :
    Calls Try.prog 5 #[.slice A0 len0 cap0, .slice A1 len1 cap1, .slice A2 len2 cap2, .slice A3 len3 cap3] W fun e w' => e = .returned (.bool true) ∧ Below W.heap.size W w' := by
  subst e0
  obtain ⟨l1, rfl, hr1, _, _, _⟩ := ReadsInt.ofRowC w1
  obtain ⟨l2, rfl, hr2, _, _, _⟩ := ReadsInt.ofRowC w2
  obtain ⟨l3, rfl, hr3, _, _, _⟩ := ReadsInt.ofRowC w3
  exact MemoryPlays_calls _ _ _ _ _ _ _ _ l l1 l2 l3 W K0 (Kd.C_of_reads (d := (0 : Int)) (h1 := fun _ => rfl) hr1) (Kd.C_of_reads (d := (0 : Int)) (h1 := fun _ => rfl) hr2) (Kd.C_of_reads (d := (0 : Int)) (h1 := fun _ => rfl) hr3)
end Go.Proofs.Ytiiemfnaegapmaa.Q
