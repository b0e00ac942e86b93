/- The walk of the law MemoryBack, for its row. -/
import Derived.Test.YtiiemfnaegapmaaH19
namespace Go.Proofs.Ytiiemfnaegapmaa.Q
open Go.RowKit
set_option linter.unusedVariables false
theorem walkBack (A0 : Option Addr) (len0 cap0 : Nat) (l : List A11) (a s v : Int) (W : World) (e0 : l.length = len0) (K0 : Acts W A0 l) (w1 : (Lit.int .u32 a).wf = true) (w2 : (Lit.int .i64 s).wf = true) (w3 : (Lit.int .u32 v).wf = true) :
    Calls Try.prog 3 #[.slice A0 len0 cap0, .int .u32 a, .int .i64 s, .int .u32 v] W fun e w' => e = .returned (.bool true) ∧ Below W.heap.size W w' := by
  subst e0
  exact MemoryBack_calls _ _ l a s v (by have := Go.bounds_u32 w1; omega) (by have := Go.bounds_u32 w3; omega) W K0
end Go.Proofs.Ytiiemfnaegapmaa.Q
