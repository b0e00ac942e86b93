/- The walk of the law MemoryCaps, for its row. -/
import Derived.Test.YtiiemfnaegapmaaH16
namespace Go.Proofs.Ytiiemfnaegapmaa.Q
open Go.RowKit
set_option linter.unusedVariables false
theorem walkCaps (a : Int) (q0 : Bool) (q1 q2 q3 q4 q5 q6 : Int) (v : Int) (W : World) (h : (Lit.int .u32 a).wf = true) (h1 : (Lit.int .u32 q1).wf = true) (h2 : (Lit.int .u8 q2).wf = true) (h3 : (Lit.int .u8 q3).wf = true) (h4 : (Lit.int .u8 q4).wf = true) (h5 : (Lit.int .u16 q5).wf = true) (h6 : (Lit.int .u16 q6).wf = true) (hv : (Lit.int .u32 v).wf = true) :
    Calls Try.prog 4 #[.int .u32 a, .agg #[.bool q0, .int .u32 q1, .int .u8 q2, .int .u8 q3, .int .u8 q4, .int .u16 q5, .int .u16 q6], .int .u32 v] W fun e w' => e = .returned (.bool true) ∧ Below W.heap.size W w' :=
  MemoryCaps_calls a (by have := Go.bounds_u32 h; omega) q0 q1 q2 q3 q4 q5 q6 (by have := Go.bounds_u32 h1; omega) (Go.bounds_u8 h2) (Go.bounds_u8 h3) (Go.bounds_u8 h4) (by have := Go.bounds_u16 h5; omega) (by have := Go.bounds_u16 h6; omega) v (by have := Go.bounds_u32 hv; omega) W
end Go.Proofs.Ytiiemfnaegapmaa.Q
