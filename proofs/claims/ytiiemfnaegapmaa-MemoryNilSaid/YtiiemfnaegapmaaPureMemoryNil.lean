/- The walk of the law MemoryNil, for its row. -/
import Derived.Test.YtiiemfnaegapmaaH15
namespace Go.Proofs.Ytiiemfnaegapmaa.Q
open Go.RowKit
set_option linter.unusedVariables false
theorem walkNil (a : Int) (q0 : Bool) (q1 q2 q3 q4 q5 q6 : Int) (zero : Bool) (W : World) (h : (Lit.int .u32 a).wf = true) (h1 : (Lit.int .u32 q1).wf = true) (h2 : (Lit.int .u8 q2).wf = true) (h3 : (Lit.int .u8 q3).wf = true) (h4 : (Lit.int .u8 q4).wf = true) (h5 : (Lit.int .u16 q5).wf = true) (h6 : (Lit.int .u16 q6).wf = true) :
    Calls Try.prog 6 #[.int .u32 a, .agg #[.bool q0, .int .u32 q1, .int .u8 q2, .int .u8 q3, .int .u8 q4, .int .u16 q5, .int .u16 q6], .bool zero] W fun e w' => e = .returned (.bool true) ∧ Below W.heap.size W w' := MemoryNil_calls a q0 q1 q2 q3 q4 q5 q6 zero W
end Go.Proofs.Ytiiemfnaegapmaa.Q
