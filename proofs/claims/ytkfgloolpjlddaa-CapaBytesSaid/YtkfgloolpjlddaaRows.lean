/-
  No cell of these rows narrows 'for every input' (looked for: loops, veiled, ifaces, maps, wideKeys, modest, calm, conditions, laid).
  DERIVED. THE GIVEN ROWS OF THIS SEAT. 8 by the template 'for every input the law returns true; each argument reads behind the call as it read before'; 0 by the template 'total and deterministic' (their statements: YtkfgloolpjlddaaTotals.lean).
  GIVEN WITH THE SEED: the statements are not yours to turn. If you find one false, say at which input.
  Laid BY PROGRAM, IN A SANDBOX (cutbox-rows.mjs): the forced cells as the released guide's own fill.sh prints them over the translation c94ac3520fdb2cf3… (all of the seat's roots in one cut). By AI agents, Wed Nov 11 2026. No macro, syntax, notation, axiom, sorry.
-/
import Derived.Test.YtkfgloolpjlddaaChecked
import GoSem.Claim
import GoSem.ClaimJoined
import GoSem.ClaimMapViews
import Derived.JoinedTies
import Derived.KernelRfl
namespace Go.Proofs.Ytkfgloolpjlddaa
/- THE CELL 'sum', in the pinned program and in every row, IS THE sha256 OF THE DUMP (.gsa) THAT YtkfgloolpjlddaaProg.lean LOADS. Nothing in Lean hashes anything: it is a label: what it is worth is what the hold of that sum in a sandbox is worth. -/
noncomputable def Try.pinned : Pinned := { name := "ytkfgloolpjlddaa", sum := "c94ac3520fdb2cf3aafd9cb0064f8b58ea22f0e10c100ed8a05d98b8e30862b2", checked := Try.checked }
namespace Rows
def none {H : Type} : Left H := { results := [], args := [] }

/-- 'bulwarklaw03.CapaAsks': WHATEVER THE INPUT: true; the input reads as it did. -/
def capaAsksSpec : ChangeSpec := { name := "capaAsks", fn := fun _ => fun
  | [d1, d2, d3, d4, d5, d6] => { results := [.lit (.bool true)], args := [d1, d2, d3, d4, d5, d6] }
  | _ => none }
def capaAsksRow : OpenClaim := { program := "ytkfgloolpjlddaa", sum := "c94ac3520fdb2cf3aafd9cb0064f8b58ea22f0e10c100ed8a05d98b8e30862b2", func := "bulwark/bulwarklaw03.CapaAsks", spec := "capaAsks", apart := false }
def CapaAsksSaid : Prop := capaAsksRow.holds Try.pinned (OpenSpec.ofChange capaAsksSpec)

/-- ITS FALSE NEIGHBOUR: 'it returns false'. Refute it at one input. -/
def capaAsksWrong : ChangeSpec := { name := "capaAsks", fn := fun _ => fun
  | [d1, d2, d3, d4, d5, d6] => { results := [.lit (.bool false)], args := [d1, d2, d3, d4, d5, d6] }
  | _ => none }
def CapaAsksWrongFalsely : Prop := capaAsksRow.holds Try.pinned (OpenSpec.ofChange capaAsksWrong)

/-- 'bulwarklaw03.CapaOrder': WHATEVER THE INPUT: true; the input reads as it did. -/
def capaOrderSpec : ChangeSpec := { name := "capaOrder", fn := fun _ => fun
  | [d1, d2, d3, d4, d5, d6] => { results := [.lit (.bool true)], args := [d1, d2, d3, d4, d5, d6] }
  | _ => none }
def capaOrderRow : OpenClaim := { program := "ytkfgloolpjlddaa", sum := "c94ac3520fdb2cf3aafd9cb0064f8b58ea22f0e10c100ed8a05d98b8e30862b2", func := "bulwark/bulwarklaw03.CapaOrder", spec := "capaOrder", apart := false }
def CapaOrderSaid : Prop := capaOrderRow.holds Try.pinned (OpenSpec.ofChange capaOrderSpec)

/-- ITS FALSE NEIGHBOUR: 'it returns false'. Refute it at one input. -/
def capaOrderWrong : ChangeSpec := { name := "capaOrder", fn := fun _ => fun
  | [d1, d2, d3, d4, d5, d6] => { results := [.lit (.bool false)], args := [d1, d2, d3, d4, d5, d6] }
  | _ => none }
def CapaOrderWrongFalsely : Prop := capaOrderRow.holds Try.pinned (OpenSpec.ofChange capaOrderWrong)

/-- 'bulwarklaw03.CapaSeals': WHATEVER THE INPUT: true; the input reads as it did. -/
def capaSealsSpec : ChangeSpec := { name := "capaSeals", fn := fun _ => fun
  | [d1, d2] => { results := [.lit (.bool true)], args := [d1, d2] }
  | _ => none }
def capaSealsRow : OpenClaim := { program := "ytkfgloolpjlddaa", sum := "c94ac3520fdb2cf3aafd9cb0064f8b58ea22f0e10c100ed8a05d98b8e30862b2", func := "bulwark/bulwarklaw03.CapaSeals", spec := "capaSeals", apart := false }
def CapaSealsSaid : Prop := capaSealsRow.holds Try.pinned (OpenSpec.ofChange capaSealsSpec)

/-- ITS FALSE NEIGHBOUR: 'it returns false'. Refute it at one input. -/
def capaSealsWrong : ChangeSpec := { name := "capaSeals", fn := fun _ => fun
  | [d1, d2] => { results := [.lit (.bool false)], args := [d1, d2] }
  | _ => none }
def CapaSealsWrongFalsely : Prop := capaSealsRow.holds Try.pinned (OpenSpec.ofChange capaSealsWrong)

/-- 'bulwarklaw03.CapaChain': WHATEVER THE INPUT: true; the input reads as it did. -/
def capaChainSpec : ChangeSpec := { name := "capaChain", fn := fun _ => fun
  | [d1, d2, d3, d4] => { results := [.lit (.bool true)], args := [d1, d2, d3, d4] }
  | _ => none }
def capaChainRow : OpenClaim := { program := "ytkfgloolpjlddaa", sum := "c94ac3520fdb2cf3aafd9cb0064f8b58ea22f0e10c100ed8a05d98b8e30862b2", func := "bulwark/bulwarklaw03.CapaChain", spec := "capaChain", apart := false }
def CapaChainSaid : Prop := capaChainRow.holds Try.pinned (OpenSpec.ofChange capaChainSpec)

/-- ITS FALSE NEIGHBOUR: 'it returns false'. Refute it at one input. -/
def capaChainWrong : ChangeSpec := { name := "capaChain", fn := fun _ => fun
  | [d1, d2, d3, d4] => { results := [.lit (.bool false)], args := [d1, d2, d3, d4] }
  | _ => none }
def CapaChainWrongFalsely : Prop := capaChainRow.holds Try.pinned (OpenSpec.ofChange capaChainWrong)

/-- 'bulwarklaw03.CapaMoves': WHATEVER THE INPUT: true; the input reads as it did. -/
def capaMovesSpec : ChangeSpec := { name := "capaMoves", fn := fun _ => fun
  | [d1, d2, d3, d4] => { results := [.lit (.bool true)], args := [d1, d2, d3, d4] }
  | _ => none }
def capaMovesRow : OpenClaim := { program := "ytkfgloolpjlddaa", sum := "c94ac3520fdb2cf3aafd9cb0064f8b58ea22f0e10c100ed8a05d98b8e30862b2", func := "bulwark/bulwarklaw03.CapaMoves", spec := "capaMoves", apart := false }
def CapaMovesSaid : Prop := capaMovesRow.holds Try.pinned (OpenSpec.ofChange capaMovesSpec)

/-- ITS FALSE NEIGHBOUR: 'it returns false'. Refute it at one input. -/
def capaMovesWrong : ChangeSpec := { name := "capaMoves", fn := fun _ => fun
  | [d1, d2, d3, d4] => { results := [.lit (.bool false)], args := [d1, d2, d3, d4] }
  | _ => none }
def CapaMovesWrongFalsely : Prop := capaMovesRow.holds Try.pinned (OpenSpec.ofChange capaMovesWrong)

/-- 'bulwarklaw03.CapaLess': WHATEVER THE INPUT: true; the input reads as it did. -/
def capaLessSpec : ChangeSpec := { name := "capaLess", fn := fun _ => fun
  | [d1, d2, d3, d4, d5] => { results := [.lit (.bool true)], args := [d1, d2, d3, d4, d5] }
  | _ => none }
def capaLessRow : OpenClaim := { program := "ytkfgloolpjlddaa", sum := "c94ac3520fdb2cf3aafd9cb0064f8b58ea22f0e10c100ed8a05d98b8e30862b2", func := "bulwark/bulwarklaw03.CapaLess", spec := "capaLess", apart := false }
def CapaLessSaid : Prop := capaLessRow.holds Try.pinned (OpenSpec.ofChange capaLessSpec)

/-- ITS FALSE NEIGHBOUR: 'it returns false'. Refute it at one input. -/
def capaLessWrong : ChangeSpec := { name := "capaLess", fn := fun _ => fun
  | [d1, d2, d3, d4, d5] => { results := [.lit (.bool false)], args := [d1, d2, d3, d4, d5] }
  | _ => none }
def CapaLessWrongFalsely : Prop := capaLessRow.holds Try.pinned (OpenSpec.ofChange capaLessWrong)

/-- 'bulwarklaw03.CapaBytes': WHATEVER THE INPUT: true; the input reads as it did. -/
def capaBytesSpec : ChangeSpec := { name := "capaBytes", fn := fun _ => fun
  | [d1, d2, d3, d4] => { results := [.lit (.bool true)], args := [d1, d2, d3, d4] }
  | _ => none }
def capaBytesRow : OpenClaim := { program := "ytkfgloolpjlddaa", sum := "c94ac3520fdb2cf3aafd9cb0064f8b58ea22f0e10c100ed8a05d98b8e30862b2", func := "bulwark/bulwarklaw03.CapaBytes", spec := "capaBytes", apart := false }
def CapaBytesSaid : Prop := capaBytesRow.holds Try.pinned (OpenSpec.ofChange capaBytesSpec)

/-- ITS FALSE NEIGHBOUR: 'it returns false'. Refute it at one input. -/
def capaBytesWrong : ChangeSpec := { name := "capaBytes", fn := fun _ => fun
  | [d1, d2, d3, d4] => { results := [.lit (.bool false)], args := [d1, d2, d3, d4] }
  | _ => none }
def CapaBytesWrongFalsely : Prop := capaBytesRow.holds Try.pinned (OpenSpec.ofChange capaBytesWrong)

/-- 'bulwarklaw03.CapaBack': WHATEVER THE INPUT: true; the input reads as it did. -/
def capaBackSpec : ChangeSpec := { name := "capaBack", fn := fun _ => fun
  | [d1, d2] => { results := [.lit (.bool true)], args := [d1, d2] }
  | _ => none }
def capaBackRow : OpenClaim := { program := "ytkfgloolpjlddaa", sum := "c94ac3520fdb2cf3aafd9cb0064f8b58ea22f0e10c100ed8a05d98b8e30862b2", func := "bulwark/bulwarklaw03.CapaBack", spec := "capaBack", apart := false }
def CapaBackSaid : Prop := capaBackRow.holds Try.pinned (OpenSpec.ofChange capaBackSpec)

/-- ITS FALSE NEIGHBOUR: 'it returns false'. Refute it at one input. -/
def capaBackWrong : ChangeSpec := { name := "capaBack", fn := fun _ => fun
  | [d1, d2] => { results := [.lit (.bool false)], args := [d1, d2] }
  | _ => none }
def CapaBackWrongFalsely : Prop := capaBackRow.holds Try.pinned (OpenSpec.ofChange capaBackWrong)

/- THE SECOND FORM. 'bulk': how many values and letters a reading holds, each counted each time it is reached (what is shared counts as often as it is met; a slice's spare places count too). A statement '..UptoSaid' is the law's where the arguments, and the package variables that the reading takes, are together of bulk at most 1048576: NARROWER than '..Said'. Prove '..Said' where nothing that the law and all that it calls make is longer than what came in: it says more and counts as full. Else prove '..UptoSaid'. A law counts once. -/
mutual
def uptoBulk {H : Type} : DataW H → Nat
  | .lit (.string bytes) => bytes.length + 1
  | .lit _ => 1
  | .nil => 1
  | .ptr d => uptoBulk d + 1
  | .slice elems spare => uptoBulkAll elems + uptoBulkAll spare + 1
  | .agg parts => uptoBulkAll parts + 1
  | .iface _ d => uptoBulk d + 1
  | .map entries => uptoBulkEntries entries + 1
  | .held _ => 1
def uptoBulkAll {H : Type} : List (DataW H) → Nat
  | [] => 0
  | d :: r => uptoBulk d + uptoBulkAll r
def uptoBulkEntries {H : Type} : List (Lit × DataW H) → Nat
  | [] => 0
  | x :: r => uptoBulkEntry x + uptoBulkEntries r
def uptoBulkEntry {H : Type} : Lit × DataW H → Nat
  | (.string bytes, d) => bytes.length + uptoBulk d + 1
  | (_, d) => uptoBulk d + 1
 end
def uptoSmall : (H : Type) → List (DataW H) → Bool := fun _ ds => decide (uptoBulkAll ds ≤ 1048576)
def OpenSpec.upto (s : _root_.Go.ChangeSpec) : _root_.Go.OpenSpec := { _root_.Go.OpenSpec.ofChange s with cond := some uptoSmall }

/-- 'bulwarklaw03.CapaAsks', WHERE WHAT IT READS IS OF BULK AT MOST 1048576: true; the input reads as it did. -/
def capaAsksUptoRow : OpenClaim := { program := "ytkfgloolpjlddaa", sum := "c94ac3520fdb2cf3aafd9cb0064f8b58ea22f0e10c100ed8a05d98b8e30862b2", func := "bulwark/bulwarklaw03.CapaAsks", spec := "capaAsks", apart := false, narrowed := true }
def CapaAsksUptoSaid : Prop := capaAsksUptoRow.holds Try.pinned (OpenSpec.upto capaAsksSpec)

/-- 'bulwarklaw03.CapaOrder', WHERE WHAT IT READS IS OF BULK AT MOST 1048576: true; the input reads as it did. -/
def capaOrderUptoRow : OpenClaim := { program := "ytkfgloolpjlddaa", sum := "c94ac3520fdb2cf3aafd9cb0064f8b58ea22f0e10c100ed8a05d98b8e30862b2", func := "bulwark/bulwarklaw03.CapaOrder", spec := "capaOrder", apart := false, narrowed := true }
def CapaOrderUptoSaid : Prop := capaOrderUptoRow.holds Try.pinned (OpenSpec.upto capaOrderSpec)

/-- 'bulwarklaw03.CapaSeals', WHERE WHAT IT READS IS OF BULK AT MOST 1048576: true; the input reads as it did. -/
def capaSealsUptoRow : OpenClaim := { program := "ytkfgloolpjlddaa", sum := "c94ac3520fdb2cf3aafd9cb0064f8b58ea22f0e10c100ed8a05d98b8e30862b2", func := "bulwark/bulwarklaw03.CapaSeals", spec := "capaSeals", apart := false, narrowed := true }
def CapaSealsUptoSaid : Prop := capaSealsUptoRow.holds Try.pinned (OpenSpec.upto capaSealsSpec)

/-- 'bulwarklaw03.CapaChain', WHERE WHAT IT READS IS OF BULK AT MOST 1048576: true; the input reads as it did. -/
def capaChainUptoRow : OpenClaim := { program := "ytkfgloolpjlddaa", sum := "c94ac3520fdb2cf3aafd9cb0064f8b58ea22f0e10c100ed8a05d98b8e30862b2", func := "bulwark/bulwarklaw03.CapaChain", spec := "capaChain", apart := false, narrowed := true }
def CapaChainUptoSaid : Prop := capaChainUptoRow.holds Try.pinned (OpenSpec.upto capaChainSpec)

/-- 'bulwarklaw03.CapaMoves', WHERE WHAT IT READS IS OF BULK AT MOST 1048576: true; the input reads as it did. -/
def capaMovesUptoRow : OpenClaim := { program := "ytkfgloolpjlddaa", sum := "c94ac3520fdb2cf3aafd9cb0064f8b58ea22f0e10c100ed8a05d98b8e30862b2", func := "bulwark/bulwarklaw03.CapaMoves", spec := "capaMoves", apart := false, narrowed := true }
def CapaMovesUptoSaid : Prop := capaMovesUptoRow.holds Try.pinned (OpenSpec.upto capaMovesSpec)

/-- 'bulwarklaw03.CapaLess', WHERE WHAT IT READS IS OF BULK AT MOST 1048576: true; the input reads as it did. -/
def capaLessUptoRow : OpenClaim := { program := "ytkfgloolpjlddaa", sum := "c94ac3520fdb2cf3aafd9cb0064f8b58ea22f0e10c100ed8a05d98b8e30862b2", func := "bulwark/bulwarklaw03.CapaLess", spec := "capaLess", apart := false, narrowed := true }
def CapaLessUptoSaid : Prop := capaLessUptoRow.holds Try.pinned (OpenSpec.upto capaLessSpec)

/-- 'bulwarklaw03.CapaBytes', WHERE WHAT IT READS IS OF BULK AT MOST 1048576: true; the input reads as it did. -/
def capaBytesUptoRow : OpenClaim := { program := "ytkfgloolpjlddaa", sum := "c94ac3520fdb2cf3aafd9cb0064f8b58ea22f0e10c100ed8a05d98b8e30862b2", func := "bulwark/bulwarklaw03.CapaBytes", spec := "capaBytes", apart := false, narrowed := true }
def CapaBytesUptoSaid : Prop := capaBytesUptoRow.holds Try.pinned (OpenSpec.upto capaBytesSpec)

/-- 'bulwarklaw03.CapaBack', WHERE WHAT IT READS IS OF BULK AT MOST 1048576: true; the input reads as it did. -/
def capaBackUptoRow : OpenClaim := { program := "ytkfgloolpjlddaa", sum := "c94ac3520fdb2cf3aafd9cb0064f8b58ea22f0e10c100ed8a05d98b8e30862b2", func := "bulwark/bulwarklaw03.CapaBack", spec := "capaBack", apart := false, narrowed := true }
def CapaBackUptoSaid : Prop := capaBackUptoRow.holds Try.pinned (OpenSpec.upto capaBackSpec)

end Rows
end Go.Proofs.Ytkfgloolpjlddaa
