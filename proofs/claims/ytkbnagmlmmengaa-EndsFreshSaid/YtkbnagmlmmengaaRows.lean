/-
  No cell of these rows narrows 'for every input' (looked for: loops, veiled, ifaces, maps, wideKeys, modest, calm, conditions, laid).
  DERIVED. THE GIVEN ROWS OF THIS SEAT. 12 by the template 'for every input the law returns true; each argument reads behind the call as it read before'; 0 by the template 'total and deterministic' (their statements: YtkbnagmlmmengaaTotals.lean).
  GIVEN WITH THE SEED: the statements are not yours to turn. If you find one false, say at which input.
  Laid BY PROGRAM, IN A SANDBOX (cutbox-rows.mjs): the forced cells as the released guide's own fill.sh prints them over the translation abda88ff29690c11… (all of the seat's roots in one cut). By AI agents, Wed Nov 11 2026. No macro, syntax, notation, axiom, sorry.
-/
import Derived.Test.YtkbnagmlmmengaaChecked
import GoSem.Claim
import GoSem.ClaimJoined
import GoSem.ClaimMapViews
import Derived.JoinedTies
import Derived.KernelRfl
namespace Go.Proofs.Ytkbnagmlmmengaa
/- THE CELL 'sum', in the pinned program and in every row, IS THE sha256 OF THE DUMP (.gsa) THAT YtkbnagmlmmengaaProg.lean LOADS. Nothing in Lean hashes anything: it is a label: what it is worth is what the hold of that sum in a sandbox is worth. -/
noncomputable def Try.pinned : Pinned := { name := "ytkbnagmlmmengaa", sum := "abda88ff29690c1116a19742afe1b33958eb4702e82211fcacd0abf407d20352", checked := Try.checked }
namespace Rows
def none {H : Type} : Left H := { results := [], args := [] }

/-- 'bulwarklaw02.BoundsExact': WHATEVER THE INPUT: true; the input reads as it did. -/
def boundsExactSpec : ChangeSpec := { name := "boundsExact", fn := fun _ => fun
  | [d1, d2] => { results := [.lit (.bool true)], args := [d1, d2] }
  | _ => none }
def boundsExactRow : OpenClaim := { program := "ytkbnagmlmmengaa", sum := "abda88ff29690c1116a19742afe1b33958eb4702e82211fcacd0abf407d20352", func := "bulwark/bulwarklaw02.BoundsExact", spec := "boundsExact", apart := false }
def BoundsExactSaid : Prop := boundsExactRow.holds Try.pinned (OpenSpec.ofChange boundsExactSpec)

/-- ITS FALSE NEIGHBOUR: 'it returns false'. Refute it at one input. -/
def boundsExactWrong : ChangeSpec := { name := "boundsExact", fn := fun _ => fun
  | [d1, d2] => { results := [.lit (.bool false)], args := [d1, d2] }
  | _ => none }
def BoundsExactWrongFalsely : Prop := boundsExactRow.holds Try.pinned (OpenSpec.ofChange boundsExactWrong)

/-- 'bulwarklaw02.BoundsAll': WHATEVER THE INPUT: true; the input reads as it did. -/
def boundsAllSpec : ChangeSpec := { name := "boundsAll", fn := fun _ => fun
  | [d1, d2] => { results := [.lit (.bool true)], args := [d1, d2] }
  | _ => none }
def boundsAllRow : OpenClaim := { program := "ytkbnagmlmmengaa", sum := "abda88ff29690c1116a19742afe1b33958eb4702e82211fcacd0abf407d20352", func := "bulwark/bulwarklaw02.BoundsAll", spec := "boundsAll", apart := false }
def BoundsAllSaid : Prop := boundsAllRow.holds Try.pinned (OpenSpec.ofChange boundsAllSpec)

/-- ITS FALSE NEIGHBOUR: 'it returns false'. Refute it at one input. -/
def boundsAllWrong : ChangeSpec := { name := "boundsAll", fn := fun _ => fun
  | [d1, d2] => { results := [.lit (.bool false)], args := [d1, d2] }
  | _ => none }
def BoundsAllWrongFalsely : Prop := boundsAllRow.holds Try.pinned (OpenSpec.ofChange boundsAllWrong)

/-- 'bulwarklaw02.BoundsBack': WHATEVER THE INPUT: true; the input reads as it did. -/
def boundsBackSpec : ChangeSpec := { name := "boundsBack", fn := fun _ => fun
  | [d1, d2, d3] => { results := [.lit (.bool true)], args := [d1, d2, d3] }
  | _ => none }
def boundsBackRow : OpenClaim := { program := "ytkbnagmlmmengaa", sum := "abda88ff29690c1116a19742afe1b33958eb4702e82211fcacd0abf407d20352", func := "bulwark/bulwarklaw02.BoundsBack", spec := "boundsBack", apart := false }
def BoundsBackSaid : Prop := boundsBackRow.holds Try.pinned (OpenSpec.ofChange boundsBackSpec)

/-- ITS FALSE NEIGHBOUR: 'it returns false'. Refute it at one input. -/
def boundsBackWrong : ChangeSpec := { name := "boundsBack", fn := fun _ => fun
  | [d1, d2, d3] => { results := [.lit (.bool false)], args := [d1, d2, d3] }
  | _ => none }
def BoundsBackWrongFalsely : Prop := boundsBackRow.holds Try.pinned (OpenSpec.ofChange boundsBackWrong)

/-- 'bulwarklaw02.BoundsKeep': WHATEVER THE INPUT: true; the input reads as it did. -/
def boundsKeepSpec : ChangeSpec := { name := "boundsKeep", fn := fun _ => fun
  | [d1, d2, d3, d4] => { results := [.lit (.bool true)], args := [d1, d2, d3, d4] }
  | _ => none }
def boundsKeepRow : OpenClaim := { program := "ytkbnagmlmmengaa", sum := "abda88ff29690c1116a19742afe1b33958eb4702e82211fcacd0abf407d20352", func := "bulwark/bulwarklaw02.BoundsKeep", spec := "boundsKeep", apart := false }
def BoundsKeepSaid : Prop := boundsKeepRow.holds Try.pinned (OpenSpec.ofChange boundsKeepSpec)

/-- ITS FALSE NEIGHBOUR: 'it returns false'. Refute it at one input. -/
def boundsKeepWrong : ChangeSpec := { name := "boundsKeep", fn := fun _ => fun
  | [d1, d2, d3, d4] => { results := [.lit (.bool false)], args := [d1, d2, d3, d4] }
  | _ => none }
def BoundsKeepWrongFalsely : Prop := boundsKeepRow.holds Try.pinned (OpenSpec.ofChange boundsKeepWrong)

/-- 'bulwarklaw02.BoundsWithin': WHATEVER THE INPUT: true; the input reads as it did. -/
def boundsWithinSpec : ChangeSpec := { name := "boundsWithin", fn := fun _ => fun
  | [d1, d2, d3, d4, d5, d6] => { results := [.lit (.bool true)], args := [d1, d2, d3, d4, d5, d6] }
  | _ => none }
def boundsWithinRow : OpenClaim := { program := "ytkbnagmlmmengaa", sum := "abda88ff29690c1116a19742afe1b33958eb4702e82211fcacd0abf407d20352", func := "bulwark/bulwarklaw02.BoundsWithin", spec := "boundsWithin", apart := false }
def BoundsWithinSaid : Prop := boundsWithinRow.holds Try.pinned (OpenSpec.ofChange boundsWithinSpec)

/-- ITS FALSE NEIGHBOUR: 'it returns false'. Refute it at one input. -/
def boundsWithinWrong : ChangeSpec := { name := "boundsWithin", fn := fun _ => fun
  | [d1, d2, d3, d4, d5, d6] => { results := [.lit (.bool false)], args := [d1, d2, d3, d4, d5, d6] }
  | _ => none }
def BoundsWithinWrongFalsely : Prop := boundsWithinRow.holds Try.pinned (OpenSpec.ofChange boundsWithinWrong)

/-- 'bulwarklaw02.BoundsTell': WHATEVER THE INPUT: true; the input reads as it did. -/
def boundsTellSpec : ChangeSpec := { name := "boundsTell", fn := fun _ => fun
  | [d1, d2, d3, d4, d5] => { results := [.lit (.bool true)], args := [d1, d2, d3, d4, d5] }
  | _ => none }
def boundsTellRow : OpenClaim := { program := "ytkbnagmlmmengaa", sum := "abda88ff29690c1116a19742afe1b33958eb4702e82211fcacd0abf407d20352", func := "bulwark/bulwarklaw02.BoundsTell", spec := "boundsTell", apart := false }
def BoundsTellSaid : Prop := boundsTellRow.holds Try.pinned (OpenSpec.ofChange boundsTellSpec)

/-- ITS FALSE NEIGHBOUR: 'it returns false'. Refute it at one input. -/
def boundsTellWrong : ChangeSpec := { name := "boundsTell", fn := fun _ => fun
  | [d1, d2, d3, d4, d5] => { results := [.lit (.bool false)], args := [d1, d2, d3, d4, d5] }
  | _ => none }
def BoundsTellWrongFalsely : Prop := boundsTellRow.holds Try.pinned (OpenSpec.ofChange boundsTellWrong)

/-- 'bulwarklaw01.EndsPuts': WHATEVER THE INPUT: true; the input reads as it did. -/
def endsPutsSpec : ChangeSpec := { name := "endsPuts", fn := fun _ => fun
  | [d1, d2] => { results := [.lit (.bool true)], args := [d1, d2] }
  | _ => none }
def endsPutsRow : OpenClaim := { program := "ytkbnagmlmmengaa", sum := "abda88ff29690c1116a19742afe1b33958eb4702e82211fcacd0abf407d20352", func := "bulwark/bulwarklaw01.EndsPuts", spec := "endsPuts", apart := false }
def EndsPutsSaid : Prop := endsPutsRow.holds Try.pinned (OpenSpec.ofChange endsPutsSpec)

/-- ITS FALSE NEIGHBOUR: 'it returns false'. Refute it at one input. -/
def endsPutsWrong : ChangeSpec := { name := "endsPuts", fn := fun _ => fun
  | [d1, d2] => { results := [.lit (.bool false)], args := [d1, d2] }
  | _ => none }
def EndsPutsWrongFalsely : Prop := endsPutsRow.holds Try.pinned (OpenSpec.ofChange endsPutsWrong)

/-- 'bulwarklaw01.EndsBack': WHATEVER THE INPUT: true; the input reads as it did. -/
def endsBackSpec : ChangeSpec := { name := "endsBack", fn := fun _ => fun
  | [d1, d2, d3, d4] => { results := [.lit (.bool true)], args := [d1, d2, d3, d4] }
  | _ => none }
def endsBackRow : OpenClaim := { program := "ytkbnagmlmmengaa", sum := "abda88ff29690c1116a19742afe1b33958eb4702e82211fcacd0abf407d20352", func := "bulwark/bulwarklaw01.EndsBack", spec := "endsBack", apart := false }
def EndsBackSaid : Prop := endsBackRow.holds Try.pinned (OpenSpec.ofChange endsBackSpec)

/-- ITS FALSE NEIGHBOUR: 'it returns false'. Refute it at one input. -/
def endsBackWrong : ChangeSpec := { name := "endsBack", fn := fun _ => fun
  | [d1, d2, d3, d4] => { results := [.lit (.bool false)], args := [d1, d2, d3, d4] }
  | _ => none }
def EndsBackWrongFalsely : Prop := endsBackRow.holds Try.pinned (OpenSpec.ofChange endsBackWrong)

/-- 'bulwarklaw01.EndsOnce': WHATEVER THE INPUT: true; the input reads as it did. -/
def endsOnceSpec : ChangeSpec := { name := "endsOnce", fn := fun _ => fun
  | [d1, d2, d3] => { results := [.lit (.bool true)], args := [d1, d2, d3] }
  | _ => none }
def endsOnceRow : OpenClaim := { program := "ytkbnagmlmmengaa", sum := "abda88ff29690c1116a19742afe1b33958eb4702e82211fcacd0abf407d20352", func := "bulwark/bulwarklaw01.EndsOnce", spec := "endsOnce", apart := false }
def EndsOnceSaid : Prop := endsOnceRow.holds Try.pinned (OpenSpec.ofChange endsOnceSpec)

/-- ITS FALSE NEIGHBOUR: 'it returns false'. Refute it at one input. -/
def endsOnceWrong : ChangeSpec := { name := "endsOnce", fn := fun _ => fun
  | [d1, d2, d3] => { results := [.lit (.bool false)], args := [d1, d2, d3] }
  | _ => none }
def EndsOnceWrongFalsely : Prop := endsOnceRow.holds Try.pinned (OpenSpec.ofChange endsOnceWrong)

/-- 'bulwarklaw01.EndsGets': WHATEVER THE INPUT: true; the input reads as it did. -/
def endsGetsSpec : ChangeSpec := { name := "endsGets", fn := fun _ => fun
  | [d1, d2, d3, d4] => { results := [.lit (.bool true)], args := [d1, d2, d3, d4] }
  | _ => none }
def endsGetsRow : OpenClaim := { program := "ytkbnagmlmmengaa", sum := "abda88ff29690c1116a19742afe1b33958eb4702e82211fcacd0abf407d20352", func := "bulwark/bulwarklaw01.EndsGets", spec := "endsGets", apart := false }
def EndsGetsSaid : Prop := endsGetsRow.holds Try.pinned (OpenSpec.ofChange endsGetsSpec)

/-- ITS FALSE NEIGHBOUR: 'it returns false'. Refute it at one input. -/
def endsGetsWrong : ChangeSpec := { name := "endsGets", fn := fun _ => fun
  | [d1, d2, d3, d4] => { results := [.lit (.bool false)], args := [d1, d2, d3, d4] }
  | _ => none }
def EndsGetsWrongFalsely : Prop := endsGetsRow.holds Try.pinned (OpenSpec.ofChange endsGetsWrong)

/-- 'bulwarklaw01.EndsPad': WHATEVER THE INPUT: true; the input reads as it did. -/
def endsPadSpec : ChangeSpec := { name := "endsPad", fn := fun _ => fun
  | [d] => { results := [.lit (.bool true)], args := [d] }
  | _ => none }
def endsPadRow : OpenClaim := { program := "ytkbnagmlmmengaa", sum := "abda88ff29690c1116a19742afe1b33958eb4702e82211fcacd0abf407d20352", func := "bulwark/bulwarklaw01.EndsPad", spec := "endsPad", apart := false }
def EndsPadSaid : Prop := endsPadRow.holds Try.pinned (OpenSpec.ofChange endsPadSpec)

/-- ITS FALSE NEIGHBOUR: 'it returns false'. Refute it at one input. -/
def endsPadWrong : ChangeSpec := { name := "endsPad", fn := fun _ => fun
  | [d] => { results := [.lit (.bool false)], args := [d] }
  | _ => none }
def EndsPadWrongFalsely : Prop := endsPadRow.holds Try.pinned (OpenSpec.ofChange endsPadWrong)

/-- 'bulwarklaw01.EndsFresh': WHATEVER THE INPUT: true; the input reads as it did. -/
def endsFreshSpec : ChangeSpec := { name := "endsFresh", fn := fun _ => fun
  | [d1, d2, d3] => { results := [.lit (.bool true)], args := [d1, d2, d3] }
  | _ => none }
def endsFreshRow : OpenClaim := { program := "ytkbnagmlmmengaa", sum := "abda88ff29690c1116a19742afe1b33958eb4702e82211fcacd0abf407d20352", func := "bulwark/bulwarklaw01.EndsFresh", spec := "endsFresh", apart := false }
def EndsFreshSaid : Prop := endsFreshRow.holds Try.pinned (OpenSpec.ofChange endsFreshSpec)

/-- ITS FALSE NEIGHBOUR: 'it returns false'. Refute it at one input. -/
def endsFreshWrong : ChangeSpec := { name := "endsFresh", fn := fun _ => fun
  | [d1, d2, d3] => { results := [.lit (.bool false)], args := [d1, d2, d3] }
  | _ => none }
def EndsFreshWrongFalsely : Prop := endsFreshRow.holds Try.pinned (OpenSpec.ofChange endsFreshWrong)

/- THE SECOND FORM. 'bulk': how many values and letters a reading holds, each counted each time it is reached (what is shared counts as often as it is met; a slice's spare places count too). A statement '..UptoSaid' is the law's where the arguments, and the package variables that the reading takes, are together of bulk at most 1048576: NARROWER than '..Said'. Prove '..Said' where nothing that the law and all that it calls make is longer than what came in: it says more and counts as full. Else prove '..UptoSaid'. A law counts once. -/
mutual
def uptoBulk {H : Type} : DataW H → Nat
  | .lit (.string bytes) => bytes.length + 1
  | .lit _ => 1
  | .nil => 1
  | .ptr d => uptoBulk d + 1
  | .slice elems spare => uptoBulkAll elems + uptoBulkAll spare + 1
  | .agg parts => uptoBulkAll parts + 1
  | .iface _ d => uptoBulk d + 1
  | .map entries => uptoBulkEntries entries + 1
  | .held _ => 1
def uptoBulkAll {H : Type} : List (DataW H) → Nat
  | [] => 0
  | d :: r => uptoBulk d + uptoBulkAll r
def uptoBulkEntries {H : Type} : List (Lit × DataW H) → Nat
  | [] => 0
  | x :: r => uptoBulkEntry x + uptoBulkEntries r
def uptoBulkEntry {H : Type} : Lit × DataW H → Nat
  | (.string bytes, d) => bytes.length + uptoBulk d + 1
  | (_, d) => uptoBulk d + 1
 end
def uptoSmall : (H : Type) → List (DataW H) → Bool := fun _ ds => decide (uptoBulkAll ds ≤ 1048576)
def OpenSpec.upto (s : _root_.Go.ChangeSpec) : _root_.Go.OpenSpec := { _root_.Go.OpenSpec.ofChange s with cond := some uptoSmall }

/-- 'bulwarklaw02.BoundsExact', WHERE WHAT IT READS IS OF BULK AT MOST 1048576: true; the input reads as it did. -/
def boundsExactUptoRow : OpenClaim := { program := "ytkbnagmlmmengaa", sum := "abda88ff29690c1116a19742afe1b33958eb4702e82211fcacd0abf407d20352", func := "bulwark/bulwarklaw02.BoundsExact", spec := "boundsExact", apart := false, narrowed := true }
def BoundsExactUptoSaid : Prop := boundsExactUptoRow.holds Try.pinned (OpenSpec.upto boundsExactSpec)

/-- 'bulwarklaw02.BoundsAll', WHERE WHAT IT READS IS OF BULK AT MOST 1048576: true; the input reads as it did. -/
def boundsAllUptoRow : OpenClaim := { program := "ytkbnagmlmmengaa", sum := "abda88ff29690c1116a19742afe1b33958eb4702e82211fcacd0abf407d20352", func := "bulwark/bulwarklaw02.BoundsAll", spec := "boundsAll", apart := false, narrowed := true }
def BoundsAllUptoSaid : Prop := boundsAllUptoRow.holds Try.pinned (OpenSpec.upto boundsAllSpec)

/-- 'bulwarklaw02.BoundsBack', WHERE WHAT IT READS IS OF BULK AT MOST 1048576: true; the input reads as it did. -/
def boundsBackUptoRow : OpenClaim := { program := "ytkbnagmlmmengaa", sum := "abda88ff29690c1116a19742afe1b33958eb4702e82211fcacd0abf407d20352", func := "bulwark/bulwarklaw02.BoundsBack", spec := "boundsBack", apart := false, narrowed := true }
def BoundsBackUptoSaid : Prop := boundsBackUptoRow.holds Try.pinned (OpenSpec.upto boundsBackSpec)

/-- 'bulwarklaw02.BoundsKeep', WHERE WHAT IT READS IS OF BULK AT MOST 1048576: true; the input reads as it did. -/
def boundsKeepUptoRow : OpenClaim := { program := "ytkbnagmlmmengaa", sum := "abda88ff29690c1116a19742afe1b33958eb4702e82211fcacd0abf407d20352", func := "bulwark/bulwarklaw02.BoundsKeep", spec := "boundsKeep", apart := false, narrowed := true }
def BoundsKeepUptoSaid : Prop := boundsKeepUptoRow.holds Try.pinned (OpenSpec.upto boundsKeepSpec)

/-- 'bulwarklaw02.BoundsWithin', WHERE WHAT IT READS IS OF BULK AT MOST 1048576: true; the input reads as it did. -/
def boundsWithinUptoRow : OpenClaim := { program := "ytkbnagmlmmengaa", sum := "abda88ff29690c1116a19742afe1b33958eb4702e82211fcacd0abf407d20352", func := "bulwark/bulwarklaw02.BoundsWithin", spec := "boundsWithin", apart := false, narrowed := true }
def BoundsWithinUptoSaid : Prop := boundsWithinUptoRow.holds Try.pinned (OpenSpec.upto boundsWithinSpec)

/-- 'bulwarklaw02.BoundsTell', WHERE WHAT IT READS IS OF BULK AT MOST 1048576: true; the input reads as it did. -/
def boundsTellUptoRow : OpenClaim := { program := "ytkbnagmlmmengaa", sum := "abda88ff29690c1116a19742afe1b33958eb4702e82211fcacd0abf407d20352", func := "bulwark/bulwarklaw02.BoundsTell", spec := "boundsTell", apart := false, narrowed := true }
def BoundsTellUptoSaid : Prop := boundsTellUptoRow.holds Try.pinned (OpenSpec.upto boundsTellSpec)

/-- 'bulwarklaw01.EndsPuts', WHERE WHAT IT READS IS OF BULK AT MOST 1048576: true; the input reads as it did. -/
def endsPutsUptoRow : OpenClaim := { program := "ytkbnagmlmmengaa", sum := "abda88ff29690c1116a19742afe1b33958eb4702e82211fcacd0abf407d20352", func := "bulwark/bulwarklaw01.EndsPuts", spec := "endsPuts", apart := false, narrowed := true }
def EndsPutsUptoSaid : Prop := endsPutsUptoRow.holds Try.pinned (OpenSpec.upto endsPutsSpec)

/-- 'bulwarklaw01.EndsBack', WHERE WHAT IT READS IS OF BULK AT MOST 1048576: true; the input reads as it did. -/
def endsBackUptoRow : OpenClaim := { program := "ytkbnagmlmmengaa", sum := "abda88ff29690c1116a19742afe1b33958eb4702e82211fcacd0abf407d20352", func := "bulwark/bulwarklaw01.EndsBack", spec := "endsBack", apart := false, narrowed := true }
def EndsBackUptoSaid : Prop := endsBackUptoRow.holds Try.pinned (OpenSpec.upto endsBackSpec)

/-- 'bulwarklaw01.EndsOnce', WHERE WHAT IT READS IS OF BULK AT MOST 1048576: true; the input reads as it did. -/
def endsOnceUptoRow : OpenClaim := { program := "ytkbnagmlmmengaa", sum := "abda88ff29690c1116a19742afe1b33958eb4702e82211fcacd0abf407d20352", func := "bulwark/bulwarklaw01.EndsOnce", spec := "endsOnce", apart := false, narrowed := true }
def EndsOnceUptoSaid : Prop := endsOnceUptoRow.holds Try.pinned (OpenSpec.upto endsOnceSpec)

/-- 'bulwarklaw01.EndsGets', WHERE WHAT IT READS IS OF BULK AT MOST 1048576: true; the input reads as it did. -/
def endsGetsUptoRow : OpenClaim := { program := "ytkbnagmlmmengaa", sum := "abda88ff29690c1116a19742afe1b33958eb4702e82211fcacd0abf407d20352", func := "bulwark/bulwarklaw01.EndsGets", spec := "endsGets", apart := false, narrowed := true }
def EndsGetsUptoSaid : Prop := endsGetsUptoRow.holds Try.pinned (OpenSpec.upto endsGetsSpec)

/-- 'bulwarklaw01.EndsPad', WHERE WHAT IT READS IS OF BULK AT MOST 1048576: true; the input reads as it did. -/
def endsPadUptoRow : OpenClaim := { program := "ytkbnagmlmmengaa", sum := "abda88ff29690c1116a19742afe1b33958eb4702e82211fcacd0abf407d20352", func := "bulwark/bulwarklaw01.EndsPad", spec := "endsPad", apart := false, narrowed := true }
def EndsPadUptoSaid : Prop := endsPadUptoRow.holds Try.pinned (OpenSpec.upto endsPadSpec)

/-- 'bulwarklaw01.EndsFresh', WHERE WHAT IT READS IS OF BULK AT MOST 1048576: true; the input reads as it did. -/
def endsFreshUptoRow : OpenClaim := { program := "ytkbnagmlmmengaa", sum := "abda88ff29690c1116a19742afe1b33958eb4702e82211fcacd0abf407d20352", func := "bulwark/bulwarklaw01.EndsFresh", spec := "endsFresh", apart := false, narrowed := true }
def EndsFreshUptoSaid : Prop := endsFreshUptoRow.holds Try.pinned (OpenSpec.upto endsFreshSpec)

end Rows
end Go.Proofs.Ytkbnagmlmmengaa
