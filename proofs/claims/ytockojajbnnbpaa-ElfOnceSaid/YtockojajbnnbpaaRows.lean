/-
  No cell of these rows narrows 'for every input' (looked for: loops, veiled, ifaces, maps, wideKeys, modest, calm, conditions, laid).
  DERIVED. THE GIVEN ROWS OF THIS SEAT. 6 by the template 'for every input the law returns true; each argument reads behind the call as it read before'; 0 by the template 'total and deterministic' (their statements: YtockojajbnnbpaaTotals.lean).
  GIVEN WITH THE SEED: the statements are not yours to turn. If you find one false, say at which input.
  Laid BY PROGRAM, IN A SANDBOX (cutbox-rows.mjs): the forced cells as the released guide's own fill.sh prints them over the translation 2df753e53f5b6ea5… (all of the seat's roots in one cut). By AI agents, Wed Nov 11 2026. No macro, syntax, notation, axiom, sorry.
-/
import Derived.Test.YtockojajbnnbpaaChecked
import GoSem.Claim
import GoSem.ClaimJoined
import GoSem.ClaimMapViews
import Derived.JoinedTies
import Derived.KernelRfl
namespace Go.Proofs.Ytockojajbnnbpaa
/- THE CELL 'sum', in the pinned program and in every row, IS THE sha256 OF THE DUMP (.gsa) THAT YtockojajbnnbpaaProg.lean LOADS. Nothing in Lean hashes anything: it is a label: what it is worth is what the hold of that sum in a sandbox is worth. -/
noncomputable def Try.pinned : Pinned := { name := "ytockojajbnnbpaa", sum := "2df753e53f5b6ea594da3bd10b4092a2724234e8c7828aa78a17d1413540abfe", checked := Try.checked }
namespace Rows
def none {H : Type} : Left H := { results := [], args := [] }

/-- 'bulwarklaw09.ElfCut': WHATEVER THE INPUT: true; the input reads as it did. -/
def elfCutSpec : ChangeSpec := { name := "elfCut", fn := fun _ => fun
  | [d1, d2] => { results := [.lit (.bool true)], args := [d1, d2] }
  | _ => none }
def elfCutRow : OpenClaim := { program := "ytockojajbnnbpaa", sum := "2df753e53f5b6ea594da3bd10b4092a2724234e8c7828aa78a17d1413540abfe", func := "bulwark/bulwarklaw09.ElfCut", spec := "elfCut", inPlace := ["internal/bytealg.IndexByte"], unfollowed := true, recurses := true, apart := false }
def ElfCutSaid : Prop := elfCutRow.holds Try.pinned (OpenSpec.ofChange elfCutSpec)

/-- ITS FALSE NEIGHBOUR: 'it returns false'. Refute it at one input. -/
def elfCutWrong : ChangeSpec := { name := "elfCut", fn := fun _ => fun
  | [d1, d2] => { results := [.lit (.bool false)], args := [d1, d2] }
  | _ => none }
def ElfCutWrongFalsely : Prop := elfCutRow.holds Try.pinned (OpenSpec.ofChange elfCutWrong)

/-- 'bulwarklaw09.ElfFresh': WHATEVER THE INPUT: true; the input reads as it did. -/
def elfFreshSpec : ChangeSpec := { name := "elfFresh", fn := fun _ => fun
  | [d] => { results := [.lit (.bool true)], args := [d] }
  | _ => none }
def elfFreshRow : OpenClaim := { program := "ytockojajbnnbpaa", sum := "2df753e53f5b6ea594da3bd10b4092a2724234e8c7828aa78a17d1413540abfe", func := "bulwark/bulwarklaw09.ElfFresh", spec := "elfFresh", inPlace := ["internal/bytealg.IndexByte"], unfollowed := true, recurses := true, apart := false }
def ElfFreshSaid : Prop := elfFreshRow.holds Try.pinned (OpenSpec.ofChange elfFreshSpec)

/-- ITS FALSE NEIGHBOUR: 'it returns false'. Refute it at one input. -/
def elfFreshWrong : ChangeSpec := { name := "elfFresh", fn := fun _ => fun
  | [d] => { results := [.lit (.bool false)], args := [d] }
  | _ => none }
def ElfFreshWrongFalsely : Prop := elfFreshRow.holds Try.pinned (OpenSpec.ofChange elfFreshWrong)

/-- 'bulwarklaw09.ElfPuts': WHATEVER THE INPUT: true; the input reads as it did. -/
def elfPutsSpec : ChangeSpec := { name := "elfPuts", fn := fun _ => fun
  | [d1, d2] => { results := [.lit (.bool true)], args := [d1, d2] }
  | _ => none }
def elfPutsRow : OpenClaim := { program := "ytockojajbnnbpaa", sum := "2df753e53f5b6ea594da3bd10b4092a2724234e8c7828aa78a17d1413540abfe", func := "bulwark/bulwarklaw09.ElfPuts", spec := "elfPuts", inPlace := ["internal/bytealg.IndexByte"], unfollowed := true, recurses := true, apart := false }
def ElfPutsSaid : Prop := elfPutsRow.holds Try.pinned (OpenSpec.ofChange elfPutsSpec)

/-- ITS FALSE NEIGHBOUR: 'it returns false'. Refute it at one input. -/
def elfPutsWrong : ChangeSpec := { name := "elfPuts", fn := fun _ => fun
  | [d1, d2] => { results := [.lit (.bool false)], args := [d1, d2] }
  | _ => none }
def ElfPutsWrongFalsely : Prop := elfPutsRow.holds Try.pinned (OpenSpec.ofChange elfPutsWrong)

/-- 'bulwarklaw09.ElfReads': WHATEVER THE INPUT: true; the input reads as it did. -/
def elfReadsSpec : ChangeSpec := { name := "elfReads", fn := fun _ => fun
  | [d] => { results := [.lit (.bool true)], args := [d] }
  | _ => none }
def elfReadsRow : OpenClaim := { program := "ytockojajbnnbpaa", sum := "2df753e53f5b6ea594da3bd10b4092a2724234e8c7828aa78a17d1413540abfe", func := "bulwark/bulwarklaw09.ElfReads", spec := "elfReads", inPlace := ["internal/bytealg.IndexByte"], unfollowed := true, recurses := true, apart := false }
def ElfReadsSaid : Prop := elfReadsRow.holds Try.pinned (OpenSpec.ofChange elfReadsSpec)

/-- ITS FALSE NEIGHBOUR: 'it returns false'. Refute it at one input. -/
def elfReadsWrong : ChangeSpec := { name := "elfReads", fn := fun _ => fun
  | [d] => { results := [.lit (.bool false)], args := [d] }
  | _ => none }
def ElfReadsWrongFalsely : Prop := elfReadsRow.holds Try.pinned (OpenSpec.ofChange elfReadsWrong)

/-- 'bulwarklaw09.ElfBack': WHATEVER THE INPUT: true; the input reads as it did. -/
def elfBackSpec : ChangeSpec := { name := "elfBack", fn := fun _ => fun
  | [d] => { results := [.lit (.bool true)], args := [d] }
  | _ => none }
def elfBackRow : OpenClaim := { program := "ytockojajbnnbpaa", sum := "2df753e53f5b6ea594da3bd10b4092a2724234e8c7828aa78a17d1413540abfe", func := "bulwark/bulwarklaw09.ElfBack", spec := "elfBack", inPlace := ["internal/bytealg.IndexByte"], unfollowed := true, recurses := true, apart := false }
def ElfBackSaid : Prop := elfBackRow.holds Try.pinned (OpenSpec.ofChange elfBackSpec)

/-- ITS FALSE NEIGHBOUR: 'it returns false'. Refute it at one input. -/
def elfBackWrong : ChangeSpec := { name := "elfBack", fn := fun _ => fun
  | [d] => { results := [.lit (.bool false)], args := [d] }
  | _ => none }
def ElfBackWrongFalsely : Prop := elfBackRow.holds Try.pinned (OpenSpec.ofChange elfBackWrong)

/-- 'bulwarklaw09.ElfOnce': WHATEVER THE INPUT: true; the input reads as it did. -/
def elfOnceSpec : ChangeSpec := { name := "elfOnce", fn := fun _ => fun
  | [d] => { results := [.lit (.bool true)], args := [d] }
  | _ => none }
def elfOnceRow : OpenClaim := { program := "ytockojajbnnbpaa", sum := "2df753e53f5b6ea594da3bd10b4092a2724234e8c7828aa78a17d1413540abfe", func := "bulwark/bulwarklaw09.ElfOnce", spec := "elfOnce", inPlace := ["internal/bytealg.IndexByte"], unfollowed := true, recurses := true, apart := false }
def ElfOnceSaid : Prop := elfOnceRow.holds Try.pinned (OpenSpec.ofChange elfOnceSpec)

/-- ITS FALSE NEIGHBOUR: 'it returns false'. Refute it at one input. -/
def elfOnceWrong : ChangeSpec := { name := "elfOnce", fn := fun _ => fun
  | [d] => { results := [.lit (.bool false)], args := [d] }
  | _ => none }
def ElfOnceWrongFalsely : Prop := elfOnceRow.holds Try.pinned (OpenSpec.ofChange elfOnceWrong)

/- THE SECOND FORM. 'bulk': how many values and letters a reading holds, each counted each time it is reached (what is shared counts as often as it is met; a slice's spare places count too). A statement '..UptoSaid' is the law's where the arguments, and the package variables that the reading takes, are together of bulk at most 1048576: NARROWER than '..Said'. Prove '..Said' where nothing that the law and all that it calls make is longer than what came in: it says more and counts as full. Else prove '..UptoSaid'. A law counts once. -/
mutual
def uptoBulk {H : Type} : DataW H → Nat
  | .lit (.string bytes) => bytes.length + 1
  | .lit _ => 1
  | .nil => 1
  | .ptr d => uptoBulk d + 1
  | .slice elems spare => uptoBulkAll elems + uptoBulkAll spare + 1
  | .agg parts => uptoBulkAll parts + 1
  | .iface _ d => uptoBulk d + 1
  | .map entries => uptoBulkEntries entries + 1
  | .held _ => 1
def uptoBulkAll {H : Type} : List (DataW H) → Nat
  | [] => 0
  | d :: r => uptoBulk d + uptoBulkAll r
def uptoBulkEntries {H : Type} : List (Lit × DataW H) → Nat
  | [] => 0
  | x :: r => uptoBulkEntry x + uptoBulkEntries r
def uptoBulkEntry {H : Type} : Lit × DataW H → Nat
  | (.string bytes, d) => bytes.length + uptoBulk d + 1
  | (_, d) => uptoBulk d + 1
 end
def uptoSmall : (H : Type) → List (DataW H) → Bool := fun _ ds => decide (uptoBulkAll ds ≤ 1048576)
def OpenSpec.upto (s : _root_.Go.ChangeSpec) : _root_.Go.OpenSpec := { _root_.Go.OpenSpec.ofChange s with cond := some uptoSmall }

/-- 'bulwarklaw09.ElfCut', WHERE WHAT IT READS IS OF BULK AT MOST 1048576: true; the input reads as it did. -/
def elfCutUptoRow : OpenClaim := { program := "ytockojajbnnbpaa", sum := "2df753e53f5b6ea594da3bd10b4092a2724234e8c7828aa78a17d1413540abfe", func := "bulwark/bulwarklaw09.ElfCut", spec := "elfCut", inPlace := ["internal/bytealg.IndexByte"], unfollowed := true, recurses := true, apart := false, narrowed := true }
def ElfCutUptoSaid : Prop := elfCutUptoRow.holds Try.pinned (OpenSpec.upto elfCutSpec)

/-- 'bulwarklaw09.ElfFresh', WHERE WHAT IT READS IS OF BULK AT MOST 1048576: true; the input reads as it did. -/
def elfFreshUptoRow : OpenClaim := { program := "ytockojajbnnbpaa", sum := "2df753e53f5b6ea594da3bd10b4092a2724234e8c7828aa78a17d1413540abfe", func := "bulwark/bulwarklaw09.ElfFresh", spec := "elfFresh", inPlace := ["internal/bytealg.IndexByte"], unfollowed := true, recurses := true, apart := false, narrowed := true }
def ElfFreshUptoSaid : Prop := elfFreshUptoRow.holds Try.pinned (OpenSpec.upto elfFreshSpec)

/-- 'bulwarklaw09.ElfPuts', WHERE WHAT IT READS IS OF BULK AT MOST 1048576: true; the input reads as it did. -/
def elfPutsUptoRow : OpenClaim := { program := "ytockojajbnnbpaa", sum := "2df753e53f5b6ea594da3bd10b4092a2724234e8c7828aa78a17d1413540abfe", func := "bulwark/bulwarklaw09.ElfPuts", spec := "elfPuts", inPlace := ["internal/bytealg.IndexByte"], unfollowed := true, recurses := true, apart := false, narrowed := true }
def ElfPutsUptoSaid : Prop := elfPutsUptoRow.holds Try.pinned (OpenSpec.upto elfPutsSpec)

/-- 'bulwarklaw09.ElfReads', WHERE WHAT IT READS IS OF BULK AT MOST 1048576: true; the input reads as it did. -/
def elfReadsUptoRow : OpenClaim := { program := "ytockojajbnnbpaa", sum := "2df753e53f5b6ea594da3bd10b4092a2724234e8c7828aa78a17d1413540abfe", func := "bulwark/bulwarklaw09.ElfReads", spec := "elfReads", inPlace := ["internal/bytealg.IndexByte"], unfollowed := true, recurses := true, apart := false, narrowed := true }
def ElfReadsUptoSaid : Prop := elfReadsUptoRow.holds Try.pinned (OpenSpec.upto elfReadsSpec)

/-- 'bulwarklaw09.ElfBack', WHERE WHAT IT READS IS OF BULK AT MOST 1048576: true; the input reads as it did. -/
def elfBackUptoRow : OpenClaim := { program := "ytockojajbnnbpaa", sum := "2df753e53f5b6ea594da3bd10b4092a2724234e8c7828aa78a17d1413540abfe", func := "bulwark/bulwarklaw09.ElfBack", spec := "elfBack", inPlace := ["internal/bytealg.IndexByte"], unfollowed := true, recurses := true, apart := false, narrowed := true }
def ElfBackUptoSaid : Prop := elfBackUptoRow.holds Try.pinned (OpenSpec.upto elfBackSpec)

/-- 'bulwarklaw09.ElfOnce', WHERE WHAT IT READS IS OF BULK AT MOST 1048576: true; the input reads as it did. -/
def elfOnceUptoRow : OpenClaim := { program := "ytockojajbnnbpaa", sum := "2df753e53f5b6ea594da3bd10b4092a2724234e8c7828aa78a17d1413540abfe", func := "bulwark/bulwarklaw09.ElfOnce", spec := "elfOnce", inPlace := ["internal/bytealg.IndexByte"], unfollowed := true, recurses := true, apart := false, narrowed := true }
def ElfOnceUptoSaid : Prop := elfOnceUptoRow.holds Try.pinned (OpenSpec.upto elfOnceSpec)

end Rows
end Go.Proofs.Ytockojajbnnbpaa
