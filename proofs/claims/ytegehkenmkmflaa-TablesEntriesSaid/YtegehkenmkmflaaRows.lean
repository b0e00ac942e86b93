/-
  No cell of these rows narrows 'for every input' (looked for: loops, veiled, ifaces, maps, wideKeys, modest, calm, conditions, laid).
  DERIVED. THE GIVEN ROWS OF THIS SEAT. 4 by the template 'for every input the law returns true; each argument reads behind the call as it read before'; 0 by the template 'total and deterministic' (their statements: YtegehkenmkmflaaTotals.lean).
  GIVEN WITH THE SEED: the statements are not yours to turn. If you find one false, say at which input.
  Laid BY PROGRAM, IN A SANDBOX (cutbox-rows.mjs): the forced cells as the released guide's own fill.sh prints them over the translation e79cfd310f7940ea… (all of the seat's roots in one cut). By AI agents, Wed Nov 11 2026. No macro, syntax, notation, axiom, sorry.
-/
import Derived.Test.YtegehkenmkmflaaChecked
import GoSem.Claim
import GoSem.ClaimJoined
import GoSem.ClaimMapViews
import Derived.JoinedTies
import Derived.KernelRfl
namespace Go.Proofs.Ytegehkenmkmflaa
/- THE CELL 'sum', in the pinned program and in every row, IS THE sha256 OF THE DUMP (.gsa) THAT YtegehkenmkmflaaProg.lean LOADS. Nothing in Lean hashes anything: it is a label: what it is worth is what the hold of that sum in a sandbox is worth. -/
noncomputable def Try.pinned : Pinned := { name := "ytegehkenmkmflaa", sum := "e79cfd310f7940eab6a2cdcbc818e0404b71ce517ed71ffeeeac9f27dc3a96e7", checked := Try.checked }
namespace Rows
def none {H : Type} : Left H := { results := [], args := [] }

/-- 'bulwarklaw18.TablesTell': WHATEVER THE INPUT: true; the input reads as it did. -/
def tablesTellSpec : ChangeSpec := { name := "tablesTell", fn := fun _ => fun
  | [d1, d2, d3, d4, d5, d6, d7] => { results := [.lit (.bool true)], args := [d1, d2, d3, d4, d5, d6, d7] }
  | _ => none }
def tablesTellRow : OpenClaim := { program := "ytegehkenmkmflaa", sum := "e79cfd310f7940eab6a2cdcbc818e0404b71ce517ed71ffeeeac9f27dc3a96e7", func := "bulwark/bulwarklaw18.TablesTell", spec := "tablesTell", unfollowed := true, recurses := true, apart := false }
def TablesTellSaid : Prop := tablesTellRow.holds Try.pinned (OpenSpec.ofChange tablesTellSpec)

/-- ITS FALSE NEIGHBOUR: 'it returns false'. Refute it at one input. -/
def tablesTellWrong : ChangeSpec := { name := "tablesTell", fn := fun _ => fun
  | [d1, d2, d3, d4, d5, d6, d7] => { results := [.lit (.bool false)], args := [d1, d2, d3, d4, d5, d6, d7] }
  | _ => none }
def TablesTellWrongFalsely : Prop := tablesTellRow.holds Try.pinned (OpenSpec.ofChange tablesTellWrong)

/-- 'bulwarklaw18.TablesEntries': WHATEVER THE INPUT: true; the input reads as it did. -/
def tablesEntriesSpec : ChangeSpec := { name := "tablesEntries", fn := fun _ => fun
  | [d1, d2, d3, d4, d5] => { results := [.lit (.bool true)], args := [d1, d2, d3, d4, d5] }
  | _ => none }
def tablesEntriesRow : OpenClaim := { program := "ytegehkenmkmflaa", sum := "e79cfd310f7940eab6a2cdcbc818e0404b71ce517ed71ffeeeac9f27dc3a96e7", func := "bulwark/bulwarklaw18.TablesEntries", spec := "tablesEntries", unfollowed := true, recurses := true, apart := false }
def TablesEntriesSaid : Prop := tablesEntriesRow.holds Try.pinned (OpenSpec.ofChange tablesEntriesSpec)

/-- ITS FALSE NEIGHBOUR: 'it returns false'. Refute it at one input. -/
def tablesEntriesWrong : ChangeSpec := { name := "tablesEntries", fn := fun _ => fun
  | [d1, d2, d3, d4, d5] => { results := [.lit (.bool false)], args := [d1, d2, d3, d4, d5] }
  | _ => none }
def TablesEntriesWrongFalsely : Prop := tablesEntriesRow.holds Try.pinned (OpenSpec.ofChange tablesEntriesWrong)

/-- 'bulwarklaw15.PlaceRoom': WHATEVER THE INPUT: true; the input reads as it did. -/
def placeRoomSpec : ChangeSpec := { name := "placeRoom", fn := fun _ => fun
  | [d1, d2, d3] => { results := [.lit (.bool true)], args := [d1, d2, d3] }
  | _ => none }
def placeRoomRow : OpenClaim := { program := "ytegehkenmkmflaa", sum := "e79cfd310f7940eab6a2cdcbc818e0404b71ce517ed71ffeeeac9f27dc3a96e7", func := "bulwark/bulwarklaw15.PlaceRoom", spec := "placeRoom", apart := false }
def PlaceRoomSaid : Prop := placeRoomRow.holds Try.pinned (OpenSpec.ofChange placeRoomSpec)

/-- ITS FALSE NEIGHBOUR: 'it returns false'. Refute it at one input. -/
def placeRoomWrong : ChangeSpec := { name := "placeRoom", fn := fun _ => fun
  | [d1, d2, d3] => { results := [.lit (.bool false)], args := [d1, d2, d3] }
  | _ => none }
def PlaceRoomWrongFalsely : Prop := placeRoomRow.holds Try.pinned (OpenSpec.ofChange placeRoomWrong)

/-- 'bulwarklaw15.PlaceExact': WHATEVER THE INPUT: true; the input reads as it did. -/
def placeExactSpec : ChangeSpec := { name := "placeExact", fn := fun _ => fun
  | [d1, d2, d3] => { results := [.lit (.bool true)], args := [d1, d2, d3] }
  | _ => none }
def placeExactRow : OpenClaim := { program := "ytegehkenmkmflaa", sum := "e79cfd310f7940eab6a2cdcbc818e0404b71ce517ed71ffeeeac9f27dc3a96e7", func := "bulwark/bulwarklaw15.PlaceExact", spec := "placeExact", apart := false }
def PlaceExactSaid : Prop := placeExactRow.holds Try.pinned (OpenSpec.ofChange placeExactSpec)

/-- ITS FALSE NEIGHBOUR: 'it returns false'. Refute it at one input. -/
def placeExactWrong : ChangeSpec := { name := "placeExact", fn := fun _ => fun
  | [d1, d2, d3] => { results := [.lit (.bool false)], args := [d1, d2, d3] }
  | _ => none }
def PlaceExactWrongFalsely : Prop := placeExactRow.holds Try.pinned (OpenSpec.ofChange placeExactWrong)

/- THE SECOND FORM. 'bulk': how many values and letters a reading holds, each counted each time it is reached (what is shared counts as often as it is met; a slice's spare places count too). A statement '..UptoSaid' is the law's where the arguments, and the package variables that the reading takes, are together of bulk at most 1048576: NARROWER than '..Said'. Prove '..Said' where nothing that the law and all that it calls make is longer than what came in: it says more and counts as full. Else prove '..UptoSaid'. A law counts once. -/
mutual
def uptoBulk {H : Type} : DataW H → Nat
  | .lit (.string bytes) => bytes.length + 1
  | .lit _ => 1
  | .nil => 1
  | .ptr d => uptoBulk d + 1
  | .slice elems spare => uptoBulkAll elems + uptoBulkAll spare + 1
  | .agg parts => uptoBulkAll parts + 1
  | .iface _ d => uptoBulk d + 1
  | .map entries => uptoBulkEntries entries + 1
  | .held _ => 1
def uptoBulkAll {H : Type} : List (DataW H) → Nat
  | [] => 0
  | d :: r => uptoBulk d + uptoBulkAll r
def uptoBulkEntries {H : Type} : List (Lit × DataW H) → Nat
  | [] => 0
  | x :: r => uptoBulkEntry x + uptoBulkEntries r
def uptoBulkEntry {H : Type} : Lit × DataW H → Nat
  | (.string bytes, d) => bytes.length + uptoBulk d + 1
  | (_, d) => uptoBulk d + 1
 end
def uptoSmall : (H : Type) → List (DataW H) → Bool := fun _ ds => decide (uptoBulkAll ds ≤ 1048576)
def OpenSpec.upto (s : _root_.Go.ChangeSpec) : _root_.Go.OpenSpec := { _root_.Go.OpenSpec.ofChange s with cond := some uptoSmall }

/-- 'bulwarklaw18.TablesTell', WHERE WHAT IT READS IS OF BULK AT MOST 1048576: true; the input reads as it did. -/
def tablesTellUptoRow : OpenClaim := { program := "ytegehkenmkmflaa", sum := "e79cfd310f7940eab6a2cdcbc818e0404b71ce517ed71ffeeeac9f27dc3a96e7", func := "bulwark/bulwarklaw18.TablesTell", spec := "tablesTell", unfollowed := true, recurses := true, apart := false, narrowed := true }
def TablesTellUptoSaid : Prop := tablesTellUptoRow.holds Try.pinned (OpenSpec.upto tablesTellSpec)

/-- 'bulwarklaw18.TablesEntries', WHERE WHAT IT READS IS OF BULK AT MOST 1048576: true; the input reads as it did. -/
def tablesEntriesUptoRow : OpenClaim := { program := "ytegehkenmkmflaa", sum := "e79cfd310f7940eab6a2cdcbc818e0404b71ce517ed71ffeeeac9f27dc3a96e7", func := "bulwark/bulwarklaw18.TablesEntries", spec := "tablesEntries", unfollowed := true, recurses := true, apart := false, narrowed := true }
def TablesEntriesUptoSaid : Prop := tablesEntriesUptoRow.holds Try.pinned (OpenSpec.upto tablesEntriesSpec)

/-- 'bulwarklaw15.PlaceRoom', WHERE WHAT IT READS IS OF BULK AT MOST 1048576: true; the input reads as it did. -/
def placeRoomUptoRow : OpenClaim := { program := "ytegehkenmkmflaa", sum := "e79cfd310f7940eab6a2cdcbc818e0404b71ce517ed71ffeeeac9f27dc3a96e7", func := "bulwark/bulwarklaw15.PlaceRoom", spec := "placeRoom", apart := false, narrowed := true }
def PlaceRoomUptoSaid : Prop := placeRoomUptoRow.holds Try.pinned (OpenSpec.upto placeRoomSpec)

/-- 'bulwarklaw15.PlaceExact', WHERE WHAT IT READS IS OF BULK AT MOST 1048576: true; the input reads as it did. -/
def placeExactUptoRow : OpenClaim := { program := "ytegehkenmkmflaa", sum := "e79cfd310f7940eab6a2cdcbc818e0404b71ce517ed71ffeeeac9f27dc3a96e7", func := "bulwark/bulwarklaw15.PlaceExact", spec := "placeExact", apart := false, narrowed := true }
def PlaceExactUptoSaid : Prop := placeExactUptoRow.holds Try.pinned (OpenSpec.upto placeExactSpec)

end Rows
end Go.Proofs.Ytegehkenmkmflaa
