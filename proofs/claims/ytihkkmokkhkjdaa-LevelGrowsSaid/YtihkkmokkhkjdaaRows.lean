/-
  No cell of these rows narrows 'for every input' (looked for: loops, veiled, ifaces, maps, wideKeys, modest, calm, conditions, laid).
  DERIVED. THE GIVEN ROWS OF THIS SEAT. 13 by the template 'for every input the law returns true; each argument reads behind the call as it read before'; 0 by the template 'total and deterministic' (their statements: YtihkkmokkhkjdaaTotals.lean).
  GIVEN WITH THE SEED: the statements are not yours to turn. If you find one false, say at which input.
  Laid BY PROGRAM, IN A SANDBOX (cutbox-rows.mjs): the forced cells as the released guide's own fill.sh prints them over the translation e671c87399b5ca2a… (all of the seat's roots in one cut). By AI agents, Wed Nov 11 2026. No macro, syntax, notation, axiom, sorry.
-/
import Derived.Test.YtihkkmokkhkjdaaChecked
import GoSem.Claim
import GoSem.ClaimJoined
import GoSem.ClaimMapViews
import Derived.JoinedTies
import Derived.KernelRfl
namespace Go.Proofs.Ytihkkmokkhkjdaa
/- THE CELL 'sum', in the pinned program and in every row, IS THE sha256 OF THE DUMP (.gsa) THAT YtihkkmokkhkjdaaProg.lean LOADS. Nothing in Lean hashes anything: it is a label: what it is worth is what the hold of that sum in a sandbox is worth. -/
noncomputable def Try.pinned : Pinned := { name := "ytihkkmokkhkjdaa", sum := "e671c87399b5ca2a68aa3382a7ab167824e31a2c3bf3664a143d5721919c2660", checked := Try.checked }
namespace Rows
def none {H : Type} : Left H := { results := [], args := [] }

/-- 'hwtop.TopExpect': WHATEVER THE INPUT: true; the input reads as it did. -/
def topExpectSpec : ChangeSpec := { name := "topExpect", fn := fun _ => fun
  | [d1, d2] => { results := [.lit (.bool true)], args := [d1, d2] }
  | _ => none }
def topExpectRow : OpenClaim := { program := "ytihkkmokkhkjdaa", sum := "e671c87399b5ca2a68aa3382a7ab167824e31a2c3bf3664a143d5721919c2660", func := "heartwood/hwtop.TopExpect", spec := "topExpect", inPlace := ["math/bits.Add64"], unfollowed := true, recurses := true, apart := false }
def TopExpectSaid : Prop := topExpectRow.holds Try.pinned (OpenSpec.ofChange topExpectSpec)

/-- ITS FALSE NEIGHBOUR: 'it returns false'. Refute it at one input. -/
def topExpectWrong : ChangeSpec := { name := "topExpect", fn := fun _ => fun
  | [d1, d2] => { results := [.lit (.bool false)], args := [d1, d2] }
  | _ => none }
def TopExpectWrongFalsely : Prop := topExpectRow.holds Try.pinned (OpenSpec.ofChange topExpectWrong)

/-- 'hwkeep.DivShifts': WHATEVER THE INPUT: true; the input reads as it did. -/
def divShiftsSpec : ChangeSpec := { name := "divShifts", fn := fun _ => fun
  | [d1, d2] => { results := [.lit (.bool true)], args := [d1, d2] }
  | _ => none }
def divShiftsRow : OpenClaim := { program := "ytihkkmokkhkjdaa", sum := "e671c87399b5ca2a68aa3382a7ab167824e31a2c3bf3664a143d5721919c2660", func := "heartwood/hwkeep.DivShifts", spec := "divShifts", inPlace := ["math/bits.Sub64"], named := ["math/bits.divideError", "math/bits.overflowError"], apart := false }
def DivShiftsSaid : Prop := divShiftsRow.holds Try.pinned (OpenSpec.ofChange divShiftsSpec)

/-- ITS FALSE NEIGHBOUR: 'it returns false'. Refute it at one input. -/
def divShiftsWrong : ChangeSpec := { name := "divShifts", fn := fun _ => fun
  | [d1, d2] => { results := [.lit (.bool false)], args := [d1, d2] }
  | _ => none }
def DivShiftsWrongFalsely : Prop := divShiftsRow.holds Try.pinned (OpenSpec.ofChange divShiftsWrong)

/-- 'hwkeep.DivBack': WHATEVER THE INPUT: true; the input reads as it did. -/
def divBackSpec : ChangeSpec := { name := "divBack", fn := fun _ => fun
  | [d1, d2] => { results := [.lit (.bool true)], args := [d1, d2] }
  | _ => none }
def divBackRow : OpenClaim := { program := "ytihkkmokkhkjdaa", sum := "e671c87399b5ca2a68aa3382a7ab167824e31a2c3bf3664a143d5721919c2660", func := "heartwood/hwkeep.DivBack", spec := "divBack", inPlace := ["math/bits.Sub64", "math/bits.Add64"], named := ["math/bits.divideError", "math/bits.overflowError"], apart := false }
def DivBackSaid : Prop := divBackRow.holds Try.pinned (OpenSpec.ofChange divBackSpec)

/-- ITS FALSE NEIGHBOUR: 'it returns false'. Refute it at one input. -/
def divBackWrong : ChangeSpec := { name := "divBack", fn := fun _ => fun
  | [d1, d2] => { results := [.lit (.bool false)], args := [d1, d2] }
  | _ => none }
def DivBackWrongFalsely : Prop := divBackRow.holds Try.pinned (OpenSpec.ofChange divBackWrong)

/-- 'hwkeep.DivNested': WHATEVER THE INPUT: true; the input reads as it did. -/
def divNestedSpec : ChangeSpec := { name := "divNested", fn := fun _ => fun
  | [d1, d2, d3] => { results := [.lit (.bool true)], args := [d1, d2, d3] }
  | _ => none }
def divNestedRow : OpenClaim := { program := "ytihkkmokkhkjdaa", sum := "e671c87399b5ca2a68aa3382a7ab167824e31a2c3bf3664a143d5721919c2660", func := "heartwood/hwkeep.DivNested", spec := "divNested", inPlace := ["math/bits.Sub64", "math/bits.Add64"], named := ["math/bits.divideError", "math/bits.overflowError"], apart := false }
def DivNestedSaid : Prop := divNestedRow.holds Try.pinned (OpenSpec.ofChange divNestedSpec)

/-- ITS FALSE NEIGHBOUR: 'it returns false'. Refute it at one input. -/
def divNestedWrong : ChangeSpec := { name := "divNested", fn := fun _ => fun
  | [d1, d2, d3] => { results := [.lit (.bool false)], args := [d1, d2, d3] }
  | _ => none }
def DivNestedWrongFalsely : Prop := divNestedRow.holds Try.pinned (OpenSpec.ofChange divNestedWrong)

/-- 'hwkeep.LevelGrows': WHATEVER THE INPUT: true; the input reads as it did. -/
def levelGrowsSpec : ChangeSpec := { name := "levelGrows", fn := fun _ => fun
  | [d1, d2, d3, d4] => { results := [.lit (.bool true)], args := [d1, d2, d3, d4] }
  | _ => none }
def levelGrowsRow : OpenClaim := { program := "ytihkkmokkhkjdaa", sum := "e671c87399b5ca2a68aa3382a7ab167824e31a2c3bf3664a143d5721919c2660", func := "heartwood/hwkeep.LevelGrows", spec := "levelGrows", inPlace := ["math/bits.Add64"], unfollowed := true, recurses := true, apart := false }
def LevelGrowsSaid : Prop := levelGrowsRow.holds Try.pinned (OpenSpec.ofChange levelGrowsSpec)

/-- ITS FALSE NEIGHBOUR: 'it returns false'. Refute it at one input. -/
def levelGrowsWrong : ChangeSpec := { name := "levelGrows", fn := fun _ => fun
  | [d1, d2, d3, d4] => { results := [.lit (.bool false)], args := [d1, d2, d3, d4] }
  | _ => none }
def LevelGrowsWrongFalsely : Prop := levelGrowsRow.holds Try.pinned (OpenSpec.ofChange levelGrowsWrong)

/-- 'hwkeep.LevelLeast': WHATEVER THE INPUT: true; the input reads as it did. -/
def levelLeastSpec : ChangeSpec := { name := "levelLeast", fn := fun _ => fun
  | [d1, d2, d3, d4, d5] => { results := [.lit (.bool true)], args := [d1, d2, d3, d4, d5] }
  | _ => none }
def levelLeastRow : OpenClaim := { program := "ytihkkmokkhkjdaa", sum := "e671c87399b5ca2a68aa3382a7ab167824e31a2c3bf3664a143d5721919c2660", func := "heartwood/hwkeep.LevelLeast", spec := "levelLeast", inPlace := ["math/bits.Add64"], unfollowed := true, recurses := true, apart := false }
def LevelLeastSaid : Prop := levelLeastRow.holds Try.pinned (OpenSpec.ofChange levelLeastSpec)

/-- ITS FALSE NEIGHBOUR: 'it returns false'. Refute it at one input. -/
def levelLeastWrong : ChangeSpec := { name := "levelLeast", fn := fun _ => fun
  | [d1, d2, d3, d4, d5] => { results := [.lit (.bool false)], args := [d1, d2, d3, d4, d5] }
  | _ => none }
def LevelLeastWrongFalsely : Prop := levelLeastRow.holds Try.pinned (OpenSpec.ofChange levelLeastWrong)

/-- 'hwkeep.LevelMoved': WHATEVER THE INPUT: true; the input reads as it did. -/
def levelMovedSpec : ChangeSpec := { name := "levelMoved", fn := fun _ => fun
  | [d1, d2, d3, d4, d5] => { results := [.lit (.bool true)], args := [d1, d2, d3, d4, d5] }
  | _ => none }
def levelMovedRow : OpenClaim := { program := "ytihkkmokkhkjdaa", sum := "e671c87399b5ca2a68aa3382a7ab167824e31a2c3bf3664a143d5721919c2660", func := "heartwood/hwkeep.LevelMoved", spec := "levelMoved", inPlace := ["math/bits.Add64"], unfollowed := true, recurses := true, apart := false }
def LevelMovedSaid : Prop := levelMovedRow.holds Try.pinned (OpenSpec.ofChange levelMovedSpec)

/-- ITS FALSE NEIGHBOUR: 'it returns false'. Refute it at one input. -/
def levelMovedWrong : ChangeSpec := { name := "levelMoved", fn := fun _ => fun
  | [d1, d2, d3, d4, d5] => { results := [.lit (.bool false)], args := [d1, d2, d3, d4, d5] }
  | _ => none }
def LevelMovedWrongFalsely : Prop := levelMovedRow.holds Try.pinned (OpenSpec.ofChange levelMovedWrong)

/-- 'hwkeep.LevelIs': WHATEVER THE INPUT: true; the input reads as it did. -/
def levelIsSpec : ChangeSpec := { name := "levelIs", fn := fun _ => fun
  | [d1, d2, d3, d4] => { results := [.lit (.bool true)], args := [d1, d2, d3, d4] }
  | _ => none }
def levelIsRow : OpenClaim := { program := "ytihkkmokkhkjdaa", sum := "e671c87399b5ca2a68aa3382a7ab167824e31a2c3bf3664a143d5721919c2660", func := "heartwood/hwkeep.LevelIs", spec := "levelIs", inPlace := ["math/bits.Add64"], unfollowed := true, recurses := true, apart := false }
def LevelIsSaid : Prop := levelIsRow.holds Try.pinned (OpenSpec.ofChange levelIsSpec)

/-- ITS FALSE NEIGHBOUR: 'it returns false'. Refute it at one input. -/
def levelIsWrong : ChangeSpec := { name := "levelIs", fn := fun _ => fun
  | [d1, d2, d3, d4] => { results := [.lit (.bool false)], args := [d1, d2, d3, d4] }
  | _ => none }
def LevelIsWrongFalsely : Prop := levelIsRow.holds Try.pinned (OpenSpec.ofChange levelIsWrong)

/-- 'hwkeep.RootIs': WHATEVER THE INPUT: true; the input reads as it did. -/
def rootIsSpec : ChangeSpec := { name := "rootIs", fn := fun _ => fun
  | [d1, d2, d3] => { results := [.lit (.bool true)], args := [d1, d2, d3] }
  | _ => none }
def rootIsRow : OpenClaim := { program := "ytihkkmokkhkjdaa", sum := "e671c87399b5ca2a68aa3382a7ab167824e31a2c3bf3664a143d5721919c2660", func := "heartwood/hwkeep.RootIs", spec := "rootIs", inPlace := ["math/bits.Sub64", "math/bits.Add64"], named := ["math/bits.divideError", "math/bits.overflowError"], apart := false }
def RootIsSaid : Prop := rootIsRow.holds Try.pinned (OpenSpec.ofChange rootIsSpec)

/-- ITS FALSE NEIGHBOUR: 'it returns false'. Refute it at one input. -/
def rootIsWrong : ChangeSpec := { name := "rootIs", fn := fun _ => fun
  | [d1, d2, d3] => { results := [.lit (.bool false)], args := [d1, d2, d3] }
  | _ => none }
def RootIsWrongFalsely : Prop := rootIsRow.holds Try.pinned (OpenSpec.ofChange rootIsWrong)

/-- 'hwkeep.LevelCantelli': WHATEVER THE INPUT: true; the input reads as it did. -/
def levelCantelliSpec : ChangeSpec := { name := "levelCantelli", fn := fun _ => fun
  | [d1, d2, d3] => { results := [.lit (.bool true)], args := [d1, d2, d3] }
  | _ => none }
def levelCantelliRow : OpenClaim := { program := "ytihkkmokkhkjdaa", sum := "e671c87399b5ca2a68aa3382a7ab167824e31a2c3bf3664a143d5721919c2660", func := "heartwood/hwkeep.LevelCantelli", spec := "levelCantelli", inPlace := ["math/bits.Add64"], unfollowed := true, recurses := true, apart := false }
def LevelCantelliSaid : Prop := levelCantelliRow.holds Try.pinned (OpenSpec.ofChange levelCantelliSpec)

/-- ITS FALSE NEIGHBOUR: 'it returns false'. Refute it at one input. -/
def levelCantelliWrong : ChangeSpec := { name := "levelCantelli", fn := fun _ => fun
  | [d1, d2, d3] => { results := [.lit (.bool false)], args := [d1, d2, d3] }
  | _ => none }
def LevelCantelliWrongFalsely : Prop := levelCantelliRow.holds Try.pinned (OpenSpec.ofChange levelCantelliWrong)

/-- 'hwkeep.RootParts': WHATEVER THE INPUT: true; the input reads as it did. -/
def rootPartsSpec : ChangeSpec := { name := "rootParts", fn := fun _ => fun
  | [d1, d2] => { results := [.lit (.bool true)], args := [d1, d2] }
  | _ => none }
def rootPartsRow : OpenClaim := { program := "ytihkkmokkhkjdaa", sum := "e671c87399b5ca2a68aa3382a7ab167824e31a2c3bf3664a143d5721919c2660", func := "heartwood/hwkeep.RootParts", spec := "rootParts", inPlace := ["math/bits.Sub64", "math/bits.Add64"], named := ["math/bits.divideError", "math/bits.overflowError"], apart := false }
def RootPartsSaid : Prop := rootPartsRow.holds Try.pinned (OpenSpec.ofChange rootPartsSpec)

/-- ITS FALSE NEIGHBOUR: 'it returns false'. Refute it at one input. -/
def rootPartsWrong : ChangeSpec := { name := "rootParts", fn := fun _ => fun
  | [d1, d2] => { results := [.lit (.bool false)], args := [d1, d2] }
  | _ => none }
def RootPartsWrongFalsely : Prop := rootPartsRow.holds Try.pinned (OpenSpec.ofChange rootPartsWrong)

/-- 'hwkeep.LevelWhen': WHATEVER THE INPUT: true; the input reads as it did. -/
def levelWhenSpec : ChangeSpec := { name := "levelWhen", fn := fun _ => fun
  | [d1, d2, d3, d4, d5] => { results := [.lit (.bool true)], args := [d1, d2, d3, d4, d5] }
  | _ => none }
def levelWhenRow : OpenClaim := { program := "ytihkkmokkhkjdaa", sum := "e671c87399b5ca2a68aa3382a7ab167824e31a2c3bf3664a143d5721919c2660", func := "heartwood/hwkeep.LevelWhen", spec := "levelWhen", inPlace := ["math/bits.Add64"], unfollowed := true, recurses := true, apart := false }
def LevelWhenSaid : Prop := levelWhenRow.holds Try.pinned (OpenSpec.ofChange levelWhenSpec)

/-- ITS FALSE NEIGHBOUR: 'it returns false'. Refute it at one input. -/
def levelWhenWrong : ChangeSpec := { name := "levelWhen", fn := fun _ => fun
  | [d1, d2, d3, d4, d5] => { results := [.lit (.bool false)], args := [d1, d2, d3, d4, d5] }
  | _ => none }
def LevelWhenWrongFalsely : Prop := levelWhenRow.holds Try.pinned (OpenSpec.ofChange levelWhenWrong)

/-- 'hwkeep.LevelSame': WHATEVER THE INPUT: true; the input reads as it did. -/
def levelSameSpec : ChangeSpec := { name := "levelSame", fn := fun _ => fun
  | [d1, d2, d3, d4] => { results := [.lit (.bool true)], args := [d1, d2, d3, d4] }
  | _ => none }
def levelSameRow : OpenClaim := { program := "ytihkkmokkhkjdaa", sum := "e671c87399b5ca2a68aa3382a7ab167824e31a2c3bf3664a143d5721919c2660", func := "heartwood/hwkeep.LevelSame", spec := "levelSame", inPlace := ["math/bits.Add64"], unfollowed := true, recurses := true, apart := false }
def LevelSameSaid : Prop := levelSameRow.holds Try.pinned (OpenSpec.ofChange levelSameSpec)

/-- ITS FALSE NEIGHBOUR: 'it returns false'. Refute it at one input. -/
def levelSameWrong : ChangeSpec := { name := "levelSame", fn := fun _ => fun
  | [d1, d2, d3, d4] => { results := [.lit (.bool false)], args := [d1, d2, d3, d4] }
  | _ => none }
def LevelSameWrongFalsely : Prop := levelSameRow.holds Try.pinned (OpenSpec.ofChange levelSameWrong)

/- THE SECOND FORM. 'bulk': how many values and letters a reading holds, each counted each time it is reached (what is shared counts as often as it is met; a slice's spare places count too). A statement '..UptoSaid' is the law's where the arguments, and the package variables that the reading takes, are together of bulk at most 1048576: NARROWER than '..Said'. Prove '..Said' where nothing that the law and all that it calls make is longer than what came in: it says more and counts as full. Else prove '..UptoSaid'. A law counts once. -/
mutual
def uptoBulk {H : Type} : DataW H → Nat
  | .lit (.string bytes) => bytes.length + 1
  | .lit _ => 1
  | .nil => 1
  | .ptr d => uptoBulk d + 1
  | .slice elems spare => uptoBulkAll elems + uptoBulkAll spare + 1
  | .agg parts => uptoBulkAll parts + 1
  | .iface _ d => uptoBulk d + 1
  | .map entries => uptoBulkEntries entries + 1
  | .held _ => 1
def uptoBulkAll {H : Type} : List (DataW H) → Nat
  | [] => 0
  | d :: r => uptoBulk d + uptoBulkAll r
def uptoBulkEntries {H : Type} : List (Lit × DataW H) → Nat
  | [] => 0
  | x :: r => uptoBulkEntry x + uptoBulkEntries r
def uptoBulkEntry {H : Type} : Lit × DataW H → Nat
  | (.string bytes, d) => bytes.length + uptoBulk d + 1
  | (_, d) => uptoBulk d + 1
 end
def uptoSmall : (H : Type) → List (DataW H) → Bool := fun _ ds => decide (uptoBulkAll ds ≤ 1048576)
def OpenSpec.upto (s : _root_.Go.ChangeSpec) : _root_.Go.OpenSpec := { _root_.Go.OpenSpec.ofChange s with cond := some uptoSmall }

/-- 'hwtop.TopExpect', WHERE WHAT IT READS IS OF BULK AT MOST 1048576: true; the input reads as it did. -/
def topExpectUptoRow : OpenClaim := { program := "ytihkkmokkhkjdaa", sum := "e671c87399b5ca2a68aa3382a7ab167824e31a2c3bf3664a143d5721919c2660", func := "heartwood/hwtop.TopExpect", spec := "topExpect", inPlace := ["math/bits.Add64"], unfollowed := true, recurses := true, apart := false, narrowed := true }
def TopExpectUptoSaid : Prop := topExpectUptoRow.holds Try.pinned (OpenSpec.upto topExpectSpec)

/-- 'hwkeep.DivShifts', WHERE WHAT IT READS IS OF BULK AT MOST 1048576: true; the input reads as it did. -/
def divShiftsUptoRow : OpenClaim := { program := "ytihkkmokkhkjdaa", sum := "e671c87399b5ca2a68aa3382a7ab167824e31a2c3bf3664a143d5721919c2660", func := "heartwood/hwkeep.DivShifts", spec := "divShifts", inPlace := ["math/bits.Sub64"], named := ["math/bits.divideError", "math/bits.overflowError"], apart := false, narrowed := true }
def DivShiftsUptoSaid : Prop := divShiftsUptoRow.holds Try.pinned (OpenSpec.upto divShiftsSpec)

/-- 'hwkeep.DivBack', WHERE WHAT IT READS IS OF BULK AT MOST 1048576: true; the input reads as it did. -/
def divBackUptoRow : OpenClaim := { program := "ytihkkmokkhkjdaa", sum := "e671c87399b5ca2a68aa3382a7ab167824e31a2c3bf3664a143d5721919c2660", func := "heartwood/hwkeep.DivBack", spec := "divBack", inPlace := ["math/bits.Sub64", "math/bits.Add64"], named := ["math/bits.divideError", "math/bits.overflowError"], apart := false, narrowed := true }
def DivBackUptoSaid : Prop := divBackUptoRow.holds Try.pinned (OpenSpec.upto divBackSpec)

/-- 'hwkeep.DivNested', WHERE WHAT IT READS IS OF BULK AT MOST 1048576: true; the input reads as it did. -/
def divNestedUptoRow : OpenClaim := { program := "ytihkkmokkhkjdaa", sum := "e671c87399b5ca2a68aa3382a7ab167824e31a2c3bf3664a143d5721919c2660", func := "heartwood/hwkeep.DivNested", spec := "divNested", inPlace := ["math/bits.Sub64", "math/bits.Add64"], named := ["math/bits.divideError", "math/bits.overflowError"], apart := false, narrowed := true }
def DivNestedUptoSaid : Prop := divNestedUptoRow.holds Try.pinned (OpenSpec.upto divNestedSpec)

/-- 'hwkeep.LevelGrows', WHERE WHAT IT READS IS OF BULK AT MOST 1048576: true; the input reads as it did. -/
def levelGrowsUptoRow : OpenClaim := { program := "ytihkkmokkhkjdaa", sum := "e671c87399b5ca2a68aa3382a7ab167824e31a2c3bf3664a143d5721919c2660", func := "heartwood/hwkeep.LevelGrows", spec := "levelGrows", inPlace := ["math/bits.Add64"], unfollowed := true, recurses := true, apart := false, narrowed := true }
def LevelGrowsUptoSaid : Prop := levelGrowsUptoRow.holds Try.pinned (OpenSpec.upto levelGrowsSpec)

/-- 'hwkeep.LevelLeast', WHERE WHAT IT READS IS OF BULK AT MOST 1048576: true; the input reads as it did. -/
def levelLeastUptoRow : OpenClaim := { program := "ytihkkmokkhkjdaa", sum := "e671c87399b5ca2a68aa3382a7ab167824e31a2c3bf3664a143d5721919c2660", func := "heartwood/hwkeep.LevelLeast", spec := "levelLeast", inPlace := ["math/bits.Add64"], unfollowed := true, recurses := true, apart := false, narrowed := true }
def LevelLeastUptoSaid : Prop := levelLeastUptoRow.holds Try.pinned (OpenSpec.upto levelLeastSpec)

/-- 'hwkeep.LevelMoved', WHERE WHAT IT READS IS OF BULK AT MOST 1048576: true; the input reads as it did. -/
def levelMovedUptoRow : OpenClaim := { program := "ytihkkmokkhkjdaa", sum := "e671c87399b5ca2a68aa3382a7ab167824e31a2c3bf3664a143d5721919c2660", func := "heartwood/hwkeep.LevelMoved", spec := "levelMoved", inPlace := ["math/bits.Add64"], unfollowed := true, recurses := true, apart := false, narrowed := true }
def LevelMovedUptoSaid : Prop := levelMovedUptoRow.holds Try.pinned (OpenSpec.upto levelMovedSpec)

/-- 'hwkeep.LevelIs', WHERE WHAT IT READS IS OF BULK AT MOST 1048576: true; the input reads as it did. -/
def levelIsUptoRow : OpenClaim := { program := "ytihkkmokkhkjdaa", sum := "e671c87399b5ca2a68aa3382a7ab167824e31a2c3bf3664a143d5721919c2660", func := "heartwood/hwkeep.LevelIs", spec := "levelIs", inPlace := ["math/bits.Add64"], unfollowed := true, recurses := true, apart := false, narrowed := true }
def LevelIsUptoSaid : Prop := levelIsUptoRow.holds Try.pinned (OpenSpec.upto levelIsSpec)

/-- 'hwkeep.RootIs', WHERE WHAT IT READS IS OF BULK AT MOST 1048576: true; the input reads as it did. -/
def rootIsUptoRow : OpenClaim := { program := "ytihkkmokkhkjdaa", sum := "e671c87399b5ca2a68aa3382a7ab167824e31a2c3bf3664a143d5721919c2660", func := "heartwood/hwkeep.RootIs", spec := "rootIs", inPlace := ["math/bits.Sub64", "math/bits.Add64"], named := ["math/bits.divideError", "math/bits.overflowError"], apart := false, narrowed := true }
def RootIsUptoSaid : Prop := rootIsUptoRow.holds Try.pinned (OpenSpec.upto rootIsSpec)

/-- 'hwkeep.LevelCantelli', WHERE WHAT IT READS IS OF BULK AT MOST 1048576: true; the input reads as it did. -/
def levelCantelliUptoRow : OpenClaim := { program := "ytihkkmokkhkjdaa", sum := "e671c87399b5ca2a68aa3382a7ab167824e31a2c3bf3664a143d5721919c2660", func := "heartwood/hwkeep.LevelCantelli", spec := "levelCantelli", inPlace := ["math/bits.Add64"], unfollowed := true, recurses := true, apart := false, narrowed := true }
def LevelCantelliUptoSaid : Prop := levelCantelliUptoRow.holds Try.pinned (OpenSpec.upto levelCantelliSpec)

/-- 'hwkeep.RootParts', WHERE WHAT IT READS IS OF BULK AT MOST 1048576: true; the input reads as it did. -/
def rootPartsUptoRow : OpenClaim := { program := "ytihkkmokkhkjdaa", sum := "e671c87399b5ca2a68aa3382a7ab167824e31a2c3bf3664a143d5721919c2660", func := "heartwood/hwkeep.RootParts", spec := "rootParts", inPlace := ["math/bits.Sub64", "math/bits.Add64"], named := ["math/bits.divideError", "math/bits.overflowError"], apart := false, narrowed := true }
def RootPartsUptoSaid : Prop := rootPartsUptoRow.holds Try.pinned (OpenSpec.upto rootPartsSpec)

/-- 'hwkeep.LevelWhen', WHERE WHAT IT READS IS OF BULK AT MOST 1048576: true; the input reads as it did. -/
def levelWhenUptoRow : OpenClaim := { program := "ytihkkmokkhkjdaa", sum := "e671c87399b5ca2a68aa3382a7ab167824e31a2c3bf3664a143d5721919c2660", func := "heartwood/hwkeep.LevelWhen", spec := "levelWhen", inPlace := ["math/bits.Add64"], unfollowed := true, recurses := true, apart := false, narrowed := true }
def LevelWhenUptoSaid : Prop := levelWhenUptoRow.holds Try.pinned (OpenSpec.upto levelWhenSpec)

/-- 'hwkeep.LevelSame', WHERE WHAT IT READS IS OF BULK AT MOST 1048576: true; the input reads as it did. -/
def levelSameUptoRow : OpenClaim := { program := "ytihkkmokkhkjdaa", sum := "e671c87399b5ca2a68aa3382a7ab167824e31a2c3bf3664a143d5721919c2660", func := "heartwood/hwkeep.LevelSame", spec := "levelSame", inPlace := ["math/bits.Add64"], unfollowed := true, recurses := true, apart := false, narrowed := true }
def LevelSameUptoSaid : Prop := levelSameUptoRow.holds Try.pinned (OpenSpec.upto levelSameSpec)

end Rows
end Go.Proofs.Ytihkkmokkhkjdaa
