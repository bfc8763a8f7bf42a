/-
  No cell of these rows narrows 'for every input' (looked for: loops, veiled, ifaces, maps, wideKeys, modest, calm, conditions, laid).
  DERIVED. THE GIVEN ROWS OF THIS SEAT. 12 by the template 'for every input the law returns true; each argument reads behind the call as it read before'; 0 by the template 'total and deterministic' (their statements: YtlnagfmaiabhaaaTotals.lean).
  GIVEN WITH THE SEED: the statements are not yours to turn. If you find one false, say at which input.
  Laid BY PROGRAM, IN A SANDBOX (cutbox-rows.mjs): the forced cells as the released guide's own fill.sh prints them over the translation a06f73141bec1668… (all of the seat's roots in one cut). By AI agents, Wed Nov 11 2026. No macro, syntax, notation, axiom, sorry.
-/
import Derived.Test.YtlnagfmaiabhaaaChecked
import GoSem.Claim
import GoSem.ClaimJoined
import GoSem.ClaimMapViews
import Derived.JoinedTies
import Derived.KernelRfl
namespace Go.Proofs.Ytlnagfmaiabhaaa
/- THE CELL 'sum', in the pinned program and in every row, IS THE sha256 OF THE DUMP (.gsa) THAT YtlnagfmaiabhaaaProg.lean LOADS. Nothing in Lean hashes anything: it is a label: what it is worth is what the hold of that sum in a sandbox is worth. -/
noncomputable def Try.pinned : Pinned := { name := "ytlnagfmaiabhaaa", sum := "a06f73141bec1668b25429faa14ab76f859bc26375bba74106a00f21fa4d4dbe", checked := Try.checked }
namespace Rows
def none {H : Type} : Left H := { results := [], args := [] }

/-- 'hwkeep.WideOrder': WHATEVER THE INPUT: true; the input reads as it did. -/
def wideOrderSpec : ChangeSpec := { name := "wideOrder", fn := fun _ => fun
  | [d1, d2, d3] => { results := [.lit (.bool true)], args := [d1, d2, d3] }
  | _ => none }
def wideOrderRow : OpenClaim := { program := "ytlnagfmaiabhaaa", sum := "a06f73141bec1668b25429faa14ab76f859bc26375bba74106a00f21fa4d4dbe", func := "heartwood/hwkeep.WideOrder", spec := "wideOrder", inPlace := ["math/bits.Sub64", "math/bits.Add64"], apart := false }
def WideOrderSaid : Prop := wideOrderRow.holds Try.pinned (OpenSpec.ofChange wideOrderSpec)

/-- ITS FALSE NEIGHBOUR: 'it returns false'. Refute it at one input. -/
def wideOrderWrong : ChangeSpec := { name := "wideOrder", fn := fun _ => fun
  | [d1, d2, d3] => { results := [.lit (.bool false)], args := [d1, d2, d3] }
  | _ => none }
def WideOrderWrongFalsely : Prop := wideOrderRow.holds Try.pinned (OpenSpec.ofChange wideOrderWrong)

/-- 'hwtop.TopRoot': WHATEVER THE INPUT: true; the input reads as it did. -/
def topRootSpec : ChangeSpec := { name := "topRoot", fn := fun _ => fun
  | [d] => { results := [.lit (.bool true)], args := [d] }
  | _ => none }
def topRootRow : OpenClaim := { program := "ytlnagfmaiabhaaa", sum := "a06f73141bec1668b25429faa14ab76f859bc26375bba74106a00f21fa4d4dbe", func := "heartwood/hwtop.TopRoot", spec := "topRoot", inPlace := ["math/bits.Add64", "math/bits.Sub64"], unfollowed := true, recurses := true, named := ["math/bits.divideError", "math/bits.overflowError"], apart := false }
def TopRootSaid : Prop := topRootRow.holds Try.pinned (OpenSpec.ofChange topRootSpec)

/-- ITS FALSE NEIGHBOUR: 'it returns false'. Refute it at one input. -/
def topRootWrong : ChangeSpec := { name := "topRoot", fn := fun _ => fun
  | [d] => { results := [.lit (.bool false)], args := [d] }
  | _ => none }
def TopRootWrongFalsely : Prop := topRootRow.holds Try.pinned (OpenSpec.ofChange topRootWrong)

/-- 'hwtop.TopExpect': WHATEVER THE INPUT: true; the input reads as it did. -/
def topExpectSpec : ChangeSpec := { name := "topExpect", fn := fun _ => fun
  | [d1, d2] => { results := [.lit (.bool true)], args := [d1, d2] }
  | _ => none }
def topExpectRow : OpenClaim := { program := "ytlnagfmaiabhaaa", sum := "a06f73141bec1668b25429faa14ab76f859bc26375bba74106a00f21fa4d4dbe", func := "heartwood/hwtop.TopExpect", spec := "topExpect", inPlace := ["math/bits.Add64"], unfollowed := true, recurses := true, apart := false }
def TopExpectSaid : Prop := topExpectRow.holds Try.pinned (OpenSpec.ofChange topExpectSpec)

/-- ITS FALSE NEIGHBOUR: 'it returns false'. Refute it at one input. -/
def topExpectWrong : ChangeSpec := { name := "topExpect", fn := fun _ => fun
  | [d1, d2] => { results := [.lit (.bool false)], args := [d1, d2] }
  | _ => none }
def TopExpectWrongFalsely : Prop := topExpectRow.holds Try.pinned (OpenSpec.ofChange topExpectWrong)

/-- 'hwkeep.HistGrows': WHATEVER THE INPUT: true; the input reads as it did. -/
def histGrowsSpec : ChangeSpec := { name := "histGrows", fn := fun _ => fun
  | [d1, d2, d3, d4] => { results := [.lit (.bool true)], args := [d1, d2, d3, d4] }
  | _ => none }
def histGrowsRow : OpenClaim := { program := "ytlnagfmaiabhaaa", sum := "a06f73141bec1668b25429faa14ab76f859bc26375bba74106a00f21fa4d4dbe", func := "heartwood/hwkeep.HistGrows", spec := "histGrows", apart := false }
def HistGrowsSaid : Prop := histGrowsRow.holds Try.pinned (OpenSpec.ofChange histGrowsSpec)

/-- ITS FALSE NEIGHBOUR: 'it returns false'. Refute it at one input. -/
def histGrowsWrong : ChangeSpec := { name := "histGrows", fn := fun _ => fun
  | [d1, d2, d3, d4] => { results := [.lit (.bool false)], args := [d1, d2, d3, d4] }
  | _ => none }
def HistGrowsWrongFalsely : Prop := histGrowsRow.holds Try.pinned (OpenSpec.ofChange histGrowsWrong)

/-- 'hwkeep.WinSlides': WHATEVER THE INPUT: true; the input reads as it did. -/
def winSlidesSpec : ChangeSpec := { name := "winSlides", fn := fun _ => fun
  | [d1, d2] => { results := [.lit (.bool true)], args := [d1, d2] }
  | _ => none }
def winSlidesRow : OpenClaim := { program := "ytlnagfmaiabhaaa", sum := "a06f73141bec1668b25429faa14ab76f859bc26375bba74106a00f21fa4d4dbe", func := "heartwood/hwkeep.WinSlides", spec := "winSlides", unfollowed := true, recurses := true, apart := false }
def WinSlidesSaid : Prop := winSlidesRow.holds Try.pinned (OpenSpec.ofChange winSlidesSpec)

/-- ITS FALSE NEIGHBOUR: 'it returns false'. Refute it at one input. -/
def winSlidesWrong : ChangeSpec := { name := "winSlides", fn := fun _ => fun
  | [d1, d2] => { results := [.lit (.bool false)], args := [d1, d2] }
  | _ => none }
def WinSlidesWrongFalsely : Prop := winSlidesRow.holds Try.pinned (OpenSpec.ofChange winSlidesWrong)

/-- 'hwkeep.StatJoins': WHATEVER THE INPUT: true; the input reads as it did. -/
def statJoinsSpec : ChangeSpec := { name := "statJoins", fn := fun _ => fun
  | [d1, d2, d3] => { results := [.lit (.bool true)], args := [d1, d2, d3] }
  | _ => none }
def statJoinsRow : OpenClaim := { program := "ytlnagfmaiabhaaa", sum := "a06f73141bec1668b25429faa14ab76f859bc26375bba74106a00f21fa4d4dbe", func := "heartwood/hwkeep.StatJoins", spec := "statJoins", unfollowed := true, recurses := true, apart := false }
def StatJoinsSaid : Prop := statJoinsRow.holds Try.pinned (OpenSpec.ofChange statJoinsSpec)

/-- ITS FALSE NEIGHBOUR: 'it returns false'. Refute it at one input. -/
def statJoinsWrong : ChangeSpec := { name := "statJoins", fn := fun _ => fun
  | [d1, d2, d3] => { results := [.lit (.bool false)], args := [d1, d2, d3] }
  | _ => none }
def StatJoinsWrongFalsely : Prop := statJoinsRow.holds Try.pinned (OpenSpec.ofChange statJoinsWrong)

/-- 'hwkeep.LevelLeast': WHATEVER THE INPUT: true; the input reads as it did. -/
def levelLeastSpec : ChangeSpec := { name := "levelLeast", fn := fun _ => fun
  | [d1, d2, d3, d4, d5] => { results := [.lit (.bool true)], args := [d1, d2, d3, d4, d5] }
  | _ => none }
def levelLeastRow : OpenClaim := { program := "ytlnagfmaiabhaaa", sum := "a06f73141bec1668b25429faa14ab76f859bc26375bba74106a00f21fa4d4dbe", func := "heartwood/hwkeep.LevelLeast", spec := "levelLeast", inPlace := ["math/bits.Add64"], unfollowed := true, recurses := true, apart := false }
def LevelLeastSaid : Prop := levelLeastRow.holds Try.pinned (OpenSpec.ofChange levelLeastSpec)

/-- ITS FALSE NEIGHBOUR: 'it returns false'. Refute it at one input. -/
def levelLeastWrong : ChangeSpec := { name := "levelLeast", fn := fun _ => fun
  | [d1, d2, d3, d4, d5] => { results := [.lit (.bool false)], args := [d1, d2, d3, d4, d5] }
  | _ => none }
def LevelLeastWrongFalsely : Prop := levelLeastRow.holds Try.pinned (OpenSpec.ofChange levelLeastWrong)

/-- 'hwkeep.LevelMoved': WHATEVER THE INPUT: true; the input reads as it did. -/
def levelMovedSpec : ChangeSpec := { name := "levelMoved", fn := fun _ => fun
  | [d1, d2, d3, d4, d5] => { results := [.lit (.bool true)], args := [d1, d2, d3, d4, d5] }
  | _ => none }
def levelMovedRow : OpenClaim := { program := "ytlnagfmaiabhaaa", sum := "a06f73141bec1668b25429faa14ab76f859bc26375bba74106a00f21fa4d4dbe", func := "heartwood/hwkeep.LevelMoved", spec := "levelMoved", inPlace := ["math/bits.Add64"], unfollowed := true, recurses := true, apart := false }
def LevelMovedSaid : Prop := levelMovedRow.holds Try.pinned (OpenSpec.ofChange levelMovedSpec)

/-- ITS FALSE NEIGHBOUR: 'it returns false'. Refute it at one input. -/
def levelMovedWrong : ChangeSpec := { name := "levelMoved", fn := fun _ => fun
  | [d1, d2, d3, d4, d5] => { results := [.lit (.bool false)], args := [d1, d2, d3, d4, d5] }
  | _ => none }
def LevelMovedWrongFalsely : Prop := levelMovedRow.holds Try.pinned (OpenSpec.ofChange levelMovedWrong)

/-- 'hwkeep.DecLong': WHATEVER THE INPUT: true; the input reads as it did. -/
def decLongSpec : ChangeSpec := { name := "decLong", fn := fun _ => fun
  | [d] => { results := [.lit (.bool true)], args := [d] }
  | _ => none }
def decLongRow : OpenClaim := { program := "ytlnagfmaiabhaaa", sum := "a06f73141bec1668b25429faa14ab76f859bc26375bba74106a00f21fa4d4dbe", func := "heartwood/hwkeep.DecLong", spec := "decLong", inPlace := ["math/bits.Sub64", "math/bits.Add64"], named := ["math/bits.divideError", "math/bits.overflowError"], apart := false }
def DecLongSaid : Prop := decLongRow.holds Try.pinned (OpenSpec.ofChange decLongSpec)

/-- ITS FALSE NEIGHBOUR: 'it returns false'. Refute it at one input. -/
def decLongWrong : ChangeSpec := { name := "decLong", fn := fun _ => fun
  | [d] => { results := [.lit (.bool false)], args := [d] }
  | _ => none }
def DecLongWrongFalsely : Prop := decLongRow.holds Try.pinned (OpenSpec.ofChange decLongWrong)

/-- 'hwkeep.DecBack': WHATEVER THE INPUT: true; the input reads as it did. -/
def decBackSpec : ChangeSpec := { name := "decBack", fn := fun _ => fun
  | [d1, d2, d3] => { results := [.lit (.bool true)], args := [d1, d2, d3] }
  | _ => none }
def decBackRow : OpenClaim := { program := "ytlnagfmaiabhaaa", sum := "a06f73141bec1668b25429faa14ab76f859bc26375bba74106a00f21fa4d4dbe", func := "heartwood/hwkeep.DecBack", spec := "decBack", inPlace := ["math/bits.Sub64", "math/bits.Add64"], named := ["math/bits.divideError", "math/bits.overflowError"], apart := false }
def DecBackSaid : Prop := decBackRow.holds Try.pinned (OpenSpec.ofChange decBackSpec)

/-- ITS FALSE NEIGHBOUR: 'it returns false'. Refute it at one input. -/
def decBackWrong : ChangeSpec := { name := "decBack", fn := fun _ => fun
  | [d1, d2, d3] => { results := [.lit (.bool false)], args := [d1, d2, d3] }
  | _ => none }
def DecBackWrongFalsely : Prop := decBackRow.holds Try.pinned (OpenSpec.ofChange decBackWrong)

/-- 'hwkeep.HistCounts': WHATEVER THE INPUT: true; the input reads as it did. -/
def histCountsSpec : ChangeSpec := { name := "histCounts", fn := fun _ => fun
  | [d1, d2, d3, d4, d5] => { results := [.lit (.bool true)], args := [d1, d2, d3, d4, d5] }
  | _ => none }
def histCountsRow : OpenClaim := { program := "ytlnagfmaiabhaaa", sum := "a06f73141bec1668b25429faa14ab76f859bc26375bba74106a00f21fa4d4dbe", func := "heartwood/hwkeep.HistCounts", spec := "histCounts", unfollowed := true, recurses := true, apart := false }
def HistCountsSaid : Prop := histCountsRow.holds Try.pinned (OpenSpec.ofChange histCountsSpec)

/-- ITS FALSE NEIGHBOUR: 'it returns false'. Refute it at one input. -/
def histCountsWrong : ChangeSpec := { name := "histCounts", fn := fun _ => fun
  | [d1, d2, d3, d4, d5] => { results := [.lit (.bool false)], args := [d1, d2, d3, d4, d5] }
  | _ => none }
def HistCountsWrongFalsely : Prop := histCountsRow.holds Try.pinned (OpenSpec.ofChange histCountsWrong)

/-- 'hwtop.TopTails': WHATEVER THE INPUT: true; the input reads as it did. -/
def topTailsSpec : ChangeSpec := { name := "topTails", fn := fun _ => fun
  | [d1, d2] => { results := [.lit (.bool true)], args := [d1, d2] }
  | _ => none }
def topTailsRow : OpenClaim := { program := "ytlnagfmaiabhaaa", sum := "a06f73141bec1668b25429faa14ab76f859bc26375bba74106a00f21fa4d4dbe", func := "heartwood/hwtop.TopTails", spec := "topTails", inPlace := ["math/bits.Add64", "math/bits.Sub64"], unfollowed := true, recurses := true, named := ["math/bits.divideError", "math/bits.overflowError"], apart := false }
def TopTailsSaid : Prop := topTailsRow.holds Try.pinned (OpenSpec.ofChange topTailsSpec)

/-- ITS FALSE NEIGHBOUR: 'it returns false'. Refute it at one input. -/
def topTailsWrong : ChangeSpec := { name := "topTails", fn := fun _ => fun
  | [d1, d2] => { results := [.lit (.bool false)], args := [d1, d2] }
  | _ => none }
def TopTailsWrongFalsely : Prop := topTailsRow.holds Try.pinned (OpenSpec.ofChange topTailsWrong)

/- THE SECOND FORM. 'bulk': how many values and letters a reading holds, each counted each time it is reached (what is shared counts as often as it is met; a slice's spare places count too). A statement '..UptoSaid' is the law's where the arguments, and the package variables that the reading takes, are together of bulk at most 1048576: NARROWER than '..Said'. Prove '..Said' where nothing that the law and all that it calls make is longer than what came in: it says more and counts as full. Else prove '..UptoSaid'. A law counts once. -/
mutual
def uptoBulk {H : Type} : DataW H → Nat
  | .lit (.string bytes) => bytes.length + 1
  | .lit _ => 1
  | .nil => 1
  | .ptr d => uptoBulk d + 1
  | .slice elems spare => uptoBulkAll elems + uptoBulkAll spare + 1
  | .agg parts => uptoBulkAll parts + 1
  | .iface _ d => uptoBulk d + 1
  | .map entries => uptoBulkEntries entries + 1
  | .held _ => 1
def uptoBulkAll {H : Type} : List (DataW H) → Nat
  | [] => 0
  | d :: r => uptoBulk d + uptoBulkAll r
def uptoBulkEntries {H : Type} : List (Lit × DataW H) → Nat
  | [] => 0
  | x :: r => uptoBulkEntry x + uptoBulkEntries r
def uptoBulkEntry {H : Type} : Lit × DataW H → Nat
  | (.string bytes, d) => bytes.length + uptoBulk d + 1
  | (_, d) => uptoBulk d + 1
 end
def uptoSmall : (H : Type) → List (DataW H) → Bool := fun _ ds => decide (uptoBulkAll ds ≤ 1048576)
def OpenSpec.upto (s : _root_.Go.ChangeSpec) : _root_.Go.OpenSpec := { _root_.Go.OpenSpec.ofChange s with cond := some uptoSmall }

/-- 'hwkeep.WideOrder', WHERE WHAT IT READS IS OF BULK AT MOST 1048576: true; the input reads as it did. -/
def wideOrderUptoRow : OpenClaim := { program := "ytlnagfmaiabhaaa", sum := "a06f73141bec1668b25429faa14ab76f859bc26375bba74106a00f21fa4d4dbe", func := "heartwood/hwkeep.WideOrder", spec := "wideOrder", inPlace := ["math/bits.Sub64", "math/bits.Add64"], apart := false, narrowed := true }
def WideOrderUptoSaid : Prop := wideOrderUptoRow.holds Try.pinned (OpenSpec.upto wideOrderSpec)

/-- 'hwtop.TopRoot', WHERE WHAT IT READS IS OF BULK AT MOST 1048576: true; the input reads as it did. -/
def topRootUptoRow : OpenClaim := { program := "ytlnagfmaiabhaaa", sum := "a06f73141bec1668b25429faa14ab76f859bc26375bba74106a00f21fa4d4dbe", func := "heartwood/hwtop.TopRoot", spec := "topRoot", inPlace := ["math/bits.Add64", "math/bits.Sub64"], unfollowed := true, recurses := true, named := ["math/bits.divideError", "math/bits.overflowError"], apart := false, narrowed := true }
def TopRootUptoSaid : Prop := topRootUptoRow.holds Try.pinned (OpenSpec.upto topRootSpec)

/-- 'hwtop.TopExpect', WHERE WHAT IT READS IS OF BULK AT MOST 1048576: true; the input reads as it did. -/
def topExpectUptoRow : OpenClaim := { program := "ytlnagfmaiabhaaa", sum := "a06f73141bec1668b25429faa14ab76f859bc26375bba74106a00f21fa4d4dbe", func := "heartwood/hwtop.TopExpect", spec := "topExpect", inPlace := ["math/bits.Add64"], unfollowed := true, recurses := true, apart := false, narrowed := true }
def TopExpectUptoSaid : Prop := topExpectUptoRow.holds Try.pinned (OpenSpec.upto topExpectSpec)

/-- 'hwkeep.HistGrows', WHERE WHAT IT READS IS OF BULK AT MOST 1048576: true; the input reads as it did. -/
def histGrowsUptoRow : OpenClaim := { program := "ytlnagfmaiabhaaa", sum := "a06f73141bec1668b25429faa14ab76f859bc26375bba74106a00f21fa4d4dbe", func := "heartwood/hwkeep.HistGrows", spec := "histGrows", apart := false, narrowed := true }
def HistGrowsUptoSaid : Prop := histGrowsUptoRow.holds Try.pinned (OpenSpec.upto histGrowsSpec)

/-- 'hwkeep.WinSlides', WHERE WHAT IT READS IS OF BULK AT MOST 1048576: true; the input reads as it did. -/
def winSlidesUptoRow : OpenClaim := { program := "ytlnagfmaiabhaaa", sum := "a06f73141bec1668b25429faa14ab76f859bc26375bba74106a00f21fa4d4dbe", func := "heartwood/hwkeep.WinSlides", spec := "winSlides", unfollowed := true, recurses := true, apart := false, narrowed := true }
def WinSlidesUptoSaid : Prop := winSlidesUptoRow.holds Try.pinned (OpenSpec.upto winSlidesSpec)

/-- 'hwkeep.StatJoins', WHERE WHAT IT READS IS OF BULK AT MOST 1048576: true; the input reads as it did. -/
def statJoinsUptoRow : OpenClaim := { program := "ytlnagfmaiabhaaa", sum := "a06f73141bec1668b25429faa14ab76f859bc26375bba74106a00f21fa4d4dbe", func := "heartwood/hwkeep.StatJoins", spec := "statJoins", unfollowed := true, recurses := true, apart := false, narrowed := true }
def StatJoinsUptoSaid : Prop := statJoinsUptoRow.holds Try.pinned (OpenSpec.upto statJoinsSpec)

/-- 'hwkeep.LevelLeast', WHERE WHAT IT READS IS OF BULK AT MOST 1048576: true; the input reads as it did. -/
def levelLeastUptoRow : OpenClaim := { program := "ytlnagfmaiabhaaa", sum := "a06f73141bec1668b25429faa14ab76f859bc26375bba74106a00f21fa4d4dbe", func := "heartwood/hwkeep.LevelLeast", spec := "levelLeast", inPlace := ["math/bits.Add64"], unfollowed := true, recurses := true, apart := false, narrowed := true }
def LevelLeastUptoSaid : Prop := levelLeastUptoRow.holds Try.pinned (OpenSpec.upto levelLeastSpec)

/-- 'hwkeep.LevelMoved', WHERE WHAT IT READS IS OF BULK AT MOST 1048576: true; the input reads as it did. -/
def levelMovedUptoRow : OpenClaim := { program := "ytlnagfmaiabhaaa", sum := "a06f73141bec1668b25429faa14ab76f859bc26375bba74106a00f21fa4d4dbe", func := "heartwood/hwkeep.LevelMoved", spec := "levelMoved", inPlace := ["math/bits.Add64"], unfollowed := true, recurses := true, apart := false, narrowed := true }
def LevelMovedUptoSaid : Prop := levelMovedUptoRow.holds Try.pinned (OpenSpec.upto levelMovedSpec)

/-- 'hwkeep.DecLong', WHERE WHAT IT READS IS OF BULK AT MOST 1048576: true; the input reads as it did. -/
def decLongUptoRow : OpenClaim := { program := "ytlnagfmaiabhaaa", sum := "a06f73141bec1668b25429faa14ab76f859bc26375bba74106a00f21fa4d4dbe", func := "heartwood/hwkeep.DecLong", spec := "decLong", inPlace := ["math/bits.Sub64", "math/bits.Add64"], named := ["math/bits.divideError", "math/bits.overflowError"], apart := false, narrowed := true }
def DecLongUptoSaid : Prop := decLongUptoRow.holds Try.pinned (OpenSpec.upto decLongSpec)

/-- 'hwkeep.DecBack', WHERE WHAT IT READS IS OF BULK AT MOST 1048576: true; the input reads as it did. -/
def decBackUptoRow : OpenClaim := { program := "ytlnagfmaiabhaaa", sum := "a06f73141bec1668b25429faa14ab76f859bc26375bba74106a00f21fa4d4dbe", func := "heartwood/hwkeep.DecBack", spec := "decBack", inPlace := ["math/bits.Sub64", "math/bits.Add64"], named := ["math/bits.divideError", "math/bits.overflowError"], apart := false, narrowed := true }
def DecBackUptoSaid : Prop := decBackUptoRow.holds Try.pinned (OpenSpec.upto decBackSpec)

/-- 'hwkeep.HistCounts', WHERE WHAT IT READS IS OF BULK AT MOST 1048576: true; the input reads as it did. -/
def histCountsUptoRow : OpenClaim := { program := "ytlnagfmaiabhaaa", sum := "a06f73141bec1668b25429faa14ab76f859bc26375bba74106a00f21fa4d4dbe", func := "heartwood/hwkeep.HistCounts", spec := "histCounts", unfollowed := true, recurses := true, apart := false, narrowed := true }
def HistCountsUptoSaid : Prop := histCountsUptoRow.holds Try.pinned (OpenSpec.upto histCountsSpec)

/-- 'hwtop.TopTails', WHERE WHAT IT READS IS OF BULK AT MOST 1048576: true; the input reads as it did. -/
def topTailsUptoRow : OpenClaim := { program := "ytlnagfmaiabhaaa", sum := "a06f73141bec1668b25429faa14ab76f859bc26375bba74106a00f21fa4d4dbe", func := "heartwood/hwtop.TopTails", spec := "topTails", inPlace := ["math/bits.Add64", "math/bits.Sub64"], unfollowed := true, recurses := true, named := ["math/bits.divideError", "math/bits.overflowError"], apart := false, narrowed := true }
def TopTailsUptoSaid : Prop := topTailsUptoRow.holds Try.pinned (OpenSpec.upto topTailsSpec)

end Rows
end Go.Proofs.Ytlnagfmaiabhaaa
