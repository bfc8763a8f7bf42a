/-
  No cell of these rows narrows 'for every input' (looked for: loops, veiled, ifaces, maps, wideKeys, modest, calm, conditions, laid).
  DERIVED. THE GIVEN ROWS OF THIS SEAT. 15 by the template 'for every input the law returns true; each argument reads behind the call as it read before'; 0 by the template 'total and deterministic' (their statements: YtnkeimpnnpndcaaTotals.lean).
  GIVEN WITH THE SEED: the statements are not yours to turn. If you find one false, say at which input.
  Laid BY PROGRAM, IN A SANDBOX (cutbox-rows.mjs): the forced cells as the released guide's own fill.sh prints them over the translation 2d496d9d763df88a… (all of the seat's roots in one cut). By AI agents, Wed Nov 11 2026. No macro, syntax, notation, axiom, sorry.
-/
import Derived.Test.YtnkeimpnnpndcaaChecked
import GoSem.Claim
import GoSem.ClaimJoined
import GoSem.ClaimMapViews
import Derived.JoinedTies
import Derived.KernelRfl
namespace Go.Proofs.Ytnkeimpnnpndcaa
/- THE CELL 'sum', in the pinned program and in every row, IS THE sha256 OF THE DUMP (.gsa) THAT YtnkeimpnnpndcaaProg.lean LOADS. Nothing in Lean hashes anything: it is a label: what it is worth is what the hold of that sum in a sandbox is worth. -/
noncomputable def Try.pinned : Pinned := { name := "ytnkeimpnnpndcaa", sum := "2d496d9d763df88ae88ae1c229303c7d493d2ea0a881e9e4b37c52a80e41df25", checked := Try.checked }
namespace Rows
def none {H : Type} : Left H := { results := [], args := [] }

/-- 'hwkeep.WideGroup': WHATEVER THE INPUT: true; the input reads as it did. -/
def wideGroupSpec : ChangeSpec := { name := "wideGroup", fn := fun _ => fun
  | [d1, d2, d3] => { results := [.lit (.bool true)], args := [d1, d2, d3] }
  | _ => none }
def wideGroupRow : OpenClaim := { program := "ytnkeimpnnpndcaa", sum := "2d496d9d763df88ae88ae1c229303c7d493d2ea0a881e9e4b37c52a80e41df25", func := "heartwood/hwkeep.WideGroup", spec := "wideGroup", inPlace := ["math/bits.Add64", "math/bits.Sub64"], apart := false }
def WideGroupSaid : Prop := wideGroupRow.holds Try.pinned (OpenSpec.ofChange wideGroupSpec)

/-- ITS FALSE NEIGHBOUR: 'it returns false'. Refute it at one input. -/
def wideGroupWrong : ChangeSpec := { name := "wideGroup", fn := fun _ => fun
  | [d1, d2, d3] => { results := [.lit (.bool false)], args := [d1, d2, d3] }
  | _ => none }
def WideGroupWrongFalsely : Prop := wideGroupRow.holds Try.pinned (OpenSpec.ofChange wideGroupWrong)

/-- 'hwkeep.ProdRing': WHATEVER THE INPUT: true; the input reads as it did. -/
def prodRingSpec : ChangeSpec := { name := "prodRing", fn := fun _ => fun
  | [d1, d2, d3] => { results := [.lit (.bool true)], args := [d1, d2, d3] }
  | _ => none }
def prodRingRow : OpenClaim := { program := "ytnkeimpnnpndcaa", sum := "2d496d9d763df88ae88ae1c229303c7d493d2ea0a881e9e4b37c52a80e41df25", func := "heartwood/hwkeep.ProdRing", spec := "prodRing", inPlace := ["math/bits.Add64"], apart := false }
def ProdRingSaid : Prop := prodRingRow.holds Try.pinned (OpenSpec.ofChange prodRingSpec)

/-- ITS FALSE NEIGHBOUR: 'it returns false'. Refute it at one input. -/
def prodRingWrong : ChangeSpec := { name := "prodRing", fn := fun _ => fun
  | [d1, d2, d3] => { results := [.lit (.bool false)], args := [d1, d2, d3] }
  | _ => none }
def ProdRingWrongFalsely : Prop := prodRingRow.holds Try.pinned (OpenSpec.ofChange prodRingWrong)

/-- 'hwkeep.ProdLens': WHATEVER THE INPUT: true; the input reads as it did. -/
def prodLensSpec : ChangeSpec := { name := "prodLens", fn := fun _ => fun
  | [d1, d2] => { results := [.lit (.bool true)], args := [d1, d2] }
  | _ => none }
def prodLensRow : OpenClaim := { program := "ytnkeimpnnpndcaa", sum := "2d496d9d763df88ae88ae1c229303c7d493d2ea0a881e9e4b37c52a80e41df25", func := "heartwood/hwkeep.ProdLens", spec := "prodLens", inPlace := ["math/bits.Add64"], apart := false }
def ProdLensSaid : Prop := prodLensRow.holds Try.pinned (OpenSpec.ofChange prodLensSpec)

/-- ITS FALSE NEIGHBOUR: 'it returns false'. Refute it at one input. -/
def prodLensWrong : ChangeSpec := { name := "prodLens", fn := fun _ => fun
  | [d1, d2] => { results := [.lit (.bool false)], args := [d1, d2] }
  | _ => none }
def ProdLensWrongFalsely : Prop := prodLensRow.holds Try.pinned (OpenSpec.ofChange prodLensWrong)

/-- 'hwkeep.HalvingsAdd': WHATEVER THE INPUT: true; the input reads as it did. -/
def halvingsAddSpec : ChangeSpec := { name := "halvingsAdd", fn := fun _ => fun
  | [d1, d2, d3] => { results := [.lit (.bool true)], args := [d1, d2, d3] }
  | _ => none }
def halvingsAddRow : OpenClaim := { program := "ytnkeimpnnpndcaa", sum := "2d496d9d763df88ae88ae1c229303c7d493d2ea0a881e9e4b37c52a80e41df25", func := "heartwood/hwkeep.HalvingsAdd", spec := "halvingsAdd", apart := false }
def HalvingsAddSaid : Prop := halvingsAddRow.holds Try.pinned (OpenSpec.ofChange halvingsAddSpec)

/-- ITS FALSE NEIGHBOUR: 'it returns false'. Refute it at one input. -/
def halvingsAddWrong : ChangeSpec := { name := "halvingsAdd", fn := fun _ => fun
  | [d1, d2, d3] => { results := [.lit (.bool false)], args := [d1, d2, d3] }
  | _ => none }
def HalvingsAddWrongFalsely : Prop := halvingsAddRow.holds Try.pinned (OpenSpec.ofChange halvingsAddWrong)

/-- 'hwkeep.WideOrder': WHATEVER THE INPUT: true; the input reads as it did. -/
def wideOrderSpec : ChangeSpec := { name := "wideOrder", fn := fun _ => fun
  | [d1, d2, d3] => { results := [.lit (.bool true)], args := [d1, d2, d3] }
  | _ => none }
def wideOrderRow : OpenClaim := { program := "ytnkeimpnnpndcaa", sum := "2d496d9d763df88ae88ae1c229303c7d493d2ea0a881e9e4b37c52a80e41df25", func := "heartwood/hwkeep.WideOrder", spec := "wideOrder", inPlace := ["math/bits.Sub64", "math/bits.Add64"], apart := false }
def WideOrderSaid : Prop := wideOrderRow.holds Try.pinned (OpenSpec.ofChange wideOrderSpec)

/-- ITS FALSE NEIGHBOUR: 'it returns false'. Refute it at one input. -/
def wideOrderWrong : ChangeSpec := { name := "wideOrder", fn := fun _ => fun
  | [d1, d2, d3] => { results := [.lit (.bool false)], args := [d1, d2, d3] }
  | _ => none }
def WideOrderWrongFalsely : Prop := wideOrderRow.holds Try.pinned (OpenSpec.ofChange wideOrderWrong)

/-- 'hwkeep.PowerAdds': WHATEVER THE INPUT: true; the input reads as it did. -/
def powerAddsSpec : ChangeSpec := { name := "powerAdds", fn := fun _ => fun
  | [d1, d2, d3, d4] => { results := [.lit (.bool true)], args := [d1, d2, d3, d4] }
  | _ => none }
def powerAddsRow : OpenClaim := { program := "ytnkeimpnnpndcaa", sum := "2d496d9d763df88ae88ae1c229303c7d493d2ea0a881e9e4b37c52a80e41df25", func := "heartwood/hwkeep.PowerAdds", spec := "powerAdds", inPlace := ["math/bits.Add64"], apart := false }
def PowerAddsSaid : Prop := powerAddsRow.holds Try.pinned (OpenSpec.ofChange powerAddsSpec)

/-- ITS FALSE NEIGHBOUR: 'it returns false'. Refute it at one input. -/
def powerAddsWrong : ChangeSpec := { name := "powerAdds", fn := fun _ => fun
  | [d1, d2, d3, d4] => { results := [.lit (.bool false)], args := [d1, d2, d3, d4] }
  | _ => none }
def PowerAddsWrongFalsely : Prop := powerAddsRow.holds Try.pinned (OpenSpec.ofChange powerAddsWrong)

/-- 'hwkeep.WideShifts': WHATEVER THE INPUT: true; the input reads as it did. -/
def wideShiftsSpec : ChangeSpec := { name := "wideShifts", fn := fun _ => fun
  | [d1, d2, d3] => { results := [.lit (.bool true)], args := [d1, d2, d3] }
  | _ => none }
def wideShiftsRow : OpenClaim := { program := "ytnkeimpnnpndcaa", sum := "2d496d9d763df88ae88ae1c229303c7d493d2ea0a881e9e4b37c52a80e41df25", func := "heartwood/hwkeep.WideShifts", spec := "wideShifts", inPlace := ["math/bits.Add64"], apart := false }
def WideShiftsSaid : Prop := wideShiftsRow.holds Try.pinned (OpenSpec.ofChange wideShiftsSpec)

/-- ITS FALSE NEIGHBOUR: 'it returns false'. Refute it at one input. -/
def wideShiftsWrong : ChangeSpec := { name := "wideShifts", fn := fun _ => fun
  | [d1, d2, d3] => { results := [.lit (.bool false)], args := [d1, d2, d3] }
  | _ => none }
def WideShiftsWrongFalsely : Prop := wideShiftsRow.holds Try.pinned (OpenSpec.ofChange wideShiftsWrong)

/-- 'hwkeep.PowerGrows': WHATEVER THE INPUT: true; the input reads as it did. -/
def powerGrowsSpec : ChangeSpec := { name := "powerGrows", fn := fun _ => fun
  | [d1, d2, d3] => { results := [.lit (.bool true)], args := [d1, d2, d3] }
  | _ => none }
def powerGrowsRow : OpenClaim := { program := "ytnkeimpnnpndcaa", sum := "2d496d9d763df88ae88ae1c229303c7d493d2ea0a881e9e4b37c52a80e41df25", func := "heartwood/hwkeep.PowerGrows", spec := "powerGrows", inPlace := ["math/bits.Add64"], apart := false }
def PowerGrowsSaid : Prop := powerGrowsRow.holds Try.pinned (OpenSpec.ofChange powerGrowsSpec)

/-- ITS FALSE NEIGHBOUR: 'it returns false'. Refute it at one input. -/
def powerGrowsWrong : ChangeSpec := { name := "powerGrows", fn := fun _ => fun
  | [d1, d2, d3] => { results := [.lit (.bool false)], args := [d1, d2, d3] }
  | _ => none }
def PowerGrowsWrongFalsely : Prop := powerGrowsRow.holds Try.pinned (OpenSpec.ofChange powerGrowsWrong)

/-- 'hwkeep.DivShifts': WHATEVER THE INPUT: true; the input reads as it did. -/
def divShiftsSpec : ChangeSpec := { name := "divShifts", fn := fun _ => fun
  | [d1, d2] => { results := [.lit (.bool true)], args := [d1, d2] }
  | _ => none }
def divShiftsRow : OpenClaim := { program := "ytnkeimpnnpndcaa", sum := "2d496d9d763df88ae88ae1c229303c7d493d2ea0a881e9e4b37c52a80e41df25", func := "heartwood/hwkeep.DivShifts", spec := "divShifts", inPlace := ["math/bits.Sub64"], named := ["math/bits.divideError", "math/bits.overflowError"], apart := false }
def DivShiftsSaid : Prop := divShiftsRow.holds Try.pinned (OpenSpec.ofChange divShiftsSpec)

/-- ITS FALSE NEIGHBOUR: 'it returns false'. Refute it at one input. -/
def divShiftsWrong : ChangeSpec := { name := "divShifts", fn := fun _ => fun
  | [d1, d2] => { results := [.lit (.bool false)], args := [d1, d2] }
  | _ => none }
def DivShiftsWrongFalsely : Prop := divShiftsRow.holds Try.pinned (OpenSpec.ofChange divShiftsWrong)

/-- 'hwkeep.DivBack': WHATEVER THE INPUT: true; the input reads as it did. -/
def divBackSpec : ChangeSpec := { name := "divBack", fn := fun _ => fun
  | [d1, d2] => { results := [.lit (.bool true)], args := [d1, d2] }
  | _ => none }
def divBackRow : OpenClaim := { program := "ytnkeimpnnpndcaa", sum := "2d496d9d763df88ae88ae1c229303c7d493d2ea0a881e9e4b37c52a80e41df25", func := "heartwood/hwkeep.DivBack", spec := "divBack", inPlace := ["math/bits.Sub64", "math/bits.Add64"], named := ["math/bits.divideError", "math/bits.overflowError"], apart := false }
def DivBackSaid : Prop := divBackRow.holds Try.pinned (OpenSpec.ofChange divBackSpec)

/-- ITS FALSE NEIGHBOUR: 'it returns false'. Refute it at one input. -/
def divBackWrong : ChangeSpec := { name := "divBack", fn := fun _ => fun
  | [d1, d2] => { results := [.lit (.bool false)], args := [d1, d2] }
  | _ => none }
def DivBackWrongFalsely : Prop := divBackRow.holds Try.pinned (OpenSpec.ofChange divBackWrong)

/-- 'hwkeep.DivNested': WHATEVER THE INPUT: true; the input reads as it did. -/
def divNestedSpec : ChangeSpec := { name := "divNested", fn := fun _ => fun
  | [d1, d2, d3] => { results := [.lit (.bool true)], args := [d1, d2, d3] }
  | _ => none }
def divNestedRow : OpenClaim := { program := "ytnkeimpnnpndcaa", sum := "2d496d9d763df88ae88ae1c229303c7d493d2ea0a881e9e4b37c52a80e41df25", func := "heartwood/hwkeep.DivNested", spec := "divNested", inPlace := ["math/bits.Sub64", "math/bits.Add64"], named := ["math/bits.divideError", "math/bits.overflowError"], apart := false }
def DivNestedSaid : Prop := divNestedRow.holds Try.pinned (OpenSpec.ofChange divNestedSpec)

/-- ITS FALSE NEIGHBOUR: 'it returns false'. Refute it at one input. -/
def divNestedWrong : ChangeSpec := { name := "divNested", fn := fun _ => fun
  | [d1, d2, d3] => { results := [.lit (.bool false)], args := [d1, d2, d3] }
  | _ => none }
def DivNestedWrongFalsely : Prop := divNestedRow.holds Try.pinned (OpenSpec.ofChange divNestedWrong)

/-- 'hwkeep.RootIs': WHATEVER THE INPUT: true; the input reads as it did. -/
def rootIsSpec : ChangeSpec := { name := "rootIs", fn := fun _ => fun
  | [d1, d2, d3] => { results := [.lit (.bool true)], args := [d1, d2, d3] }
  | _ => none }
def rootIsRow : OpenClaim := { program := "ytnkeimpnnpndcaa", sum := "2d496d9d763df88ae88ae1c229303c7d493d2ea0a881e9e4b37c52a80e41df25", func := "heartwood/hwkeep.RootIs", spec := "rootIs", inPlace := ["math/bits.Sub64", "math/bits.Add64"], named := ["math/bits.divideError", "math/bits.overflowError"], apart := false }
def RootIsSaid : Prop := rootIsRow.holds Try.pinned (OpenSpec.ofChange rootIsSpec)

/-- ITS FALSE NEIGHBOUR: 'it returns false'. Refute it at one input. -/
def rootIsWrong : ChangeSpec := { name := "rootIs", fn := fun _ => fun
  | [d1, d2, d3] => { results := [.lit (.bool false)], args := [d1, d2, d3] }
  | _ => none }
def RootIsWrongFalsely : Prop := rootIsRow.holds Try.pinned (OpenSpec.ofChange rootIsWrong)

/-- 'hwkeep.RootParts': WHATEVER THE INPUT: true; the input reads as it did. -/
def rootPartsSpec : ChangeSpec := { name := "rootParts", fn := fun _ => fun
  | [d1, d2] => { results := [.lit (.bool true)], args := [d1, d2] }
  | _ => none }
def rootPartsRow : OpenClaim := { program := "ytnkeimpnnpndcaa", sum := "2d496d9d763df88ae88ae1c229303c7d493d2ea0a881e9e4b37c52a80e41df25", func := "heartwood/hwkeep.RootParts", spec := "rootParts", inPlace := ["math/bits.Sub64", "math/bits.Add64"], named := ["math/bits.divideError", "math/bits.overflowError"], apart := false }
def RootPartsSaid : Prop := rootPartsRow.holds Try.pinned (OpenSpec.ofChange rootPartsSpec)

/-- ITS FALSE NEIGHBOUR: 'it returns false'. Refute it at one input. -/
def rootPartsWrong : ChangeSpec := { name := "rootParts", fn := fun _ => fun
  | [d1, d2] => { results := [.lit (.bool false)], args := [d1, d2] }
  | _ => none }
def RootPartsWrongFalsely : Prop := rootPartsRow.holds Try.pinned (OpenSpec.ofChange rootPartsWrong)

/-- 'hwkeep.DecLong': WHATEVER THE INPUT: true; the input reads as it did. -/
def decLongSpec : ChangeSpec := { name := "decLong", fn := fun _ => fun
  | [d] => { results := [.lit (.bool true)], args := [d] }
  | _ => none }
def decLongRow : OpenClaim := { program := "ytnkeimpnnpndcaa", sum := "2d496d9d763df88ae88ae1c229303c7d493d2ea0a881e9e4b37c52a80e41df25", func := "heartwood/hwkeep.DecLong", spec := "decLong", inPlace := ["math/bits.Sub64", "math/bits.Add64"], named := ["math/bits.divideError", "math/bits.overflowError"], apart := false }
def DecLongSaid : Prop := decLongRow.holds Try.pinned (OpenSpec.ofChange decLongSpec)

/-- ITS FALSE NEIGHBOUR: 'it returns false'. Refute it at one input. -/
def decLongWrong : ChangeSpec := { name := "decLong", fn := fun _ => fun
  | [d] => { results := [.lit (.bool false)], args := [d] }
  | _ => none }
def DecLongWrongFalsely : Prop := decLongRow.holds Try.pinned (OpenSpec.ofChange decLongWrong)

/-- 'hwkeep.DecBack': WHATEVER THE INPUT: true; the input reads as it did. -/
def decBackSpec : ChangeSpec := { name := "decBack", fn := fun _ => fun
  | [d1, d2, d3] => { results := [.lit (.bool true)], args := [d1, d2, d3] }
  | _ => none }
def decBackRow : OpenClaim := { program := "ytnkeimpnnpndcaa", sum := "2d496d9d763df88ae88ae1c229303c7d493d2ea0a881e9e4b37c52a80e41df25", func := "heartwood/hwkeep.DecBack", spec := "decBack", inPlace := ["math/bits.Sub64", "math/bits.Add64"], named := ["math/bits.divideError", "math/bits.overflowError"], apart := false }
def DecBackSaid : Prop := decBackRow.holds Try.pinned (OpenSpec.ofChange decBackSpec)

/-- ITS FALSE NEIGHBOUR: 'it returns false'. Refute it at one input. -/
def decBackWrong : ChangeSpec := { name := "decBack", fn := fun _ => fun
  | [d1, d2, d3] => { results := [.lit (.bool false)], args := [d1, d2, d3] }
  | _ => none }
def DecBackWrongFalsely : Prop := decBackRow.holds Try.pinned (OpenSpec.ofChange decBackWrong)

/- THE SECOND FORM. 'bulk': how many values and letters a reading holds, each counted each time it is reached (what is shared counts as often as it is met; a slice's spare places count too). A statement '..UptoSaid' is the law's where the arguments, and the package variables that the reading takes, are together of bulk at most 1048576: NARROWER than '..Said'. Prove '..Said' where nothing that the law and all that it calls make is longer than what came in: it says more and counts as full. Else prove '..UptoSaid'. A law counts once. -/
mutual
def uptoBulk {H : Type} : DataW H → Nat
  | .lit (.string bytes) => bytes.length + 1
  | .lit _ => 1
  | .nil => 1
  | .ptr d => uptoBulk d + 1
  | .slice elems spare => uptoBulkAll elems + uptoBulkAll spare + 1
  | .agg parts => uptoBulkAll parts + 1
  | .iface _ d => uptoBulk d + 1
  | .map entries => uptoBulkEntries entries + 1
  | .held _ => 1
def uptoBulkAll {H : Type} : List (DataW H) → Nat
  | [] => 0
  | d :: r => uptoBulk d + uptoBulkAll r
def uptoBulkEntries {H : Type} : List (Lit × DataW H) → Nat
  | [] => 0
  | x :: r => uptoBulkEntry x + uptoBulkEntries r
def uptoBulkEntry {H : Type} : Lit × DataW H → Nat
  | (.string bytes, d) => bytes.length + uptoBulk d + 1
  | (_, d) => uptoBulk d + 1
 end
def uptoSmall : (H : Type) → List (DataW H) → Bool := fun _ ds => decide (uptoBulkAll ds ≤ 1048576)
def OpenSpec.upto (s : _root_.Go.ChangeSpec) : _root_.Go.OpenSpec := { _root_.Go.OpenSpec.ofChange s with cond := some uptoSmall }

/-- 'hwkeep.WideGroup', WHERE WHAT IT READS IS OF BULK AT MOST 1048576: true; the input reads as it did. -/
def wideGroupUptoRow : OpenClaim := { program := "ytnkeimpnnpndcaa", sum := "2d496d9d763df88ae88ae1c229303c7d493d2ea0a881e9e4b37c52a80e41df25", func := "heartwood/hwkeep.WideGroup", spec := "wideGroup", inPlace := ["math/bits.Add64", "math/bits.Sub64"], apart := false, narrowed := true }
def WideGroupUptoSaid : Prop := wideGroupUptoRow.holds Try.pinned (OpenSpec.upto wideGroupSpec)

/-- 'hwkeep.ProdRing', WHERE WHAT IT READS IS OF BULK AT MOST 1048576: true; the input reads as it did. -/
def prodRingUptoRow : OpenClaim := { program := "ytnkeimpnnpndcaa", sum := "2d496d9d763df88ae88ae1c229303c7d493d2ea0a881e9e4b37c52a80e41df25", func := "heartwood/hwkeep.ProdRing", spec := "prodRing", inPlace := ["math/bits.Add64"], apart := false, narrowed := true }
def ProdRingUptoSaid : Prop := prodRingUptoRow.holds Try.pinned (OpenSpec.upto prodRingSpec)

/-- 'hwkeep.ProdLens', WHERE WHAT IT READS IS OF BULK AT MOST 1048576: true; the input reads as it did. -/
def prodLensUptoRow : OpenClaim := { program := "ytnkeimpnnpndcaa", sum := "2d496d9d763df88ae88ae1c229303c7d493d2ea0a881e9e4b37c52a80e41df25", func := "heartwood/hwkeep.ProdLens", spec := "prodLens", inPlace := ["math/bits.Add64"], apart := false, narrowed := true }
def ProdLensUptoSaid : Prop := prodLensUptoRow.holds Try.pinned (OpenSpec.upto prodLensSpec)

/-- 'hwkeep.HalvingsAdd', WHERE WHAT IT READS IS OF BULK AT MOST 1048576: true; the input reads as it did. -/
def halvingsAddUptoRow : OpenClaim := { program := "ytnkeimpnnpndcaa", sum := "2d496d9d763df88ae88ae1c229303c7d493d2ea0a881e9e4b37c52a80e41df25", func := "heartwood/hwkeep.HalvingsAdd", spec := "halvingsAdd", apart := false, narrowed := true }
def HalvingsAddUptoSaid : Prop := halvingsAddUptoRow.holds Try.pinned (OpenSpec.upto halvingsAddSpec)

/-- 'hwkeep.WideOrder', WHERE WHAT IT READS IS OF BULK AT MOST 1048576: true; the input reads as it did. -/
def wideOrderUptoRow : OpenClaim := { program := "ytnkeimpnnpndcaa", sum := "2d496d9d763df88ae88ae1c229303c7d493d2ea0a881e9e4b37c52a80e41df25", func := "heartwood/hwkeep.WideOrder", spec := "wideOrder", inPlace := ["math/bits.Sub64", "math/bits.Add64"], apart := false, narrowed := true }
def WideOrderUptoSaid : Prop := wideOrderUptoRow.holds Try.pinned (OpenSpec.upto wideOrderSpec)

/-- 'hwkeep.PowerAdds', WHERE WHAT IT READS IS OF BULK AT MOST 1048576: true; the input reads as it did. -/
def powerAddsUptoRow : OpenClaim := { program := "ytnkeimpnnpndcaa", sum := "2d496d9d763df88ae88ae1c229303c7d493d2ea0a881e9e4b37c52a80e41df25", func := "heartwood/hwkeep.PowerAdds", spec := "powerAdds", inPlace := ["math/bits.Add64"], apart := false, narrowed := true }
def PowerAddsUptoSaid : Prop := powerAddsUptoRow.holds Try.pinned (OpenSpec.upto powerAddsSpec)

/-- 'hwkeep.WideShifts', WHERE WHAT IT READS IS OF BULK AT MOST 1048576: true; the input reads as it did. -/
def wideShiftsUptoRow : OpenClaim := { program := "ytnkeimpnnpndcaa", sum := "2d496d9d763df88ae88ae1c229303c7d493d2ea0a881e9e4b37c52a80e41df25", func := "heartwood/hwkeep.WideShifts", spec := "wideShifts", inPlace := ["math/bits.Add64"], apart := false, narrowed := true }
def WideShiftsUptoSaid : Prop := wideShiftsUptoRow.holds Try.pinned (OpenSpec.upto wideShiftsSpec)

/-- 'hwkeep.PowerGrows', WHERE WHAT IT READS IS OF BULK AT MOST 1048576: true; the input reads as it did. -/
def powerGrowsUptoRow : OpenClaim := { program := "ytnkeimpnnpndcaa", sum := "2d496d9d763df88ae88ae1c229303c7d493d2ea0a881e9e4b37c52a80e41df25", func := "heartwood/hwkeep.PowerGrows", spec := "powerGrows", inPlace := ["math/bits.Add64"], apart := false, narrowed := true }
def PowerGrowsUptoSaid : Prop := powerGrowsUptoRow.holds Try.pinned (OpenSpec.upto powerGrowsSpec)

/-- 'hwkeep.DivShifts', WHERE WHAT IT READS IS OF BULK AT MOST 1048576: true; the input reads as it did. -/
def divShiftsUptoRow : OpenClaim := { program := "ytnkeimpnnpndcaa", sum := "2d496d9d763df88ae88ae1c229303c7d493d2ea0a881e9e4b37c52a80e41df25", func := "heartwood/hwkeep.DivShifts", spec := "divShifts", inPlace := ["math/bits.Sub64"], named := ["math/bits.divideError", "math/bits.overflowError"], apart := false, narrowed := true }
def DivShiftsUptoSaid : Prop := divShiftsUptoRow.holds Try.pinned (OpenSpec.upto divShiftsSpec)

/-- 'hwkeep.DivBack', WHERE WHAT IT READS IS OF BULK AT MOST 1048576: true; the input reads as it did. -/
def divBackUptoRow : OpenClaim := { program := "ytnkeimpnnpndcaa", sum := "2d496d9d763df88ae88ae1c229303c7d493d2ea0a881e9e4b37c52a80e41df25", func := "heartwood/hwkeep.DivBack", spec := "divBack", inPlace := ["math/bits.Sub64", "math/bits.Add64"], named := ["math/bits.divideError", "math/bits.overflowError"], apart := false, narrowed := true }
def DivBackUptoSaid : Prop := divBackUptoRow.holds Try.pinned (OpenSpec.upto divBackSpec)

/-- 'hwkeep.DivNested', WHERE WHAT IT READS IS OF BULK AT MOST 1048576: true; the input reads as it did. -/
def divNestedUptoRow : OpenClaim := { program := "ytnkeimpnnpndcaa", sum := "2d496d9d763df88ae88ae1c229303c7d493d2ea0a881e9e4b37c52a80e41df25", func := "heartwood/hwkeep.DivNested", spec := "divNested", inPlace := ["math/bits.Sub64", "math/bits.Add64"], named := ["math/bits.divideError", "math/bits.overflowError"], apart := false, narrowed := true }
def DivNestedUptoSaid : Prop := divNestedUptoRow.holds Try.pinned (OpenSpec.upto divNestedSpec)

/-- 'hwkeep.RootIs', WHERE WHAT IT READS IS OF BULK AT MOST 1048576: true; the input reads as it did. -/
def rootIsUptoRow : OpenClaim := { program := "ytnkeimpnnpndcaa", sum := "2d496d9d763df88ae88ae1c229303c7d493d2ea0a881e9e4b37c52a80e41df25", func := "heartwood/hwkeep.RootIs", spec := "rootIs", inPlace := ["math/bits.Sub64", "math/bits.Add64"], named := ["math/bits.divideError", "math/bits.overflowError"], apart := false, narrowed := true }
def RootIsUptoSaid : Prop := rootIsUptoRow.holds Try.pinned (OpenSpec.upto rootIsSpec)

/-- 'hwkeep.RootParts', WHERE WHAT IT READS IS OF BULK AT MOST 1048576: true; the input reads as it did. -/
def rootPartsUptoRow : OpenClaim := { program := "ytnkeimpnnpndcaa", sum := "2d496d9d763df88ae88ae1c229303c7d493d2ea0a881e9e4b37c52a80e41df25", func := "heartwood/hwkeep.RootParts", spec := "rootParts", inPlace := ["math/bits.Sub64", "math/bits.Add64"], named := ["math/bits.divideError", "math/bits.overflowError"], apart := false, narrowed := true }
def RootPartsUptoSaid : Prop := rootPartsUptoRow.holds Try.pinned (OpenSpec.upto rootPartsSpec)

/-- 'hwkeep.DecLong', WHERE WHAT IT READS IS OF BULK AT MOST 1048576: true; the input reads as it did. -/
def decLongUptoRow : OpenClaim := { program := "ytnkeimpnnpndcaa", sum := "2d496d9d763df88ae88ae1c229303c7d493d2ea0a881e9e4b37c52a80e41df25", func := "heartwood/hwkeep.DecLong", spec := "decLong", inPlace := ["math/bits.Sub64", "math/bits.Add64"], named := ["math/bits.divideError", "math/bits.overflowError"], apart := false, narrowed := true }
def DecLongUptoSaid : Prop := decLongUptoRow.holds Try.pinned (OpenSpec.upto decLongSpec)

/-- 'hwkeep.DecBack', WHERE WHAT IT READS IS OF BULK AT MOST 1048576: true; the input reads as it did. -/
def decBackUptoRow : OpenClaim := { program := "ytnkeimpnnpndcaa", sum := "2d496d9d763df88ae88ae1c229303c7d493d2ea0a881e9e4b37c52a80e41df25", func := "heartwood/hwkeep.DecBack", spec := "decBack", inPlace := ["math/bits.Sub64", "math/bits.Add64"], named := ["math/bits.divideError", "math/bits.overflowError"], apart := false, narrowed := true }
def DecBackUptoSaid : Prop := decBackUptoRow.holds Try.pinned (OpenSpec.upto decBackSpec)

end Rows
end Go.Proofs.Ytnkeimpnnpndcaa
