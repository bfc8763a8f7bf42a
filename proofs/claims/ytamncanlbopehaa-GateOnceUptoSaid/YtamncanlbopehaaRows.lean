/-
  No cell of these rows narrows 'for every input' (looked for: loops, veiled, ifaces, maps, wideKeys, modest, calm, conditions, laid).
  DERIVED. THE GIVEN ROWS OF THIS SEAT. 15 by the template 'for every input the law returns true; each argument reads behind the call as it read before'; 0 by the template 'total and deterministic' (their statements: YtamncanlbopehaaTotals.lean).
  GIVEN WITH THE SEED: the statements are not yours to turn. If you find one false, say at which input.
  Laid BY PROGRAM, IN A SANDBOX (cutbox-rows.mjs): the forced cells as the released guide's own fill.sh prints them over the translation 826e6c3c0b786a05… (all of the seat's roots in one cut). By AI agents, Wed Nov 11 2026. No macro, syntax, notation, axiom, sorry.
-/
import Derived.Test.YtamncanlbopehaaChecked
import GoSem.Claim
import GoSem.ClaimJoined
import GoSem.ClaimMapViews
import Derived.JoinedTies
import Derived.KernelRfl
namespace Go.Proofs.Ytamncanlbopehaa
/- THE CELL 'sum', in the pinned program and in every row, IS THE sha256 OF THE DUMP (.gsa) THAT YtamncanlbopehaaProg.lean LOADS. Nothing in Lean hashes anything: it is a label: what it is worth is what the hold of that sum in a sandbox is worth. -/
noncomputable def Try.pinned : Pinned := { name := "ytamncanlbopehaa", sum := "826e6c3c0b786a0552aaca8f51233c3033f07a61e2032f577f06fd92c05486c6", checked := Try.checked }
namespace Rows
def none {H : Type} : Left H := { results := [], args := [] }

/-- 'hwkeep.GateOnce': WHATEVER THE INPUT: true; the input reads as it did. -/
def gateOnceSpec : ChangeSpec := { name := "gateOnce", fn := fun _ => fun
  | [d] => { results := [.lit (.bool true)], args := [d] }
  | _ => none }
def gateOnceRow : OpenClaim := { program := "ytamncanlbopehaa", sum := "826e6c3c0b786a0552aaca8f51233c3033f07a61e2032f577f06fd92c05486c6", func := "heartwood/hwkeep.GateOnce", spec := "gateOnce", apart := false }
def GateOnceSaid : Prop := gateOnceRow.holds Try.pinned (OpenSpec.ofChange gateOnceSpec)

/-- ITS FALSE NEIGHBOUR: 'it returns false'. Refute it at one input. -/
def gateOnceWrong : ChangeSpec := { name := "gateOnce", fn := fun _ => fun
  | [d] => { results := [.lit (.bool false)], args := [d] }
  | _ => none }
def GateOnceWrongFalsely : Prop := gateOnceRow.holds Try.pinned (OpenSpec.ofChange gateOnceWrong)

/-- 'hwkeep.CrcLinear': WHATEVER THE INPUT: true; the input reads as it did. -/
def crcLinearSpec : ChangeSpec := { name := "crcLinear", fn := fun _ => fun
  | [d1, d2, d3] => { results := [.lit (.bool true)], args := [d1, d2, d3] }
  | _ => none }
def crcLinearRow : OpenClaim := { program := "ytamncanlbopehaa", sum := "826e6c3c0b786a0552aaca8f51233c3033f07a61e2032f577f06fd92c05486c6", func := "heartwood/hwkeep.CrcLinear", spec := "crcLinear", apart := false }
def CrcLinearSaid : Prop := crcLinearRow.holds Try.pinned (OpenSpec.ofChange crcLinearSpec)

/-- ITS FALSE NEIGHBOUR: 'it returns false'. Refute it at one input. -/
def crcLinearWrong : ChangeSpec := { name := "crcLinear", fn := fun _ => fun
  | [d1, d2, d3] => { results := [.lit (.bool false)], args := [d1, d2, d3] }
  | _ => none }
def CrcLinearWrongFalsely : Prop := crcLinearRow.holds Try.pinned (OpenSpec.ofChange crcLinearWrong)

/-- 'hwkeep.CrcBursts': WHATEVER THE INPUT: true; the input reads as it did. -/
def crcBurstsSpec : ChangeSpec := { name := "crcBursts", fn := fun _ => fun
  | [d1, d2, d3] => { results := [.lit (.bool true)], args := [d1, d2, d3] }
  | _ => none }
def crcBurstsRow : OpenClaim := { program := "ytamncanlbopehaa", sum := "826e6c3c0b786a0552aaca8f51233c3033f07a61e2032f577f06fd92c05486c6", func := "heartwood/hwkeep.CrcBursts", spec := "crcBursts", apart := false }
def CrcBurstsSaid : Prop := crcBurstsRow.holds Try.pinned (OpenSpec.ofChange crcBurstsSpec)

/-- ITS FALSE NEIGHBOUR: 'it returns false'. Refute it at one input. -/
def crcBurstsWrong : ChangeSpec := { name := "crcBursts", fn := fun _ => fun
  | [d1, d2, d3] => { results := [.lit (.bool false)], args := [d1, d2, d3] }
  | _ => none }
def CrcBurstsWrongFalsely : Prop := crcBurstsRow.holds Try.pinned (OpenSpec.ofChange crcBurstsWrong)

/-- 'hwkeep.VoteMost': WHATEVER THE INPUT: true; the input reads as it did. -/
def voteMostSpec : ChangeSpec := { name := "voteMost", fn := fun _ => fun
  | [d1, d2, d3] => { results := [.lit (.bool true)], args := [d1, d2, d3] }
  | _ => none }
def voteMostRow : OpenClaim := { program := "ytamncanlbopehaa", sum := "826e6c3c0b786a0552aaca8f51233c3033f07a61e2032f577f06fd92c05486c6", func := "heartwood/hwkeep.VoteMost", spec := "voteMost", unfollowed := true, recurses := true, apart := false }
def VoteMostSaid : Prop := voteMostRow.holds Try.pinned (OpenSpec.ofChange voteMostSpec)

/-- ITS FALSE NEIGHBOUR: 'it returns false'. Refute it at one input. -/
def voteMostWrong : ChangeSpec := { name := "voteMost", fn := fun _ => fun
  | [d1, d2, d3] => { results := [.lit (.bool false)], args := [d1, d2, d3] }
  | _ => none }
def VoteMostWrongFalsely : Prop := voteMostRow.holds Try.pinned (OpenSpec.ofChange voteMostWrong)

/-- 'hwkeep.MarksAll': WHATEVER THE INPUT: true; the input reads as it did. -/
def marksAllSpec : ChangeSpec := { name := "marksAll", fn := fun _ => fun
  | [d1, d2] => { results := [.lit (.bool true)], args := [d1, d2] }
  | _ => none }
def marksAllRow : OpenClaim := { program := "ytamncanlbopehaa", sum := "826e6c3c0b786a0552aaca8f51233c3033f07a61e2032f577f06fd92c05486c6", func := "heartwood/hwkeep.MarksAll", spec := "marksAll", apart := false }
def MarksAllSaid : Prop := marksAllRow.holds Try.pinned (OpenSpec.ofChange marksAllSpec)

/-- ITS FALSE NEIGHBOUR: 'it returns false'. Refute it at one input. -/
def marksAllWrong : ChangeSpec := { name := "marksAll", fn := fun _ => fun
  | [d1, d2] => { results := [.lit (.bool false)], args := [d1, d2] }
  | _ => none }
def MarksAllWrongFalsely : Prop := marksAllRow.holds Try.pinned (OpenSpec.ofChange marksAllWrong)

/-- 'hwkeep.MarksJoin': WHATEVER THE INPUT: true; the input reads as it did. -/
def marksJoinSpec : ChangeSpec := { name := "marksJoin", fn := fun _ => fun
  | [d1, d2, d3] => { results := [.lit (.bool true)], args := [d1, d2, d3] }
  | _ => none }
def marksJoinRow : OpenClaim := { program := "ytamncanlbopehaa", sum := "826e6c3c0b786a0552aaca8f51233c3033f07a61e2032f577f06fd92c05486c6", func := "heartwood/hwkeep.MarksJoin", spec := "marksJoin", apart := false }
def MarksJoinSaid : Prop := marksJoinRow.holds Try.pinned (OpenSpec.ofChange marksJoinSpec)

/-- ITS FALSE NEIGHBOUR: 'it returns false'. Refute it at one input. -/
def marksJoinWrong : ChangeSpec := { name := "marksJoin", fn := fun _ => fun
  | [d1, d2, d3] => { results := [.lit (.bool false)], args := [d1, d2, d3] }
  | _ => none }
def MarksJoinWrongFalsely : Prop := marksJoinRow.holds Try.pinned (OpenSpec.ofChange marksJoinWrong)

/-- 'hwkeep.MarksTicks': WHATEVER THE INPUT: true; the input reads as it did. -/
def marksTicksSpec : ChangeSpec := { name := "marksTicks", fn := fun _ => fun
  | [d1, d2] => { results := [.lit (.bool true)], args := [d1, d2] }
  | _ => none }
def marksTicksRow : OpenClaim := { program := "ytamncanlbopehaa", sum := "826e6c3c0b786a0552aaca8f51233c3033f07a61e2032f577f06fd92c05486c6", func := "heartwood/hwkeep.MarksTicks", spec := "marksTicks", apart := false }
def MarksTicksSaid : Prop := marksTicksRow.holds Try.pinned (OpenSpec.ofChange marksTicksSpec)

/-- ITS FALSE NEIGHBOUR: 'it returns false'. Refute it at one input. -/
def marksTicksWrong : ChangeSpec := { name := "marksTicks", fn := fun _ => fun
  | [d1, d2] => { results := [.lit (.bool false)], args := [d1, d2] }
  | _ => none }
def MarksTicksWrongFalsely : Prop := marksTicksRow.holds Try.pinned (OpenSpec.ofChange marksTicksWrong)

/-- 'hwkeep.MarksLonger': WHATEVER THE INPUT: true; the input reads as it did. -/
def marksLongerSpec : ChangeSpec := { name := "marksLonger", fn := fun _ => fun
  | [d1, d2] => { results := [.lit (.bool true)], args := [d1, d2] }
  | _ => none }
def marksLongerRow : OpenClaim := { program := "ytamncanlbopehaa", sum := "826e6c3c0b786a0552aaca8f51233c3033f07a61e2032f577f06fd92c05486c6", func := "heartwood/hwkeep.MarksLonger", spec := "marksLonger", apart := false }
def MarksLongerSaid : Prop := marksLongerRow.holds Try.pinned (OpenSpec.ofChange marksLongerSpec)

/-- ITS FALSE NEIGHBOUR: 'it returns false'. Refute it at one input. -/
def marksLongerWrong : ChangeSpec := { name := "marksLonger", fn := fun _ => fun
  | [d1, d2] => { results := [.lit (.bool false)], args := [d1, d2] }
  | _ => none }
def MarksLongerWrongFalsely : Prop := marksLongerRow.holds Try.pinned (OpenSpec.ofChange marksLongerWrong)

/-- 'hwkeep.WinLast': WHATEVER THE INPUT: true; the input reads as it did. -/
def winLastSpec : ChangeSpec := { name := "winLast", fn := fun _ => fun
  | [d1, d2] => { results := [.lit (.bool true)], args := [d1, d2] }
  | _ => none }
def winLastRow : OpenClaim := { program := "ytamncanlbopehaa", sum := "826e6c3c0b786a0552aaca8f51233c3033f07a61e2032f577f06fd92c05486c6", func := "heartwood/hwkeep.WinLast", spec := "winLast", unfollowed := true, recurses := true, apart := false }
def WinLastSaid : Prop := winLastRow.holds Try.pinned (OpenSpec.ofChange winLastSpec)

/-- ITS FALSE NEIGHBOUR: 'it returns false'. Refute it at one input. -/
def winLastWrong : ChangeSpec := { name := "winLast", fn := fun _ => fun
  | [d1, d2] => { results := [.lit (.bool false)], args := [d1, d2] }
  | _ => none }
def WinLastWrongFalsely : Prop := winLastRow.holds Try.pinned (OpenSpec.ofChange winLastWrong)

/-- 'hwkeep.BeatSize': WHATEVER THE INPUT: true; the input reads as it did. -/
def beatSizeSpec : ChangeSpec := { name := "beatSize", fn := fun _ => fun
  | [d1, d2] => { results := [.lit (.bool true)], args := [d1, d2] }
  | _ => none }
def beatSizeRow : OpenClaim := { program := "ytamncanlbopehaa", sum := "826e6c3c0b786a0552aaca8f51233c3033f07a61e2032f577f06fd92c05486c6", func := "heartwood/hwkeep.BeatSize", spec := "beatSize", apart := false }
def BeatSizeSaid : Prop := beatSizeRow.holds Try.pinned (OpenSpec.ofChange beatSizeSpec)

/-- ITS FALSE NEIGHBOUR: 'it returns false'. Refute it at one input. -/
def beatSizeWrong : ChangeSpec := { name := "beatSize", fn := fun _ => fun
  | [d1, d2] => { results := [.lit (.bool false)], args := [d1, d2] }
  | _ => none }
def BeatSizeWrongFalsely : Prop := beatSizeRow.holds Try.pinned (OpenSpec.ofChange beatSizeWrong)

/-- 'hwkeep.BeatBack': WHATEVER THE INPUT: true; the input reads as it did. -/
def beatBackSpec : ChangeSpec := { name := "beatBack", fn := fun _ => fun
  | [d1, d2, d3, d4] => { results := [.lit (.bool true)], args := [d1, d2, d3, d4] }
  | _ => none }
def beatBackRow : OpenClaim := { program := "ytamncanlbopehaa", sum := "826e6c3c0b786a0552aaca8f51233c3033f07a61e2032f577f06fd92c05486c6", func := "heartwood/hwkeep.BeatBack", spec := "beatBack", apart := false }
def BeatBackSaid : Prop := beatBackRow.holds Try.pinned (OpenSpec.ofChange beatBackSpec)

/-- ITS FALSE NEIGHBOUR: 'it returns false'. Refute it at one input. -/
def beatBackWrong : ChangeSpec := { name := "beatBack", fn := fun _ => fun
  | [d1, d2, d3, d4] => { results := [.lit (.bool false)], args := [d1, d2, d3, d4] }
  | _ => none }
def BeatBackWrongFalsely : Prop := beatBackRow.holds Try.pinned (OpenSpec.ofChange beatBackWrong)

/-- 'hwkeep.BeatOne': WHATEVER THE INPUT: true; the input reads as it did. -/
def beatOneSpec : ChangeSpec := { name := "beatOne", fn := fun _ => fun
  | [d] => { results := [.lit (.bool true)], args := [d] }
  | _ => none }
def beatOneRow : OpenClaim := { program := "ytamncanlbopehaa", sum := "826e6c3c0b786a0552aaca8f51233c3033f07a61e2032f577f06fd92c05486c6", func := "heartwood/hwkeep.BeatOne", spec := "beatOne", apart := false }
def BeatOneSaid : Prop := beatOneRow.holds Try.pinned (OpenSpec.ofChange beatOneSpec)

/-- ITS FALSE NEIGHBOUR: 'it returns false'. Refute it at one input. -/
def beatOneWrong : ChangeSpec := { name := "beatOne", fn := fun _ => fun
  | [d] => { results := [.lit (.bool false)], args := [d] }
  | _ => none }
def BeatOneWrongFalsely : Prop := beatOneRow.holds Try.pinned (OpenSpec.ofChange beatOneWrong)

/-- 'hwkeep.BeatBursts': WHATEVER THE INPUT: true; the input reads as it did. -/
def beatBurstsSpec : ChangeSpec := { name := "beatBursts", fn := fun _ => fun
  | [d1, d2, d3] => { results := [.lit (.bool true)], args := [d1, d2, d3] }
  | _ => none }
def beatBurstsRow : OpenClaim := { program := "ytamncanlbopehaa", sum := "826e6c3c0b786a0552aaca8f51233c3033f07a61e2032f577f06fd92c05486c6", func := "heartwood/hwkeep.BeatBursts", spec := "beatBursts", apart := false }
def BeatBurstsSaid : Prop := beatBurstsRow.holds Try.pinned (OpenSpec.ofChange beatBurstsSpec)

/-- ITS FALSE NEIGHBOUR: 'it returns false'. Refute it at one input. -/
def beatBurstsWrong : ChangeSpec := { name := "beatBursts", fn := fun _ => fun
  | [d1, d2, d3] => { results := [.lit (.bool false)], args := [d1, d2, d3] }
  | _ => none }
def BeatBurstsWrongFalsely : Prop := beatBurstsRow.holds Try.pinned (OpenSpec.ofChange beatBurstsWrong)

/-- 'hwkeep.HistGrows': WHATEVER THE INPUT: true; the input reads as it did. -/
def histGrowsSpec : ChangeSpec := { name := "histGrows", fn := fun _ => fun
  | [d1, d2, d3, d4] => { results := [.lit (.bool true)], args := [d1, d2, d3, d4] }
  | _ => none }
def histGrowsRow : OpenClaim := { program := "ytamncanlbopehaa", sum := "826e6c3c0b786a0552aaca8f51233c3033f07a61e2032f577f06fd92c05486c6", func := "heartwood/hwkeep.HistGrows", spec := "histGrows", apart := false }
def HistGrowsSaid : Prop := histGrowsRow.holds Try.pinned (OpenSpec.ofChange histGrowsSpec)

/-- ITS FALSE NEIGHBOUR: 'it returns false'. Refute it at one input. -/
def histGrowsWrong : ChangeSpec := { name := "histGrows", fn := fun _ => fun
  | [d1, d2, d3, d4] => { results := [.lit (.bool false)], args := [d1, d2, d3, d4] }
  | _ => none }
def HistGrowsWrongFalsely : Prop := histGrowsRow.holds Try.pinned (OpenSpec.ofChange histGrowsWrong)

/-- 'hwkeep.FadeSame': WHATEVER THE INPUT: true; the input reads as it did. -/
def fadeSameSpec : ChangeSpec := { name := "fadeSame", fn := fun _ => fun
  | [d1, d2, d3, d4, d5] => { results := [.lit (.bool true)], args := [d1, d2, d3, d4, d5] }
  | _ => none }
def fadeSameRow : OpenClaim := { program := "ytamncanlbopehaa", sum := "826e6c3c0b786a0552aaca8f51233c3033f07a61e2032f577f06fd92c05486c6", func := "heartwood/hwkeep.FadeSame", spec := "fadeSame", unfollowed := true, recurses := true, apart := false }
def FadeSameSaid : Prop := fadeSameRow.holds Try.pinned (OpenSpec.ofChange fadeSameSpec)

/-- ITS FALSE NEIGHBOUR: 'it returns false'. Refute it at one input. -/
def fadeSameWrong : ChangeSpec := { name := "fadeSame", fn := fun _ => fun
  | [d1, d2, d3, d4, d5] => { results := [.lit (.bool false)], args := [d1, d2, d3, d4, d5] }
  | _ => none }
def FadeSameWrongFalsely : Prop := fadeSameRow.holds Try.pinned (OpenSpec.ofChange fadeSameWrong)

/- THE SECOND FORM. 'bulk': how many values and letters a reading holds, each counted each time it is reached (what is shared counts as often as it is met; a slice's spare places count too). A statement '..UptoSaid' is the law's where the arguments, and the package variables that the reading takes, are together of bulk at most 1048576: NARROWER than '..Said'. Prove '..Said' where nothing that the law and all that it calls make is longer than what came in: it says more and counts as full. Else prove '..UptoSaid'. A law counts once. -/
mutual
def uptoBulk {H : Type} : DataW H → Nat
  | .lit (.string bytes) => bytes.length + 1
  | .lit _ => 1
  | .nil => 1
  | .ptr d => uptoBulk d + 1
  | .slice elems spare => uptoBulkAll elems + uptoBulkAll spare + 1
  | .agg parts => uptoBulkAll parts + 1
  | .iface _ d => uptoBulk d + 1
  | .map entries => uptoBulkEntries entries + 1
  | .held _ => 1
def uptoBulkAll {H : Type} : List (DataW H) → Nat
  | [] => 0
  | d :: r => uptoBulk d + uptoBulkAll r
def uptoBulkEntries {H : Type} : List (Lit × DataW H) → Nat
  | [] => 0
  | x :: r => uptoBulkEntry x + uptoBulkEntries r
def uptoBulkEntry {H : Type} : Lit × DataW H → Nat
  | (.string bytes, d) => bytes.length + uptoBulk d + 1
  | (_, d) => uptoBulk d + 1
 end
def uptoSmall : (H : Type) → List (DataW H) → Bool := fun _ ds => decide (uptoBulkAll ds ≤ 1048576)
def OpenSpec.upto (s : _root_.Go.ChangeSpec) : _root_.Go.OpenSpec := { _root_.Go.OpenSpec.ofChange s with cond := some uptoSmall }

/-- 'hwkeep.GateOnce', WHERE WHAT IT READS IS OF BULK AT MOST 1048576: true; the input reads as it did. -/
def gateOnceUptoRow : OpenClaim := { program := "ytamncanlbopehaa", sum := "826e6c3c0b786a0552aaca8f51233c3033f07a61e2032f577f06fd92c05486c6", func := "heartwood/hwkeep.GateOnce", spec := "gateOnce", apart := false, narrowed := true }
def GateOnceUptoSaid : Prop := gateOnceUptoRow.holds Try.pinned (OpenSpec.upto gateOnceSpec)

/-- 'hwkeep.CrcLinear', WHERE WHAT IT READS IS OF BULK AT MOST 1048576: true; the input reads as it did. -/
def crcLinearUptoRow : OpenClaim := { program := "ytamncanlbopehaa", sum := "826e6c3c0b786a0552aaca8f51233c3033f07a61e2032f577f06fd92c05486c6", func := "heartwood/hwkeep.CrcLinear", spec := "crcLinear", apart := false, narrowed := true }
def CrcLinearUptoSaid : Prop := crcLinearUptoRow.holds Try.pinned (OpenSpec.upto crcLinearSpec)

/-- 'hwkeep.CrcBursts', WHERE WHAT IT READS IS OF BULK AT MOST 1048576: true; the input reads as it did. -/
def crcBurstsUptoRow : OpenClaim := { program := "ytamncanlbopehaa", sum := "826e6c3c0b786a0552aaca8f51233c3033f07a61e2032f577f06fd92c05486c6", func := "heartwood/hwkeep.CrcBursts", spec := "crcBursts", apart := false, narrowed := true }
def CrcBurstsUptoSaid : Prop := crcBurstsUptoRow.holds Try.pinned (OpenSpec.upto crcBurstsSpec)

/-- 'hwkeep.VoteMost', WHERE WHAT IT READS IS OF BULK AT MOST 1048576: true; the input reads as it did. -/
def voteMostUptoRow : OpenClaim := { program := "ytamncanlbopehaa", sum := "826e6c3c0b786a0552aaca8f51233c3033f07a61e2032f577f06fd92c05486c6", func := "heartwood/hwkeep.VoteMost", spec := "voteMost", unfollowed := true, recurses := true, apart := false, narrowed := true }
def VoteMostUptoSaid : Prop := voteMostUptoRow.holds Try.pinned (OpenSpec.upto voteMostSpec)

/-- 'hwkeep.MarksAll', WHERE WHAT IT READS IS OF BULK AT MOST 1048576: true; the input reads as it did. -/
def marksAllUptoRow : OpenClaim := { program := "ytamncanlbopehaa", sum := "826e6c3c0b786a0552aaca8f51233c3033f07a61e2032f577f06fd92c05486c6", func := "heartwood/hwkeep.MarksAll", spec := "marksAll", apart := false, narrowed := true }
def MarksAllUptoSaid : Prop := marksAllUptoRow.holds Try.pinned (OpenSpec.upto marksAllSpec)

/-- 'hwkeep.MarksJoin', WHERE WHAT IT READS IS OF BULK AT MOST 1048576: true; the input reads as it did. -/
def marksJoinUptoRow : OpenClaim := { program := "ytamncanlbopehaa", sum := "826e6c3c0b786a0552aaca8f51233c3033f07a61e2032f577f06fd92c05486c6", func := "heartwood/hwkeep.MarksJoin", spec := "marksJoin", apart := false, narrowed := true }
def MarksJoinUptoSaid : Prop := marksJoinUptoRow.holds Try.pinned (OpenSpec.upto marksJoinSpec)

/-- 'hwkeep.MarksTicks', WHERE WHAT IT READS IS OF BULK AT MOST 1048576: true; the input reads as it did. -/
def marksTicksUptoRow : OpenClaim := { program := "ytamncanlbopehaa", sum := "826e6c3c0b786a0552aaca8f51233c3033f07a61e2032f577f06fd92c05486c6", func := "heartwood/hwkeep.MarksTicks", spec := "marksTicks", apart := false, narrowed := true }
def MarksTicksUptoSaid : Prop := marksTicksUptoRow.holds Try.pinned (OpenSpec.upto marksTicksSpec)

/-- 'hwkeep.MarksLonger', WHERE WHAT IT READS IS OF BULK AT MOST 1048576: true; the input reads as it did. -/
def marksLongerUptoRow : OpenClaim := { program := "ytamncanlbopehaa", sum := "826e6c3c0b786a0552aaca8f51233c3033f07a61e2032f577f06fd92c05486c6", func := "heartwood/hwkeep.MarksLonger", spec := "marksLonger", apart := false, narrowed := true }
def MarksLongerUptoSaid : Prop := marksLongerUptoRow.holds Try.pinned (OpenSpec.upto marksLongerSpec)

/-- 'hwkeep.WinLast', WHERE WHAT IT READS IS OF BULK AT MOST 1048576: true; the input reads as it did. -/
def winLastUptoRow : OpenClaim := { program := "ytamncanlbopehaa", sum := "826e6c3c0b786a0552aaca8f51233c3033f07a61e2032f577f06fd92c05486c6", func := "heartwood/hwkeep.WinLast", spec := "winLast", unfollowed := true, recurses := true, apart := false, narrowed := true }
def WinLastUptoSaid : Prop := winLastUptoRow.holds Try.pinned (OpenSpec.upto winLastSpec)

/-- 'hwkeep.BeatSize', WHERE WHAT IT READS IS OF BULK AT MOST 1048576: true; the input reads as it did. -/
def beatSizeUptoRow : OpenClaim := { program := "ytamncanlbopehaa", sum := "826e6c3c0b786a0552aaca8f51233c3033f07a61e2032f577f06fd92c05486c6", func := "heartwood/hwkeep.BeatSize", spec := "beatSize", apart := false, narrowed := true }
def BeatSizeUptoSaid : Prop := beatSizeUptoRow.holds Try.pinned (OpenSpec.upto beatSizeSpec)

/-- 'hwkeep.BeatBack', WHERE WHAT IT READS IS OF BULK AT MOST 1048576: true; the input reads as it did. -/
def beatBackUptoRow : OpenClaim := { program := "ytamncanlbopehaa", sum := "826e6c3c0b786a0552aaca8f51233c3033f07a61e2032f577f06fd92c05486c6", func := "heartwood/hwkeep.BeatBack", spec := "beatBack", apart := false, narrowed := true }
def BeatBackUptoSaid : Prop := beatBackUptoRow.holds Try.pinned (OpenSpec.upto beatBackSpec)

/-- 'hwkeep.BeatOne', WHERE WHAT IT READS IS OF BULK AT MOST 1048576: true; the input reads as it did. -/
def beatOneUptoRow : OpenClaim := { program := "ytamncanlbopehaa", sum := "826e6c3c0b786a0552aaca8f51233c3033f07a61e2032f577f06fd92c05486c6", func := "heartwood/hwkeep.BeatOne", spec := "beatOne", apart := false, narrowed := true }
def BeatOneUptoSaid : Prop := beatOneUptoRow.holds Try.pinned (OpenSpec.upto beatOneSpec)

/-- 'hwkeep.BeatBursts', WHERE WHAT IT READS IS OF BULK AT MOST 1048576: true; the input reads as it did. -/
def beatBurstsUptoRow : OpenClaim := { program := "ytamncanlbopehaa", sum := "826e6c3c0b786a0552aaca8f51233c3033f07a61e2032f577f06fd92c05486c6", func := "heartwood/hwkeep.BeatBursts", spec := "beatBursts", apart := false, narrowed := true }
def BeatBurstsUptoSaid : Prop := beatBurstsUptoRow.holds Try.pinned (OpenSpec.upto beatBurstsSpec)

/-- 'hwkeep.HistGrows', WHERE WHAT IT READS IS OF BULK AT MOST 1048576: true; the input reads as it did. -/
def histGrowsUptoRow : OpenClaim := { program := "ytamncanlbopehaa", sum := "826e6c3c0b786a0552aaca8f51233c3033f07a61e2032f577f06fd92c05486c6", func := "heartwood/hwkeep.HistGrows", spec := "histGrows", apart := false, narrowed := true }
def HistGrowsUptoSaid : Prop := histGrowsUptoRow.holds Try.pinned (OpenSpec.upto histGrowsSpec)

/-- 'hwkeep.FadeSame', WHERE WHAT IT READS IS OF BULK AT MOST 1048576: true; the input reads as it did. -/
def fadeSameUptoRow : OpenClaim := { program := "ytamncanlbopehaa", sum := "826e6c3c0b786a0552aaca8f51233c3033f07a61e2032f577f06fd92c05486c6", func := "heartwood/hwkeep.FadeSame", spec := "fadeSame", unfollowed := true, recurses := true, apart := false, narrowed := true }
def FadeSameUptoSaid : Prop := fadeSameUptoRow.holds Try.pinned (OpenSpec.upto fadeSameSpec)

end Rows
end Go.Proofs.Ytamncanlbopehaa
