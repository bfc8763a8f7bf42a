/-
  No cell of these rows narrows 'for every input' (looked for: loops, veiled, ifaces, maps, wideKeys, modest, calm, conditions, laid).
  DERIVED. THE GIVEN ROWS OF THIS SEAT. 19 by the template 'for every input the law returns true; each argument reads behind the call as it read before'; 0 by the template 'total and deterministic' (their statements: YtpcgccmkmolkoaaTotals.lean).
  GIVEN WITH THE SEED: the statements are not yours to turn. If you find one false, say at which input.
  Laid BY PROGRAM, IN A SANDBOX (cutbox-rows.mjs): the forced cells as the released guide's own fill.sh prints them over the translation bdfc43431a492a60… (all of the seat's roots in one cut). By AI agents, Wed Nov 11 2026. No macro, syntax, notation, axiom, sorry.
-/
import Derived.Test.YtpcgccmkmolkoaaChecked
import GoSem.Claim
import GoSem.ClaimJoined
import GoSem.ClaimMapViews
import Derived.JoinedTies
import Derived.KernelRfl
namespace Go.Proofs.Ytpcgccmkmolkoaa
/- THE CELL 'sum', in the pinned program and in every row, IS THE sha256 OF THE DUMP (.gsa) THAT YtpcgccmkmolkoaaProg.lean LOADS. Nothing in Lean hashes anything: it is a label: what it is worth is what the hold of that sum in a sandbox is worth. -/
noncomputable def Try.pinned : Pinned := { name := "ytpcgccmkmolkoaa", sum := "bdfc43431a492a609e05b9168c01bd747f19c271469ffd1a1d65c89b988c6fb3", checked := Try.checked }
namespace Rows
def none {H : Type} : Left H := { results := [], args := [] }

/-- 'hwkeep.FadeNearer': WHATEVER THE INPUT: true; the input reads as it did. -/
def fadeNearerSpec : ChangeSpec := { name := "fadeNearer", fn := fun _ => fun
  | [d1, d2, d3, d4, d5] => { results := [.lit (.bool true)], args := [d1, d2, d3, d4, d5] }
  | _ => none }
def fadeNearerRow : OpenClaim := { program := "ytpcgccmkmolkoaa", sum := "bdfc43431a492a609e05b9168c01bd747f19c271469ffd1a1d65c89b988c6fb3", func := "heartwood/hwkeep.FadeNearer", spec := "fadeNearer", apart := false }
def FadeNearerSaid : Prop := fadeNearerRow.holds Try.pinned (OpenSpec.ofChange fadeNearerSpec)

/-- ITS FALSE NEIGHBOUR: 'it returns false'. Refute it at one input. -/
def fadeNearerWrong : ChangeSpec := { name := "fadeNearer", fn := fun _ => fun
  | [d1, d2, d3, d4, d5] => { results := [.lit (.bool false)], args := [d1, d2, d3, d4, d5] }
  | _ => none }
def FadeNearerWrongFalsely : Prop := fadeNearerRow.holds Try.pinned (OpenSpec.ofChange fadeNearerWrong)

/-- 'hwkeep.GateOnce': WHATEVER THE INPUT: true; the input reads as it did. -/
def gateOnceSpec : ChangeSpec := { name := "gateOnce", fn := fun _ => fun
  | [d] => { results := [.lit (.bool true)], args := [d] }
  | _ => none }
def gateOnceRow : OpenClaim := { program := "ytpcgccmkmolkoaa", sum := "bdfc43431a492a609e05b9168c01bd747f19c271469ffd1a1d65c89b988c6fb3", func := "heartwood/hwkeep.GateOnce", spec := "gateOnce", apart := false }
def GateOnceSaid : Prop := gateOnceRow.holds Try.pinned (OpenSpec.ofChange gateOnceSpec)

/-- ITS FALSE NEIGHBOUR: 'it returns false'. Refute it at one input. -/
def gateOnceWrong : ChangeSpec := { name := "gateOnce", fn := fun _ => fun
  | [d] => { results := [.lit (.bool false)], args := [d] }
  | _ => none }
def GateOnceWrongFalsely : Prop := gateOnceRow.holds Try.pinned (OpenSpec.ofChange gateOnceWrong)

/-- 'hwkeep.GateRaise': WHATEVER THE INPUT: true; the input reads as it did. -/
def gateRaiseSpec : ChangeSpec := { name := "gateRaise", fn := fun _ => fun
  | [d1, d2, d3] => { results := [.lit (.bool true)], args := [d1, d2, d3] }
  | _ => none }
def gateRaiseRow : OpenClaim := { program := "ytpcgccmkmolkoaa", sum := "bdfc43431a492a609e05b9168c01bd747f19c271469ffd1a1d65c89b988c6fb3", func := "heartwood/hwkeep.GateRaise", spec := "gateRaise", apart := false }
def GateRaiseSaid : Prop := gateRaiseRow.holds Try.pinned (OpenSpec.ofChange gateRaiseSpec)

/-- ITS FALSE NEIGHBOUR: 'it returns false'. Refute it at one input. -/
def gateRaiseWrong : ChangeSpec := { name := "gateRaise", fn := fun _ => fun
  | [d1, d2, d3] => { results := [.lit (.bool false)], args := [d1, d2, d3] }
  | _ => none }
def GateRaiseWrongFalsely : Prop := gateRaiseRow.holds Try.pinned (OpenSpec.ofChange gateRaiseWrong)

/-- 'hwkeep.CrcLinear': WHATEVER THE INPUT: true; the input reads as it did. -/
def crcLinearSpec : ChangeSpec := { name := "crcLinear", fn := fun _ => fun
  | [d1, d2, d3] => { results := [.lit (.bool true)], args := [d1, d2, d3] }
  | _ => none }
def crcLinearRow : OpenClaim := { program := "ytpcgccmkmolkoaa", sum := "bdfc43431a492a609e05b9168c01bd747f19c271469ffd1a1d65c89b988c6fb3", func := "heartwood/hwkeep.CrcLinear", spec := "crcLinear", apart := false }
def CrcLinearSaid : Prop := crcLinearRow.holds Try.pinned (OpenSpec.ofChange crcLinearSpec)

/-- ITS FALSE NEIGHBOUR: 'it returns false'. Refute it at one input. -/
def crcLinearWrong : ChangeSpec := { name := "crcLinear", fn := fun _ => fun
  | [d1, d2, d3] => { results := [.lit (.bool false)], args := [d1, d2, d3] }
  | _ => none }
def CrcLinearWrongFalsely : Prop := crcLinearRow.holds Try.pinned (OpenSpec.ofChange crcLinearWrong)

/-- 'hwkeep.CrcBursts': WHATEVER THE INPUT: true; the input reads as it did. -/
def crcBurstsSpec : ChangeSpec := { name := "crcBursts", fn := fun _ => fun
  | [d1, d2, d3] => { results := [.lit (.bool true)], args := [d1, d2, d3] }
  | _ => none }
def crcBurstsRow : OpenClaim := { program := "ytpcgccmkmolkoaa", sum := "bdfc43431a492a609e05b9168c01bd747f19c271469ffd1a1d65c89b988c6fb3", func := "heartwood/hwkeep.CrcBursts", spec := "crcBursts", apart := false }
def CrcBurstsSaid : Prop := crcBurstsRow.holds Try.pinned (OpenSpec.ofChange crcBurstsSpec)

/-- ITS FALSE NEIGHBOUR: 'it returns false'. Refute it at one input. -/
def crcBurstsWrong : ChangeSpec := { name := "crcBursts", fn := fun _ => fun
  | [d1, d2, d3] => { results := [.lit (.bool false)], args := [d1, d2, d3] }
  | _ => none }
def CrcBurstsWrongFalsely : Prop := crcBurstsRow.holds Try.pinned (OpenSpec.ofChange crcBurstsWrong)

/-- 'hwkeep.ChenExact': WHATEVER THE INPUT: true; the input reads as it did. -/
def chenExactSpec : ChangeSpec := { name := "chenExact", fn := fun _ => fun
  | [d1, d2, d3, d4, d5] => { results := [.lit (.bool true)], args := [d1, d2, d3, d4, d5] }
  | _ => none }
def chenExactRow : OpenClaim := { program := "ytpcgccmkmolkoaa", sum := "bdfc43431a492a609e05b9168c01bd747f19c271469ffd1a1d65c89b988c6fb3", func := "heartwood/hwkeep.ChenExact", spec := "chenExact", apart := false }
def ChenExactSaid : Prop := chenExactRow.holds Try.pinned (OpenSpec.ofChange chenExactSpec)

/-- ITS FALSE NEIGHBOUR: 'it returns false'. Refute it at one input. -/
def chenExactWrong : ChangeSpec := { name := "chenExact", fn := fun _ => fun
  | [d1, d2, d3, d4, d5] => { results := [.lit (.bool false)], args := [d1, d2, d3, d4, d5] }
  | _ => none }
def ChenExactWrongFalsely : Prop := chenExactRow.holds Try.pinned (OpenSpec.ofChange chenExactWrong)

/-- 'hwkeep.ChenBetween': WHATEVER THE INPUT: true; the input reads as it did. -/
def chenBetweenSpec : ChangeSpec := { name := "chenBetween", fn := fun _ => fun
  | [d1, d2, d3] => { results := [.lit (.bool true)], args := [d1, d2, d3] }
  | _ => none }
def chenBetweenRow : OpenClaim := { program := "ytpcgccmkmolkoaa", sum := "bdfc43431a492a609e05b9168c01bd747f19c271469ffd1a1d65c89b988c6fb3", func := "heartwood/hwkeep.ChenBetween", spec := "chenBetween", apart := false }
def ChenBetweenSaid : Prop := chenBetweenRow.holds Try.pinned (OpenSpec.ofChange chenBetweenSpec)

/-- ITS FALSE NEIGHBOUR: 'it returns false'. Refute it at one input. -/
def chenBetweenWrong : ChangeSpec := { name := "chenBetween", fn := fun _ => fun
  | [d1, d2, d3] => { results := [.lit (.bool false)], args := [d1, d2, d3] }
  | _ => none }
def ChenBetweenWrongFalsely : Prop := chenBetweenRow.holds Try.pinned (OpenSpec.ofChange chenBetweenWrong)

/-- 'hwkeep.MarksAll': WHATEVER THE INPUT: true; the input reads as it did. -/
def marksAllSpec : ChangeSpec := { name := "marksAll", fn := fun _ => fun
  | [d1, d2] => { results := [.lit (.bool true)], args := [d1, d2] }
  | _ => none }
def marksAllRow : OpenClaim := { program := "ytpcgccmkmolkoaa", sum := "bdfc43431a492a609e05b9168c01bd747f19c271469ffd1a1d65c89b988c6fb3", func := "heartwood/hwkeep.MarksAll", spec := "marksAll", apart := false }
def MarksAllSaid : Prop := marksAllRow.holds Try.pinned (OpenSpec.ofChange marksAllSpec)

/-- ITS FALSE NEIGHBOUR: 'it returns false'. Refute it at one input. -/
def marksAllWrong : ChangeSpec := { name := "marksAll", fn := fun _ => fun
  | [d1, d2] => { results := [.lit (.bool false)], args := [d1, d2] }
  | _ => none }
def MarksAllWrongFalsely : Prop := marksAllRow.holds Try.pinned (OpenSpec.ofChange marksAllWrong)

/-- 'hwkeep.MarksJoin': WHATEVER THE INPUT: true; the input reads as it did. -/
def marksJoinSpec : ChangeSpec := { name := "marksJoin", fn := fun _ => fun
  | [d1, d2, d3] => { results := [.lit (.bool true)], args := [d1, d2, d3] }
  | _ => none }
def marksJoinRow : OpenClaim := { program := "ytpcgccmkmolkoaa", sum := "bdfc43431a492a609e05b9168c01bd747f19c271469ffd1a1d65c89b988c6fb3", func := "heartwood/hwkeep.MarksJoin", spec := "marksJoin", apart := false }
def MarksJoinSaid : Prop := marksJoinRow.holds Try.pinned (OpenSpec.ofChange marksJoinSpec)

/-- ITS FALSE NEIGHBOUR: 'it returns false'. Refute it at one input. -/
def marksJoinWrong : ChangeSpec := { name := "marksJoin", fn := fun _ => fun
  | [d1, d2, d3] => { results := [.lit (.bool false)], args := [d1, d2, d3] }
  | _ => none }
def MarksJoinWrongFalsely : Prop := marksJoinRow.holds Try.pinned (OpenSpec.ofChange marksJoinWrong)

/-- 'hwkeep.MarksTicks': WHATEVER THE INPUT: true; the input reads as it did. -/
def marksTicksSpec : ChangeSpec := { name := "marksTicks", fn := fun _ => fun
  | [d1, d2] => { results := [.lit (.bool true)], args := [d1, d2] }
  | _ => none }
def marksTicksRow : OpenClaim := { program := "ytpcgccmkmolkoaa", sum := "bdfc43431a492a609e05b9168c01bd747f19c271469ffd1a1d65c89b988c6fb3", func := "heartwood/hwkeep.MarksTicks", spec := "marksTicks", apart := false }
def MarksTicksSaid : Prop := marksTicksRow.holds Try.pinned (OpenSpec.ofChange marksTicksSpec)

/-- ITS FALSE NEIGHBOUR: 'it returns false'. Refute it at one input. -/
def marksTicksWrong : ChangeSpec := { name := "marksTicks", fn := fun _ => fun
  | [d1, d2] => { results := [.lit (.bool false)], args := [d1, d2] }
  | _ => none }
def MarksTicksWrongFalsely : Prop := marksTicksRow.holds Try.pinned (OpenSpec.ofChange marksTicksWrong)

/-- 'hwkeep.MarksLonger': WHATEVER THE INPUT: true; the input reads as it did. -/
def marksLongerSpec : ChangeSpec := { name := "marksLonger", fn := fun _ => fun
  | [d1, d2] => { results := [.lit (.bool true)], args := [d1, d2] }
  | _ => none }
def marksLongerRow : OpenClaim := { program := "ytpcgccmkmolkoaa", sum := "bdfc43431a492a609e05b9168c01bd747f19c271469ffd1a1d65c89b988c6fb3", func := "heartwood/hwkeep.MarksLonger", spec := "marksLonger", apart := false }
def MarksLongerSaid : Prop := marksLongerRow.holds Try.pinned (OpenSpec.ofChange marksLongerSpec)

/-- ITS FALSE NEIGHBOUR: 'it returns false'. Refute it at one input. -/
def marksLongerWrong : ChangeSpec := { name := "marksLonger", fn := fun _ => fun
  | [d1, d2] => { results := [.lit (.bool false)], args := [d1, d2] }
  | _ => none }
def MarksLongerWrongFalsely : Prop := marksLongerRow.holds Try.pinned (OpenSpec.ofChange marksLongerWrong)

/-- 'hwkeep.LateIs': WHATEVER THE INPUT: true; the input reads as it did. -/
def lateIsSpec : ChangeSpec := { name := "lateIs", fn := fun _ => fun
  | [d1, d2, d3, d4] => { results := [.lit (.bool true)], args := [d1, d2, d3, d4] }
  | _ => none }
def lateIsRow : OpenClaim := { program := "ytpcgccmkmolkoaa", sum := "bdfc43431a492a609e05b9168c01bd747f19c271469ffd1a1d65c89b988c6fb3", func := "heartwood/hwkeep.LateIs", spec := "lateIs", unfollowed := true, recurses := true, apart := false }
def LateIsSaid : Prop := lateIsRow.holds Try.pinned (OpenSpec.ofChange lateIsSpec)

/-- ITS FALSE NEIGHBOUR: 'it returns false'. Refute it at one input. -/
def lateIsWrong : ChangeSpec := { name := "lateIs", fn := fun _ => fun
  | [d1, d2, d3, d4] => { results := [.lit (.bool false)], args := [d1, d2, d3, d4] }
  | _ => none }
def LateIsWrongFalsely : Prop := lateIsRow.holds Try.pinned (OpenSpec.ofChange lateIsWrong)

/-- 'hwkeep.WinLast': WHATEVER THE INPUT: true; the input reads as it did. -/
def winLastSpec : ChangeSpec := { name := "winLast", fn := fun _ => fun
  | [d1, d2] => { results := [.lit (.bool true)], args := [d1, d2] }
  | _ => none }
def winLastRow : OpenClaim := { program := "ytpcgccmkmolkoaa", sum := "bdfc43431a492a609e05b9168c01bd747f19c271469ffd1a1d65c89b988c6fb3", func := "heartwood/hwkeep.WinLast", spec := "winLast", unfollowed := true, recurses := true, apart := false }
def WinLastSaid : Prop := winLastRow.holds Try.pinned (OpenSpec.ofChange winLastSpec)

/-- ITS FALSE NEIGHBOUR: 'it returns false'. Refute it at one input. -/
def winLastWrong : ChangeSpec := { name := "winLast", fn := fun _ => fun
  | [d1, d2] => { results := [.lit (.bool false)], args := [d1, d2] }
  | _ => none }
def WinLastWrongFalsely : Prop := winLastRow.holds Try.pinned (OpenSpec.ofChange winLastWrong)

/-- 'hwkeep.BeatSize': WHATEVER THE INPUT: true; the input reads as it did. -/
def beatSizeSpec : ChangeSpec := { name := "beatSize", fn := fun _ => fun
  | [d1, d2] => { results := [.lit (.bool true)], args := [d1, d2] }
  | _ => none }
def beatSizeRow : OpenClaim := { program := "ytpcgccmkmolkoaa", sum := "bdfc43431a492a609e05b9168c01bd747f19c271469ffd1a1d65c89b988c6fb3", func := "heartwood/hwkeep.BeatSize", spec := "beatSize", apart := false }
def BeatSizeSaid : Prop := beatSizeRow.holds Try.pinned (OpenSpec.ofChange beatSizeSpec)

/-- ITS FALSE NEIGHBOUR: 'it returns false'. Refute it at one input. -/
def beatSizeWrong : ChangeSpec := { name := "beatSize", fn := fun _ => fun
  | [d1, d2] => { results := [.lit (.bool false)], args := [d1, d2] }
  | _ => none }
def BeatSizeWrongFalsely : Prop := beatSizeRow.holds Try.pinned (OpenSpec.ofChange beatSizeWrong)

/-- 'hwkeep.FadeBetween': WHATEVER THE INPUT: true; the input reads as it did. -/
def fadeBetweenSpec : ChangeSpec := { name := "fadeBetween", fn := fun _ => fun
  | [d1, d2, d3, d4] => { results := [.lit (.bool true)], args := [d1, d2, d3, d4] }
  | _ => none }
def fadeBetweenRow : OpenClaim := { program := "ytpcgccmkmolkoaa", sum := "bdfc43431a492a609e05b9168c01bd747f19c271469ffd1a1d65c89b988c6fb3", func := "heartwood/hwkeep.FadeBetween", spec := "fadeBetween", unfollowed := true, recurses := true, apart := false }
def FadeBetweenSaid : Prop := fadeBetweenRow.holds Try.pinned (OpenSpec.ofChange fadeBetweenSpec)

/-- ITS FALSE NEIGHBOUR: 'it returns false'. Refute it at one input. -/
def fadeBetweenWrong : ChangeSpec := { name := "fadeBetween", fn := fun _ => fun
  | [d1, d2, d3, d4] => { results := [.lit (.bool false)], args := [d1, d2, d3, d4] }
  | _ => none }
def FadeBetweenWrongFalsely : Prop := fadeBetweenRow.holds Try.pinned (OpenSpec.ofChange fadeBetweenWrong)

/-- 'hwkeep.BeatBack': WHATEVER THE INPUT: true; the input reads as it did. -/
def beatBackSpec : ChangeSpec := { name := "beatBack", fn := fun _ => fun
  | [d1, d2, d3, d4] => { results := [.lit (.bool true)], args := [d1, d2, d3, d4] }
  | _ => none }
def beatBackRow : OpenClaim := { program := "ytpcgccmkmolkoaa", sum := "bdfc43431a492a609e05b9168c01bd747f19c271469ffd1a1d65c89b988c6fb3", func := "heartwood/hwkeep.BeatBack", spec := "beatBack", apart := false }
def BeatBackSaid : Prop := beatBackRow.holds Try.pinned (OpenSpec.ofChange beatBackSpec)

/-- ITS FALSE NEIGHBOUR: 'it returns false'. Refute it at one input. -/
def beatBackWrong : ChangeSpec := { name := "beatBack", fn := fun _ => fun
  | [d1, d2, d3, d4] => { results := [.lit (.bool false)], args := [d1, d2, d3, d4] }
  | _ => none }
def BeatBackWrongFalsely : Prop := beatBackRow.holds Try.pinned (OpenSpec.ofChange beatBackWrong)

/-- 'hwkeep.BeatOne': WHATEVER THE INPUT: true; the input reads as it did. -/
def beatOneSpec : ChangeSpec := { name := "beatOne", fn := fun _ => fun
  | [d] => { results := [.lit (.bool true)], args := [d] }
  | _ => none }
def beatOneRow : OpenClaim := { program := "ytpcgccmkmolkoaa", sum := "bdfc43431a492a609e05b9168c01bd747f19c271469ffd1a1d65c89b988c6fb3", func := "heartwood/hwkeep.BeatOne", spec := "beatOne", apart := false }
def BeatOneSaid : Prop := beatOneRow.holds Try.pinned (OpenSpec.ofChange beatOneSpec)

/-- ITS FALSE NEIGHBOUR: 'it returns false'. Refute it at one input. -/
def beatOneWrong : ChangeSpec := { name := "beatOne", fn := fun _ => fun
  | [d] => { results := [.lit (.bool false)], args := [d] }
  | _ => none }
def BeatOneWrongFalsely : Prop := beatOneRow.holds Try.pinned (OpenSpec.ofChange beatOneWrong)

/-- 'hwkeep.BeatBursts': WHATEVER THE INPUT: true; the input reads as it did. -/
def beatBurstsSpec : ChangeSpec := { name := "beatBursts", fn := fun _ => fun
  | [d1, d2, d3] => { results := [.lit (.bool true)], args := [d1, d2, d3] }
  | _ => none }
def beatBurstsRow : OpenClaim := { program := "ytpcgccmkmolkoaa", sum := "bdfc43431a492a609e05b9168c01bd747f19c271469ffd1a1d65c89b988c6fb3", func := "heartwood/hwkeep.BeatBursts", spec := "beatBursts", apart := false }
def BeatBurstsSaid : Prop := beatBurstsRow.holds Try.pinned (OpenSpec.ofChange beatBurstsSpec)

/-- ITS FALSE NEIGHBOUR: 'it returns false'. Refute it at one input. -/
def beatBurstsWrong : ChangeSpec := { name := "beatBursts", fn := fun _ => fun
  | [d1, d2, d3] => { results := [.lit (.bool false)], args := [d1, d2, d3] }
  | _ => none }
def BeatBurstsWrongFalsely : Prop := beatBurstsRow.holds Try.pinned (OpenSpec.ofChange beatBurstsWrong)

/-- 'hwkeep.FadeSame': WHATEVER THE INPUT: true; the input reads as it did. -/
def fadeSameSpec : ChangeSpec := { name := "fadeSame", fn := fun _ => fun
  | [d1, d2, d3, d4, d5] => { results := [.lit (.bool true)], args := [d1, d2, d3, d4, d5] }
  | _ => none }
def fadeSameRow : OpenClaim := { program := "ytpcgccmkmolkoaa", sum := "bdfc43431a492a609e05b9168c01bd747f19c271469ffd1a1d65c89b988c6fb3", func := "heartwood/hwkeep.FadeSame", spec := "fadeSame", unfollowed := true, recurses := true, apart := false }
def FadeSameSaid : Prop := fadeSameRow.holds Try.pinned (OpenSpec.ofChange fadeSameSpec)

/-- ITS FALSE NEIGHBOUR: 'it returns false'. Refute it at one input. -/
def fadeSameWrong : ChangeSpec := { name := "fadeSame", fn := fun _ => fun
  | [d1, d2, d3, d4, d5] => { results := [.lit (.bool false)], args := [d1, d2, d3, d4, d5] }
  | _ => none }
def FadeSameWrongFalsely : Prop := fadeSameRow.holds Try.pinned (OpenSpec.ofChange fadeSameWrong)

/- THE SECOND FORM. 'bulk': how many values and letters a reading holds, each counted each time it is reached (what is shared counts as often as it is met; a slice's spare places count too). A statement '..UptoSaid' is the law's where the arguments, and the package variables that the reading takes, are together of bulk at most 1048576: NARROWER than '..Said'. Prove '..Said' where nothing that the law and all that it calls make is longer than what came in: it says more and counts as full. Else prove '..UptoSaid'. A law counts once. -/
mutual
def uptoBulk {H : Type} : DataW H → Nat
  | .lit (.string bytes) => bytes.length + 1
  | .lit _ => 1
  | .nil => 1
  | .ptr d => uptoBulk d + 1
  | .slice elems spare => uptoBulkAll elems + uptoBulkAll spare + 1
  | .agg parts => uptoBulkAll parts + 1
  | .iface _ d => uptoBulk d + 1
  | .map entries => uptoBulkEntries entries + 1
  | .held _ => 1
def uptoBulkAll {H : Type} : List (DataW H) → Nat
  | [] => 0
  | d :: r => uptoBulk d + uptoBulkAll r
def uptoBulkEntries {H : Type} : List (Lit × DataW H) → Nat
  | [] => 0
  | x :: r => uptoBulkEntry x + uptoBulkEntries r
def uptoBulkEntry {H : Type} : Lit × DataW H → Nat
  | (.string bytes, d) => bytes.length + uptoBulk d + 1
  | (_, d) => uptoBulk d + 1
 end
def uptoSmall : (H : Type) → List (DataW H) → Bool := fun _ ds => decide (uptoBulkAll ds ≤ 1048576)
def OpenSpec.upto (s : _root_.Go.ChangeSpec) : _root_.Go.OpenSpec := { _root_.Go.OpenSpec.ofChange s with cond := some uptoSmall }

/-- 'hwkeep.FadeNearer', WHERE WHAT IT READS IS OF BULK AT MOST 1048576: true; the input reads as it did. -/
def fadeNearerUptoRow : OpenClaim := { program := "ytpcgccmkmolkoaa", sum := "bdfc43431a492a609e05b9168c01bd747f19c271469ffd1a1d65c89b988c6fb3", func := "heartwood/hwkeep.FadeNearer", spec := "fadeNearer", apart := false, narrowed := true }
def FadeNearerUptoSaid : Prop := fadeNearerUptoRow.holds Try.pinned (OpenSpec.upto fadeNearerSpec)

/-- 'hwkeep.GateOnce', WHERE WHAT IT READS IS OF BULK AT MOST 1048576: true; the input reads as it did. -/
def gateOnceUptoRow : OpenClaim := { program := "ytpcgccmkmolkoaa", sum := "bdfc43431a492a609e05b9168c01bd747f19c271469ffd1a1d65c89b988c6fb3", func := "heartwood/hwkeep.GateOnce", spec := "gateOnce", apart := false, narrowed := true }
def GateOnceUptoSaid : Prop := gateOnceUptoRow.holds Try.pinned (OpenSpec.upto gateOnceSpec)

/-- 'hwkeep.GateRaise', WHERE WHAT IT READS IS OF BULK AT MOST 1048576: true; the input reads as it did. -/
def gateRaiseUptoRow : OpenClaim := { program := "ytpcgccmkmolkoaa", sum := "bdfc43431a492a609e05b9168c01bd747f19c271469ffd1a1d65c89b988c6fb3", func := "heartwood/hwkeep.GateRaise", spec := "gateRaise", apart := false, narrowed := true }
def GateRaiseUptoSaid : Prop := gateRaiseUptoRow.holds Try.pinned (OpenSpec.upto gateRaiseSpec)

/-- 'hwkeep.CrcLinear', WHERE WHAT IT READS IS OF BULK AT MOST 1048576: true; the input reads as it did. -/
def crcLinearUptoRow : OpenClaim := { program := "ytpcgccmkmolkoaa", sum := "bdfc43431a492a609e05b9168c01bd747f19c271469ffd1a1d65c89b988c6fb3", func := "heartwood/hwkeep.CrcLinear", spec := "crcLinear", apart := false, narrowed := true }
def CrcLinearUptoSaid : Prop := crcLinearUptoRow.holds Try.pinned (OpenSpec.upto crcLinearSpec)

/-- 'hwkeep.CrcBursts', WHERE WHAT IT READS IS OF BULK AT MOST 1048576: true; the input reads as it did. -/
def crcBurstsUptoRow : OpenClaim := { program := "ytpcgccmkmolkoaa", sum := "bdfc43431a492a609e05b9168c01bd747f19c271469ffd1a1d65c89b988c6fb3", func := "heartwood/hwkeep.CrcBursts", spec := "crcBursts", apart := false, narrowed := true }
def CrcBurstsUptoSaid : Prop := crcBurstsUptoRow.holds Try.pinned (OpenSpec.upto crcBurstsSpec)

/-- 'hwkeep.ChenExact', WHERE WHAT IT READS IS OF BULK AT MOST 1048576: true; the input reads as it did. -/
def chenExactUptoRow : OpenClaim := { program := "ytpcgccmkmolkoaa", sum := "bdfc43431a492a609e05b9168c01bd747f19c271469ffd1a1d65c89b988c6fb3", func := "heartwood/hwkeep.ChenExact", spec := "chenExact", apart := false, narrowed := true }
def ChenExactUptoSaid : Prop := chenExactUptoRow.holds Try.pinned (OpenSpec.upto chenExactSpec)

/-- 'hwkeep.ChenBetween', WHERE WHAT IT READS IS OF BULK AT MOST 1048576: true; the input reads as it did. -/
def chenBetweenUptoRow : OpenClaim := { program := "ytpcgccmkmolkoaa", sum := "bdfc43431a492a609e05b9168c01bd747f19c271469ffd1a1d65c89b988c6fb3", func := "heartwood/hwkeep.ChenBetween", spec := "chenBetween", apart := false, narrowed := true }
def ChenBetweenUptoSaid : Prop := chenBetweenUptoRow.holds Try.pinned (OpenSpec.upto chenBetweenSpec)

/-- 'hwkeep.MarksAll', WHERE WHAT IT READS IS OF BULK AT MOST 1048576: true; the input reads as it did. -/
def marksAllUptoRow : OpenClaim := { program := "ytpcgccmkmolkoaa", sum := "bdfc43431a492a609e05b9168c01bd747f19c271469ffd1a1d65c89b988c6fb3", func := "heartwood/hwkeep.MarksAll", spec := "marksAll", apart := false, narrowed := true }
def MarksAllUptoSaid : Prop := marksAllUptoRow.holds Try.pinned (OpenSpec.upto marksAllSpec)

/-- 'hwkeep.MarksJoin', WHERE WHAT IT READS IS OF BULK AT MOST 1048576: true; the input reads as it did. -/
def marksJoinUptoRow : OpenClaim := { program := "ytpcgccmkmolkoaa", sum := "bdfc43431a492a609e05b9168c01bd747f19c271469ffd1a1d65c89b988c6fb3", func := "heartwood/hwkeep.MarksJoin", spec := "marksJoin", apart := false, narrowed := true }
def MarksJoinUptoSaid : Prop := marksJoinUptoRow.holds Try.pinned (OpenSpec.upto marksJoinSpec)

/-- 'hwkeep.MarksTicks', WHERE WHAT IT READS IS OF BULK AT MOST 1048576: true; the input reads as it did. -/
def marksTicksUptoRow : OpenClaim := { program := "ytpcgccmkmolkoaa", sum := "bdfc43431a492a609e05b9168c01bd747f19c271469ffd1a1d65c89b988c6fb3", func := "heartwood/hwkeep.MarksTicks", spec := "marksTicks", apart := false, narrowed := true }
def MarksTicksUptoSaid : Prop := marksTicksUptoRow.holds Try.pinned (OpenSpec.upto marksTicksSpec)

/-- 'hwkeep.MarksLonger', WHERE WHAT IT READS IS OF BULK AT MOST 1048576: true; the input reads as it did. -/
def marksLongerUptoRow : OpenClaim := { program := "ytpcgccmkmolkoaa", sum := "bdfc43431a492a609e05b9168c01bd747f19c271469ffd1a1d65c89b988c6fb3", func := "heartwood/hwkeep.MarksLonger", spec := "marksLonger", apart := false, narrowed := true }
def MarksLongerUptoSaid : Prop := marksLongerUptoRow.holds Try.pinned (OpenSpec.upto marksLongerSpec)

/-- 'hwkeep.LateIs', WHERE WHAT IT READS IS OF BULK AT MOST 1048576: true; the input reads as it did. -/
def lateIsUptoRow : OpenClaim := { program := "ytpcgccmkmolkoaa", sum := "bdfc43431a492a609e05b9168c01bd747f19c271469ffd1a1d65c89b988c6fb3", func := "heartwood/hwkeep.LateIs", spec := "lateIs", unfollowed := true, recurses := true, apart := false, narrowed := true }
def LateIsUptoSaid : Prop := lateIsUptoRow.holds Try.pinned (OpenSpec.upto lateIsSpec)

/-- 'hwkeep.WinLast', WHERE WHAT IT READS IS OF BULK AT MOST 1048576: true; the input reads as it did. -/
def winLastUptoRow : OpenClaim := { program := "ytpcgccmkmolkoaa", sum := "bdfc43431a492a609e05b9168c01bd747f19c271469ffd1a1d65c89b988c6fb3", func := "heartwood/hwkeep.WinLast", spec := "winLast", unfollowed := true, recurses := true, apart := false, narrowed := true }
def WinLastUptoSaid : Prop := winLastUptoRow.holds Try.pinned (OpenSpec.upto winLastSpec)

/-- 'hwkeep.BeatSize', WHERE WHAT IT READS IS OF BULK AT MOST 1048576: true; the input reads as it did. -/
def beatSizeUptoRow : OpenClaim := { program := "ytpcgccmkmolkoaa", sum := "bdfc43431a492a609e05b9168c01bd747f19c271469ffd1a1d65c89b988c6fb3", func := "heartwood/hwkeep.BeatSize", spec := "beatSize", apart := false, narrowed := true }
def BeatSizeUptoSaid : Prop := beatSizeUptoRow.holds Try.pinned (OpenSpec.upto beatSizeSpec)

/-- 'hwkeep.FadeBetween', WHERE WHAT IT READS IS OF BULK AT MOST 1048576: true; the input reads as it did. -/
def fadeBetweenUptoRow : OpenClaim := { program := "ytpcgccmkmolkoaa", sum := "bdfc43431a492a609e05b9168c01bd747f19c271469ffd1a1d65c89b988c6fb3", func := "heartwood/hwkeep.FadeBetween", spec := "fadeBetween", unfollowed := true, recurses := true, apart := false, narrowed := true }
def FadeBetweenUptoSaid : Prop := fadeBetweenUptoRow.holds Try.pinned (OpenSpec.upto fadeBetweenSpec)

/-- 'hwkeep.BeatBack', WHERE WHAT IT READS IS OF BULK AT MOST 1048576: true; the input reads as it did. -/
def beatBackUptoRow : OpenClaim := { program := "ytpcgccmkmolkoaa", sum := "bdfc43431a492a609e05b9168c01bd747f19c271469ffd1a1d65c89b988c6fb3", func := "heartwood/hwkeep.BeatBack", spec := "beatBack", apart := false, narrowed := true }
def BeatBackUptoSaid : Prop := beatBackUptoRow.holds Try.pinned (OpenSpec.upto beatBackSpec)

/-- 'hwkeep.BeatOne', WHERE WHAT IT READS IS OF BULK AT MOST 1048576: true; the input reads as it did. -/
def beatOneUptoRow : OpenClaim := { program := "ytpcgccmkmolkoaa", sum := "bdfc43431a492a609e05b9168c01bd747f19c271469ffd1a1d65c89b988c6fb3", func := "heartwood/hwkeep.BeatOne", spec := "beatOne", apart := false, narrowed := true }
def BeatOneUptoSaid : Prop := beatOneUptoRow.holds Try.pinned (OpenSpec.upto beatOneSpec)

/-- 'hwkeep.BeatBursts', WHERE WHAT IT READS IS OF BULK AT MOST 1048576: true; the input reads as it did. -/
def beatBurstsUptoRow : OpenClaim := { program := "ytpcgccmkmolkoaa", sum := "bdfc43431a492a609e05b9168c01bd747f19c271469ffd1a1d65c89b988c6fb3", func := "heartwood/hwkeep.BeatBursts", spec := "beatBursts", apart := false, narrowed := true }
def BeatBurstsUptoSaid : Prop := beatBurstsUptoRow.holds Try.pinned (OpenSpec.upto beatBurstsSpec)

/-- 'hwkeep.FadeSame', WHERE WHAT IT READS IS OF BULK AT MOST 1048576: true; the input reads as it did. -/
def fadeSameUptoRow : OpenClaim := { program := "ytpcgccmkmolkoaa", sum := "bdfc43431a492a609e05b9168c01bd747f19c271469ffd1a1d65c89b988c6fb3", func := "heartwood/hwkeep.FadeSame", spec := "fadeSame", unfollowed := true, recurses := true, apart := false, narrowed := true }
def FadeSameUptoSaid : Prop := fadeSameUptoRow.holds Try.pinned (OpenSpec.upto fadeSameSpec)

end Rows
end Go.Proofs.Ytpcgccmkmolkoaa
