/-
  No cell of these rows narrows 'for every input' (looked for: loops, veiled, ifaces, maps, wideKeys, modest, calm, conditions, laid).
  DERIVED. THE GIVEN ROWS OF THIS SEAT. 18 by the template 'for every input the law returns true; each argument reads behind the call as it read before'; 0 by the template 'total and deterministic' (their statements: YtmahmeopehhjfaaTotals.lean).
  GIVEN WITH THE SEED: the statements are not yours to turn. If you find one false, say at which input.
  Laid BY PROGRAM, IN A SANDBOX (cutbox-rows.mjs): the forced cells as the released guide's own fill.sh prints them over the translation a1fb99c9596b8811… (all of the seat's roots in one cut). By AI agents, Wed Nov 11 2026. No macro, syntax, notation, axiom, sorry.
-/
import Derived.Test.YtmahmeopehhjfaaChecked
import GoSem.Claim
import GoSem.ClaimJoined
import GoSem.ClaimMapViews
import Derived.JoinedTies
import Derived.KernelRfl
namespace Go.Proofs.Ytmahmeopehhjfaa
/- THE CELL 'sum', in the pinned program and in every row, IS THE sha256 OF THE DUMP (.gsa) THAT YtmahmeopehhjfaaProg.lean LOADS. Nothing in Lean hashes anything: it is a label: what it is worth is what the hold of that sum in a sandbox is worth. -/
noncomputable def Try.pinned : Pinned := { name := "ytmahmeopehhjfaa", sum := "a1fb99c9596b8811ffb53046168bff2119bdc96ffe35521964dc3864ed8a1c09", checked := Try.checked }
namespace Rows
def none {H : Type} : Left H := { results := [], args := [] }

/-- 'hwkeep.RankFar': WHATEVER THE INPUT: true; the input reads as it did. -/
def rankFarSpec : ChangeSpec := { name := "rankFar", fn := fun _ => fun
  | [d1, d2, d3] => { results := [.lit (.bool true)], args := [d1, d2, d3] }
  | _ => none }
def rankFarRow : OpenClaim := { program := "ytmahmeopehhjfaa", sum := "a1fb99c9596b8811ffb53046168bff2119bdc96ffe35521964dc3864ed8a1c09", func := "heartwood/hwkeep.RankFar", spec := "rankFar", unfollowed := true, recurses := true, apart := false }
def RankFarSaid : Prop := rankFarRow.holds Try.pinned (OpenSpec.ofChange rankFarSpec)

/-- ITS FALSE NEIGHBOUR: 'it returns false'. Refute it at one input. -/
def rankFarWrong : ChangeSpec := { name := "rankFar", fn := fun _ => fun
  | [d1, d2, d3] => { results := [.lit (.bool false)], args := [d1, d2, d3] }
  | _ => none }
def RankFarWrongFalsely : Prop := rankFarRow.holds Try.pinned (OpenSpec.ofChange rankFarWrong)

/-- 'hwkeep.VoteMost': WHATEVER THE INPUT: true; the input reads as it did. -/
def voteMostSpec : ChangeSpec := { name := "voteMost", fn := fun _ => fun
  | [d1, d2, d3] => { results := [.lit (.bool true)], args := [d1, d2, d3] }
  | _ => none }
def voteMostRow : OpenClaim := { program := "ytmahmeopehhjfaa", sum := "a1fb99c9596b8811ffb53046168bff2119bdc96ffe35521964dc3864ed8a1c09", func := "heartwood/hwkeep.VoteMost", spec := "voteMost", unfollowed := true, recurses := true, apart := false }
def VoteMostSaid : Prop := voteMostRow.holds Try.pinned (OpenSpec.ofChange voteMostSpec)

/-- ITS FALSE NEIGHBOUR: 'it returns false'. Refute it at one input. -/
def voteMostWrong : ChangeSpec := { name := "voteMost", fn := fun _ => fun
  | [d1, d2, d3] => { results := [.lit (.bool false)], args := [d1, d2, d3] }
  | _ => none }
def VoteMostWrongFalsely : Prop := voteMostRow.holds Try.pinned (OpenSpec.ofChange voteMostWrong)

/-- 'hwkeep.StatLagrange': WHATEVER THE INPUT: true; the input reads as it did. -/
def statLagrangeSpec : ChangeSpec := { name := "statLagrange", fn := fun _ => fun
  | [d] => { results := [.lit (.bool true)], args := [d] }
  | _ => none }
def statLagrangeRow : OpenClaim := { program := "ytmahmeopehhjfaa", sum := "a1fb99c9596b8811ffb53046168bff2119bdc96ffe35521964dc3864ed8a1c09", func := "heartwood/hwkeep.StatLagrange", spec := "statLagrange", unfollowed := true, recurses := true, apart := false }
def StatLagrangeSaid : Prop := statLagrangeRow.holds Try.pinned (OpenSpec.ofChange statLagrangeSpec)

/-- ITS FALSE NEIGHBOUR: 'it returns false'. Refute it at one input. -/
def statLagrangeWrong : ChangeSpec := { name := "statLagrange", fn := fun _ => fun
  | [d] => { results := [.lit (.bool false)], args := [d] }
  | _ => none }
def StatLagrangeWrongFalsely : Prop := statLagrangeRow.holds Try.pinned (OpenSpec.ofChange statLagrangeWrong)

/-- 'hwkeep.StatSteiner': WHATEVER THE INPUT: true; the input reads as it did. -/
def statSteinerSpec : ChangeSpec := { name := "statSteiner", fn := fun _ => fun
  | [d1, d2] => { results := [.lit (.bool true)], args := [d1, d2] }
  | _ => none }
def statSteinerRow : OpenClaim := { program := "ytmahmeopehhjfaa", sum := "a1fb99c9596b8811ffb53046168bff2119bdc96ffe35521964dc3864ed8a1c09", func := "heartwood/hwkeep.StatSteiner", spec := "statSteiner", unfollowed := true, recurses := true, apart := false }
def StatSteinerSaid : Prop := statSteinerRow.holds Try.pinned (OpenSpec.ofChange statSteinerSpec)

/-- ITS FALSE NEIGHBOUR: 'it returns false'. Refute it at one input. -/
def statSteinerWrong : ChangeSpec := { name := "statSteiner", fn := fun _ => fun
  | [d1, d2] => { results := [.lit (.bool false)], args := [d1, d2] }
  | _ => none }
def StatSteinerWrongFalsely : Prop := statSteinerRow.holds Try.pinned (OpenSpec.ofChange statSteinerWrong)

/-- 'hwkeep.StatMoved': WHATEVER THE INPUT: true; the input reads as it did. -/
def statMovedSpec : ChangeSpec := { name := "statMoved", fn := fun _ => fun
  | [d1, d2, d3, d4] => { results := [.lit (.bool true)], args := [d1, d2, d3, d4] }
  | _ => none }
def statMovedRow : OpenClaim := { program := "ytmahmeopehhjfaa", sum := "a1fb99c9596b8811ffb53046168bff2119bdc96ffe35521964dc3864ed8a1c09", func := "heartwood/hwkeep.StatMoved", spec := "statMoved", unfollowed := true, recurses := true, apart := false }
def StatMovedSaid : Prop := statMovedRow.holds Try.pinned (OpenSpec.ofChange statMovedSpec)

/-- ITS FALSE NEIGHBOUR: 'it returns false'. Refute it at one input. -/
def statMovedWrong : ChangeSpec := { name := "statMoved", fn := fun _ => fun
  | [d1, d2, d3, d4] => { results := [.lit (.bool false)], args := [d1, d2, d3, d4] }
  | _ => none }
def StatMovedWrongFalsely : Prop := statMovedRow.holds Try.pinned (OpenSpec.ofChange statMovedWrong)

/-- 'hwkeep.StatChan': WHATEVER THE INPUT: true; the input reads as it did. -/
def statChanSpec : ChangeSpec := { name := "statChan", fn := fun _ => fun
  | [d1, d2] => { results := [.lit (.bool true)], args := [d1, d2] }
  | _ => none }
def statChanRow : OpenClaim := { program := "ytmahmeopehhjfaa", sum := "a1fb99c9596b8811ffb53046168bff2119bdc96ffe35521964dc3864ed8a1c09", func := "heartwood/hwkeep.StatChan", spec := "statChan", unfollowed := true, recurses := true, apart := false }
def StatChanSaid : Prop := statChanRow.holds Try.pinned (OpenSpec.ofChange statChanSpec)

/-- ITS FALSE NEIGHBOUR: 'it returns false'. Refute it at one input. -/
def statChanWrong : ChangeSpec := { name := "statChan", fn := fun _ => fun
  | [d1, d2] => { results := [.lit (.bool false)], args := [d1, d2] }
  | _ => none }
def StatChanWrongFalsely : Prop := statChanRow.holds Try.pinned (OpenSpec.ofChange statChanWrong)

/-- 'hwtop.TopRoot': WHATEVER THE INPUT: true; the input reads as it did. -/
def topRootSpec : ChangeSpec := { name := "topRoot", fn := fun _ => fun
  | [d] => { results := [.lit (.bool true)], args := [d] }
  | _ => none }
def topRootRow : OpenClaim := { program := "ytmahmeopehhjfaa", sum := "a1fb99c9596b8811ffb53046168bff2119bdc96ffe35521964dc3864ed8a1c09", func := "heartwood/hwtop.TopRoot", spec := "topRoot", inPlace := ["math/bits.Add64", "math/bits.Sub64"], unfollowed := true, recurses := true, named := ["math/bits.divideError", "math/bits.overflowError"], apart := false }
def TopRootSaid : Prop := topRootRow.holds Try.pinned (OpenSpec.ofChange topRootSpec)

/-- ITS FALSE NEIGHBOUR: 'it returns false'. Refute it at one input. -/
def topRootWrong : ChangeSpec := { name := "topRoot", fn := fun _ => fun
  | [d] => { results := [.lit (.bool false)], args := [d] }
  | _ => none }
def TopRootWrongFalsely : Prop := topRootRow.holds Try.pinned (OpenSpec.ofChange topRootWrong)

/-- 'hwkeep.TailMarkov': WHATEVER THE INPUT: true; the input reads as it did. -/
def tailMarkovSpec : ChangeSpec := { name := "tailMarkov", fn := fun _ => fun
  | [d1, d2] => { results := [.lit (.bool true)], args := [d1, d2] }
  | _ => none }
def tailMarkovRow : OpenClaim := { program := "ytmahmeopehhjfaa", sum := "a1fb99c9596b8811ffb53046168bff2119bdc96ffe35521964dc3864ed8a1c09", func := "heartwood/hwkeep.TailMarkov", spec := "tailMarkov", unfollowed := true, recurses := true, apart := false }
def TailMarkovSaid : Prop := tailMarkovRow.holds Try.pinned (OpenSpec.ofChange tailMarkovSpec)

/-- ITS FALSE NEIGHBOUR: 'it returns false'. Refute it at one input. -/
def tailMarkovWrong : ChangeSpec := { name := "tailMarkov", fn := fun _ => fun
  | [d1, d2] => { results := [.lit (.bool false)], args := [d1, d2] }
  | _ => none }
def TailMarkovWrongFalsely : Prop := tailMarkovRow.holds Try.pinned (OpenSpec.ofChange tailMarkovWrong)

/-- 'hwkeep.TailFalls': WHATEVER THE INPUT: true; the input reads as it did. -/
def tailFallsSpec : ChangeSpec := { name := "tailFalls", fn := fun _ => fun
  | [d1, d2, d3] => { results := [.lit (.bool true)], args := [d1, d2, d3] }
  | _ => none }
def tailFallsRow : OpenClaim := { program := "ytmahmeopehhjfaa", sum := "a1fb99c9596b8811ffb53046168bff2119bdc96ffe35521964dc3864ed8a1c09", func := "heartwood/hwkeep.TailFalls", spec := "tailFalls", unfollowed := true, recurses := true, apart := false }
def TailFallsSaid : Prop := tailFallsRow.holds Try.pinned (OpenSpec.ofChange tailFallsSpec)

/-- ITS FALSE NEIGHBOUR: 'it returns false'. Refute it at one input. -/
def tailFallsWrong : ChangeSpec := { name := "tailFalls", fn := fun _ => fun
  | [d1, d2, d3] => { results := [.lit (.bool false)], args := [d1, d2, d3] }
  | _ => none }
def TailFallsWrongFalsely : Prop := tailFallsRow.holds Try.pinned (OpenSpec.ofChange tailFallsWrong)

/-- 'hwkeep.StatBounds': WHATEVER THE INPUT: true; the input reads as it did. -/
def statBoundsSpec : ChangeSpec := { name := "statBounds", fn := fun _ => fun
  | [d] => { results := [.lit (.bool true)], args := [d] }
  | _ => none }
def statBoundsRow : OpenClaim := { program := "ytmahmeopehhjfaa", sum := "a1fb99c9596b8811ffb53046168bff2119bdc96ffe35521964dc3864ed8a1c09", func := "heartwood/hwkeep.StatBounds", spec := "statBounds", unfollowed := true, recurses := true, apart := false }
def StatBoundsSaid : Prop := statBoundsRow.holds Try.pinned (OpenSpec.ofChange statBoundsSpec)

/-- ITS FALSE NEIGHBOUR: 'it returns false'. Refute it at one input. -/
def statBoundsWrong : ChangeSpec := { name := "statBounds", fn := fun _ => fun
  | [d] => { results := [.lit (.bool false)], args := [d] }
  | _ => none }
def StatBoundsWrongFalsely : Prop := statBoundsRow.holds Try.pinned (OpenSpec.ofChange statBoundsWrong)

/-- 'hwkeep.StatMean': WHATEVER THE INPUT: true; the input reads as it did. -/
def statMeanSpec : ChangeSpec := { name := "statMean", fn := fun _ => fun
  | [d1, d2] => { results := [.lit (.bool true)], args := [d1, d2] }
  | _ => none }
def statMeanRow : OpenClaim := { program := "ytmahmeopehhjfaa", sum := "a1fb99c9596b8811ffb53046168bff2119bdc96ffe35521964dc3864ed8a1c09", func := "heartwood/hwkeep.StatMean", spec := "statMean", unfollowed := true, recurses := true, apart := false }
def StatMeanSaid : Prop := statMeanRow.holds Try.pinned (OpenSpec.ofChange statMeanSpec)

/-- ITS FALSE NEIGHBOUR: 'it returns false'. Refute it at one input. -/
def statMeanWrong : ChangeSpec := { name := "statMean", fn := fun _ => fun
  | [d1, d2] => { results := [.lit (.bool false)], args := [d1, d2] }
  | _ => none }
def StatMeanWrongFalsely : Prop := statMeanRow.holds Try.pinned (OpenSpec.ofChange statMeanWrong)

/-- 'hwkeep.HistGrows': WHATEVER THE INPUT: true; the input reads as it did. -/
def histGrowsSpec : ChangeSpec := { name := "histGrows", fn := fun _ => fun
  | [d1, d2, d3, d4] => { results := [.lit (.bool true)], args := [d1, d2, d3, d4] }
  | _ => none }
def histGrowsRow : OpenClaim := { program := "ytmahmeopehhjfaa", sum := "a1fb99c9596b8811ffb53046168bff2119bdc96ffe35521964dc3864ed8a1c09", func := "heartwood/hwkeep.HistGrows", spec := "histGrows", apart := false }
def HistGrowsSaid : Prop := histGrowsRow.holds Try.pinned (OpenSpec.ofChange histGrowsSpec)

/-- ITS FALSE NEIGHBOUR: 'it returns false'. Refute it at one input. -/
def histGrowsWrong : ChangeSpec := { name := "histGrows", fn := fun _ => fun
  | [d1, d2, d3, d4] => { results := [.lit (.bool false)], args := [d1, d2, d3, d4] }
  | _ => none }
def HistGrowsWrongFalsely : Prop := histGrowsRow.holds Try.pinned (OpenSpec.ofChange histGrowsWrong)

/-- 'hwkeep.StatSamuelson': WHATEVER THE INPUT: true; the input reads as it did. -/
def statSamuelsonSpec : ChangeSpec := { name := "statSamuelson", fn := fun _ => fun
  | [d1, d2] => { results := [.lit (.bool true)], args := [d1, d2] }
  | _ => none }
def statSamuelsonRow : OpenClaim := { program := "ytmahmeopehhjfaa", sum := "a1fb99c9596b8811ffb53046168bff2119bdc96ffe35521964dc3864ed8a1c09", func := "heartwood/hwkeep.StatSamuelson", spec := "statSamuelson", inPlace := ["math/bits.Add64"], unfollowed := true, recurses := true, apart := false }
def StatSamuelsonSaid : Prop := statSamuelsonRow.holds Try.pinned (OpenSpec.ofChange statSamuelsonSpec)

/-- ITS FALSE NEIGHBOUR: 'it returns false'. Refute it at one input. -/
def statSamuelsonWrong : ChangeSpec := { name := "statSamuelson", fn := fun _ => fun
  | [d1, d2] => { results := [.lit (.bool false)], args := [d1, d2] }
  | _ => none }
def StatSamuelsonWrongFalsely : Prop := statSamuelsonRow.holds Try.pinned (OpenSpec.ofChange statSamuelsonWrong)

/-- 'hwkeep.WinSlides': WHATEVER THE INPUT: true; the input reads as it did. -/
def winSlidesSpec : ChangeSpec := { name := "winSlides", fn := fun _ => fun
  | [d1, d2] => { results := [.lit (.bool true)], args := [d1, d2] }
  | _ => none }
def winSlidesRow : OpenClaim := { program := "ytmahmeopehhjfaa", sum := "a1fb99c9596b8811ffb53046168bff2119bdc96ffe35521964dc3864ed8a1c09", func := "heartwood/hwkeep.WinSlides", spec := "winSlides", unfollowed := true, recurses := true, apart := false }
def WinSlidesSaid : Prop := winSlidesRow.holds Try.pinned (OpenSpec.ofChange winSlidesSpec)

/-- ITS FALSE NEIGHBOUR: 'it returns false'. Refute it at one input. -/
def winSlidesWrong : ChangeSpec := { name := "winSlides", fn := fun _ => fun
  | [d1, d2] => { results := [.lit (.bool false)], args := [d1, d2] }
  | _ => none }
def WinSlidesWrongFalsely : Prop := winSlidesRow.holds Try.pinned (OpenSpec.ofChange winSlidesWrong)

/-- 'hwkeep.StatJoins': WHATEVER THE INPUT: true; the input reads as it did. -/
def statJoinsSpec : ChangeSpec := { name := "statJoins", fn := fun _ => fun
  | [d1, d2, d3] => { results := [.lit (.bool true)], args := [d1, d2, d3] }
  | _ => none }
def statJoinsRow : OpenClaim := { program := "ytmahmeopehhjfaa", sum := "a1fb99c9596b8811ffb53046168bff2119bdc96ffe35521964dc3864ed8a1c09", func := "heartwood/hwkeep.StatJoins", spec := "statJoins", unfollowed := true, recurses := true, apart := false }
def StatJoinsSaid : Prop := statJoinsRow.holds Try.pinned (OpenSpec.ofChange statJoinsSpec)

/-- ITS FALSE NEIGHBOUR: 'it returns false'. Refute it at one input. -/
def statJoinsWrong : ChangeSpec := { name := "statJoins", fn := fun _ => fun
  | [d1, d2, d3] => { results := [.lit (.bool false)], args := [d1, d2, d3] }
  | _ => none }
def StatJoinsWrongFalsely : Prop := statJoinsRow.holds Try.pinned (OpenSpec.ofChange statJoinsWrong)

/-- 'hwkeep.TailCantelli': WHATEVER THE INPUT: true; the input reads as it did. -/
def tailCantelliSpec : ChangeSpec := { name := "tailCantelli", fn := fun _ => fun
  | [d1, d2, d3] => { results := [.lit (.bool true)], args := [d1, d2, d3] }
  | _ => none }
def tailCantelliRow : OpenClaim := { program := "ytmahmeopehhjfaa", sum := "a1fb99c9596b8811ffb53046168bff2119bdc96ffe35521964dc3864ed8a1c09", func := "heartwood/hwkeep.TailCantelli", spec := "tailCantelli", inPlace := ["math/bits.Add64", "math/bits.Sub64"], unfollowed := true, recurses := true, named := ["math/bits.divideError", "math/bits.overflowError"], apart := false }
def TailCantelliSaid : Prop := tailCantelliRow.holds Try.pinned (OpenSpec.ofChange tailCantelliSpec)

/-- ITS FALSE NEIGHBOUR: 'it returns false'. Refute it at one input. -/
def tailCantelliWrong : ChangeSpec := { name := "tailCantelli", fn := fun _ => fun
  | [d1, d2, d3] => { results := [.lit (.bool false)], args := [d1, d2, d3] }
  | _ => none }
def TailCantelliWrongFalsely : Prop := tailCantelliRow.holds Try.pinned (OpenSpec.ofChange tailCantelliWrong)

/-- 'hwkeep.TailChebyshev': WHATEVER THE INPUT: true; the input reads as it did. -/
def tailChebyshevSpec : ChangeSpec := { name := "tailChebyshev", fn := fun _ => fun
  | [d1, d2] => { results := [.lit (.bool true)], args := [d1, d2] }
  | _ => none }
def tailChebyshevRow : OpenClaim := { program := "ytmahmeopehhjfaa", sum := "a1fb99c9596b8811ffb53046168bff2119bdc96ffe35521964dc3864ed8a1c09", func := "heartwood/hwkeep.TailChebyshev", spec := "tailChebyshev", inPlace := ["math/bits.Add64", "math/bits.Sub64"], unfollowed := true, recurses := true, named := ["math/bits.divideError", "math/bits.overflowError"], apart := false }
def TailChebyshevSaid : Prop := tailChebyshevRow.holds Try.pinned (OpenSpec.ofChange tailChebyshevSpec)

/-- ITS FALSE NEIGHBOUR: 'it returns false'. Refute it at one input. -/
def tailChebyshevWrong : ChangeSpec := { name := "tailChebyshev", fn := fun _ => fun
  | [d1, d2] => { results := [.lit (.bool false)], args := [d1, d2] }
  | _ => none }
def TailChebyshevWrongFalsely : Prop := tailChebyshevRow.holds Try.pinned (OpenSpec.ofChange tailChebyshevWrong)

/-- 'hwkeep.TailBoth': WHATEVER THE INPUT: true; the input reads as it did. -/
def tailBothSpec : ChangeSpec := { name := "tailBoth", fn := fun _ => fun
  | [d1, d2] => { results := [.lit (.bool true)], args := [d1, d2] }
  | _ => none }
def tailBothRow : OpenClaim := { program := "ytmahmeopehhjfaa", sum := "a1fb99c9596b8811ffb53046168bff2119bdc96ffe35521964dc3864ed8a1c09", func := "heartwood/hwkeep.TailBoth", spec := "tailBoth", inPlace := ["math/bits.Add64", "math/bits.Sub64"], unfollowed := true, recurses := true, named := ["math/bits.divideError", "math/bits.overflowError"], apart := false }
def TailBothSaid : Prop := tailBothRow.holds Try.pinned (OpenSpec.ofChange tailBothSpec)

/-- ITS FALSE NEIGHBOUR: 'it returns false'. Refute it at one input. -/
def tailBothWrong : ChangeSpec := { name := "tailBoth", fn := fun _ => fun
  | [d1, d2] => { results := [.lit (.bool false)], args := [d1, d2] }
  | _ => none }
def TailBothWrongFalsely : Prop := tailBothRow.holds Try.pinned (OpenSpec.ofChange tailBothWrong)

/- THE SECOND FORM. 'bulk': how many values and letters a reading holds, each counted each time it is reached (what is shared counts as often as it is met; a slice's spare places count too). A statement '..UptoSaid' is the law's where the arguments, and the package variables that the reading takes, are together of bulk at most 1048576: NARROWER than '..Said'. Prove '..Said' where nothing that the law and all that it calls make is longer than what came in: it says more and counts as full. Else prove '..UptoSaid'. A law counts once. -/
mutual
def uptoBulk {H : Type} : DataW H → Nat
  | .lit (.string bytes) => bytes.length + 1
  | .lit _ => 1
  | .nil => 1
  | .ptr d => uptoBulk d + 1
  | .slice elems spare => uptoBulkAll elems + uptoBulkAll spare + 1
  | .agg parts => uptoBulkAll parts + 1
  | .iface _ d => uptoBulk d + 1
  | .map entries => uptoBulkEntries entries + 1
  | .held _ => 1
def uptoBulkAll {H : Type} : List (DataW H) → Nat
  | [] => 0
  | d :: r => uptoBulk d + uptoBulkAll r
def uptoBulkEntries {H : Type} : List (Lit × DataW H) → Nat
  | [] => 0
  | x :: r => uptoBulkEntry x + uptoBulkEntries r
def uptoBulkEntry {H : Type} : Lit × DataW H → Nat
  | (.string bytes, d) => bytes.length + uptoBulk d + 1
  | (_, d) => uptoBulk d + 1
 end
def uptoSmall : (H : Type) → List (DataW H) → Bool := fun _ ds => decide (uptoBulkAll ds ≤ 1048576)
def OpenSpec.upto (s : _root_.Go.ChangeSpec) : _root_.Go.OpenSpec := { _root_.Go.OpenSpec.ofChange s with cond := some uptoSmall }

/-- 'hwkeep.RankFar', WHERE WHAT IT READS IS OF BULK AT MOST 1048576: true; the input reads as it did. -/
def rankFarUptoRow : OpenClaim := { program := "ytmahmeopehhjfaa", sum := "a1fb99c9596b8811ffb53046168bff2119bdc96ffe35521964dc3864ed8a1c09", func := "heartwood/hwkeep.RankFar", spec := "rankFar", unfollowed := true, recurses := true, apart := false, narrowed := true }
def RankFarUptoSaid : Prop := rankFarUptoRow.holds Try.pinned (OpenSpec.upto rankFarSpec)

/-- 'hwkeep.VoteMost', WHERE WHAT IT READS IS OF BULK AT MOST 1048576: true; the input reads as it did. -/
def voteMostUptoRow : OpenClaim := { program := "ytmahmeopehhjfaa", sum := "a1fb99c9596b8811ffb53046168bff2119bdc96ffe35521964dc3864ed8a1c09", func := "heartwood/hwkeep.VoteMost", spec := "voteMost", unfollowed := true, recurses := true, apart := false, narrowed := true }
def VoteMostUptoSaid : Prop := voteMostUptoRow.holds Try.pinned (OpenSpec.upto voteMostSpec)

/-- 'hwkeep.StatLagrange', WHERE WHAT IT READS IS OF BULK AT MOST 1048576: true; the input reads as it did. -/
def statLagrangeUptoRow : OpenClaim := { program := "ytmahmeopehhjfaa", sum := "a1fb99c9596b8811ffb53046168bff2119bdc96ffe35521964dc3864ed8a1c09", func := "heartwood/hwkeep.StatLagrange", spec := "statLagrange", unfollowed := true, recurses := true, apart := false, narrowed := true }
def StatLagrangeUptoSaid : Prop := statLagrangeUptoRow.holds Try.pinned (OpenSpec.upto statLagrangeSpec)

/-- 'hwkeep.StatSteiner', WHERE WHAT IT READS IS OF BULK AT MOST 1048576: true; the input reads as it did. -/
def statSteinerUptoRow : OpenClaim := { program := "ytmahmeopehhjfaa", sum := "a1fb99c9596b8811ffb53046168bff2119bdc96ffe35521964dc3864ed8a1c09", func := "heartwood/hwkeep.StatSteiner", spec := "statSteiner", unfollowed := true, recurses := true, apart := false, narrowed := true }
def StatSteinerUptoSaid : Prop := statSteinerUptoRow.holds Try.pinned (OpenSpec.upto statSteinerSpec)

/-- 'hwkeep.StatMoved', WHERE WHAT IT READS IS OF BULK AT MOST 1048576: true; the input reads as it did. -/
def statMovedUptoRow : OpenClaim := { program := "ytmahmeopehhjfaa", sum := "a1fb99c9596b8811ffb53046168bff2119bdc96ffe35521964dc3864ed8a1c09", func := "heartwood/hwkeep.StatMoved", spec := "statMoved", unfollowed := true, recurses := true, apart := false, narrowed := true }
def StatMovedUptoSaid : Prop := statMovedUptoRow.holds Try.pinned (OpenSpec.upto statMovedSpec)

/-- 'hwkeep.StatChan', WHERE WHAT IT READS IS OF BULK AT MOST 1048576: true; the input reads as it did. -/
def statChanUptoRow : OpenClaim := { program := "ytmahmeopehhjfaa", sum := "a1fb99c9596b8811ffb53046168bff2119bdc96ffe35521964dc3864ed8a1c09", func := "heartwood/hwkeep.StatChan", spec := "statChan", unfollowed := true, recurses := true, apart := false, narrowed := true }
def StatChanUptoSaid : Prop := statChanUptoRow.holds Try.pinned (OpenSpec.upto statChanSpec)

/-- 'hwtop.TopRoot', WHERE WHAT IT READS IS OF BULK AT MOST 1048576: true; the input reads as it did. -/
def topRootUptoRow : OpenClaim := { program := "ytmahmeopehhjfaa", sum := "a1fb99c9596b8811ffb53046168bff2119bdc96ffe35521964dc3864ed8a1c09", func := "heartwood/hwtop.TopRoot", spec := "topRoot", inPlace := ["math/bits.Add64", "math/bits.Sub64"], unfollowed := true, recurses := true, named := ["math/bits.divideError", "math/bits.overflowError"], apart := false, narrowed := true }
def TopRootUptoSaid : Prop := topRootUptoRow.holds Try.pinned (OpenSpec.upto topRootSpec)

/-- 'hwkeep.TailMarkov', WHERE WHAT IT READS IS OF BULK AT MOST 1048576: true; the input reads as it did. -/
def tailMarkovUptoRow : OpenClaim := { program := "ytmahmeopehhjfaa", sum := "a1fb99c9596b8811ffb53046168bff2119bdc96ffe35521964dc3864ed8a1c09", func := "heartwood/hwkeep.TailMarkov", spec := "tailMarkov", unfollowed := true, recurses := true, apart := false, narrowed := true }
def TailMarkovUptoSaid : Prop := tailMarkovUptoRow.holds Try.pinned (OpenSpec.upto tailMarkovSpec)

/-- 'hwkeep.TailFalls', WHERE WHAT IT READS IS OF BULK AT MOST 1048576: true; the input reads as it did. -/
def tailFallsUptoRow : OpenClaim := { program := "ytmahmeopehhjfaa", sum := "a1fb99c9596b8811ffb53046168bff2119bdc96ffe35521964dc3864ed8a1c09", func := "heartwood/hwkeep.TailFalls", spec := "tailFalls", unfollowed := true, recurses := true, apart := false, narrowed := true }
def TailFallsUptoSaid : Prop := tailFallsUptoRow.holds Try.pinned (OpenSpec.upto tailFallsSpec)

/-- 'hwkeep.StatBounds', WHERE WHAT IT READS IS OF BULK AT MOST 1048576: true; the input reads as it did. -/
def statBoundsUptoRow : OpenClaim := { program := "ytmahmeopehhjfaa", sum := "a1fb99c9596b8811ffb53046168bff2119bdc96ffe35521964dc3864ed8a1c09", func := "heartwood/hwkeep.StatBounds", spec := "statBounds", unfollowed := true, recurses := true, apart := false, narrowed := true }
def StatBoundsUptoSaid : Prop := statBoundsUptoRow.holds Try.pinned (OpenSpec.upto statBoundsSpec)

/-- 'hwkeep.StatMean', WHERE WHAT IT READS IS OF BULK AT MOST 1048576: true; the input reads as it did. -/
def statMeanUptoRow : OpenClaim := { program := "ytmahmeopehhjfaa", sum := "a1fb99c9596b8811ffb53046168bff2119bdc96ffe35521964dc3864ed8a1c09", func := "heartwood/hwkeep.StatMean", spec := "statMean", unfollowed := true, recurses := true, apart := false, narrowed := true }
def StatMeanUptoSaid : Prop := statMeanUptoRow.holds Try.pinned (OpenSpec.upto statMeanSpec)

/-- 'hwkeep.HistGrows', WHERE WHAT IT READS IS OF BULK AT MOST 1048576: true; the input reads as it did. -/
def histGrowsUptoRow : OpenClaim := { program := "ytmahmeopehhjfaa", sum := "a1fb99c9596b8811ffb53046168bff2119bdc96ffe35521964dc3864ed8a1c09", func := "heartwood/hwkeep.HistGrows", spec := "histGrows", apart := false, narrowed := true }
def HistGrowsUptoSaid : Prop := histGrowsUptoRow.holds Try.pinned (OpenSpec.upto histGrowsSpec)

/-- 'hwkeep.StatSamuelson', WHERE WHAT IT READS IS OF BULK AT MOST 1048576: true; the input reads as it did. -/
def statSamuelsonUptoRow : OpenClaim := { program := "ytmahmeopehhjfaa", sum := "a1fb99c9596b8811ffb53046168bff2119bdc96ffe35521964dc3864ed8a1c09", func := "heartwood/hwkeep.StatSamuelson", spec := "statSamuelson", inPlace := ["math/bits.Add64"], unfollowed := true, recurses := true, apart := false, narrowed := true }
def StatSamuelsonUptoSaid : Prop := statSamuelsonUptoRow.holds Try.pinned (OpenSpec.upto statSamuelsonSpec)

/-- 'hwkeep.WinSlides', WHERE WHAT IT READS IS OF BULK AT MOST 1048576: true; the input reads as it did. -/
def winSlidesUptoRow : OpenClaim := { program := "ytmahmeopehhjfaa", sum := "a1fb99c9596b8811ffb53046168bff2119bdc96ffe35521964dc3864ed8a1c09", func := "heartwood/hwkeep.WinSlides", spec := "winSlides", unfollowed := true, recurses := true, apart := false, narrowed := true }
def WinSlidesUptoSaid : Prop := winSlidesUptoRow.holds Try.pinned (OpenSpec.upto winSlidesSpec)

/-- 'hwkeep.StatJoins', WHERE WHAT IT READS IS OF BULK AT MOST 1048576: true; the input reads as it did. -/
def statJoinsUptoRow : OpenClaim := { program := "ytmahmeopehhjfaa", sum := "a1fb99c9596b8811ffb53046168bff2119bdc96ffe35521964dc3864ed8a1c09", func := "heartwood/hwkeep.StatJoins", spec := "statJoins", unfollowed := true, recurses := true, apart := false, narrowed := true }
def StatJoinsUptoSaid : Prop := statJoinsUptoRow.holds Try.pinned (OpenSpec.upto statJoinsSpec)

/-- 'hwkeep.TailCantelli', WHERE WHAT IT READS IS OF BULK AT MOST 1048576: true; the input reads as it did. -/
def tailCantelliUptoRow : OpenClaim := { program := "ytmahmeopehhjfaa", sum := "a1fb99c9596b8811ffb53046168bff2119bdc96ffe35521964dc3864ed8a1c09", func := "heartwood/hwkeep.TailCantelli", spec := "tailCantelli", inPlace := ["math/bits.Add64", "math/bits.Sub64"], unfollowed := true, recurses := true, named := ["math/bits.divideError", "math/bits.overflowError"], apart := false, narrowed := true }
def TailCantelliUptoSaid : Prop := tailCantelliUptoRow.holds Try.pinned (OpenSpec.upto tailCantelliSpec)

/-- 'hwkeep.TailChebyshev', WHERE WHAT IT READS IS OF BULK AT MOST 1048576: true; the input reads as it did. -/
def tailChebyshevUptoRow : OpenClaim := { program := "ytmahmeopehhjfaa", sum := "a1fb99c9596b8811ffb53046168bff2119bdc96ffe35521964dc3864ed8a1c09", func := "heartwood/hwkeep.TailChebyshev", spec := "tailChebyshev", inPlace := ["math/bits.Add64", "math/bits.Sub64"], unfollowed := true, recurses := true, named := ["math/bits.divideError", "math/bits.overflowError"], apart := false, narrowed := true }
def TailChebyshevUptoSaid : Prop := tailChebyshevUptoRow.holds Try.pinned (OpenSpec.upto tailChebyshevSpec)

/-- 'hwkeep.TailBoth', WHERE WHAT IT READS IS OF BULK AT MOST 1048576: true; the input reads as it did. -/
def tailBothUptoRow : OpenClaim := { program := "ytmahmeopehhjfaa", sum := "a1fb99c9596b8811ffb53046168bff2119bdc96ffe35521964dc3864ed8a1c09", func := "heartwood/hwkeep.TailBoth", spec := "tailBoth", inPlace := ["math/bits.Add64", "math/bits.Sub64"], unfollowed := true, recurses := true, named := ["math/bits.divideError", "math/bits.overflowError"], apart := false, narrowed := true }
def TailBothUptoSaid : Prop := tailBothUptoRow.holds Try.pinned (OpenSpec.upto tailBothSpec)

end Rows
end Go.Proofs.Ytmahmeopehhjfaa
