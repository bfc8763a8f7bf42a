/-
  No cell of these rows narrows 'for every input' (looked for: loops, veiled, ifaces, maps, wideKeys, modest, calm, conditions, laid).
  DERIVED. THE GIVEN ROWS OF THIS SEAT. 12 by the template 'for every input the law returns true; each argument reads behind the call as it read before'; 0 by the template 'total and deterministic' (their statements: YtlaeibpanipefaaTotals.lean).
  GIVEN WITH THE SEED: the statements are not yours to turn. If you find one false, say at which input.
  Laid BY PROGRAM, IN A SANDBOX (cutbox-rows.mjs): the forced cells as the released guide's own fill.sh prints them over the translation f1734c738a60ade9… (all of the seat's roots in one cut). By AI agents, Wed Nov 11 2026. No macro, syntax, notation, axiom, sorry.
-/
import Derived.Test.YtlaeibpanipefaaChecked
import GoSem.Claim
import GoSem.ClaimJoined
import GoSem.ClaimMapViews
import Derived.JoinedTies
import Derived.KernelRfl
namespace Go.Proofs.Ytlaeibpanipefaa
/- THE CELL 'sum', in the pinned program and in every row, IS THE sha256 OF THE DUMP (.gsa) THAT YtlaeibpanipefaaProg.lean LOADS. Nothing in Lean hashes anything: it is a label: what it is worth is what the hold of that sum in a sandbox is worth. -/
noncomputable def Try.pinned : Pinned := { name := "ytlaeibpanipefaa", sum := "f1734c738a60ade9583a9d6d1dc61e2e965820ea2220d7d34e625ba17481bf27", checked := Try.checked }
namespace Rows
def none {H : Type} : Left H := { results := [], args := [] }

/-- 'hwkeep.RankPart': WHATEVER THE INPUT: true; the input reads as it did. -/
def rankPartSpec : ChangeSpec := { name := "rankPart", fn := fun _ => fun
  | [d1, d2, d3, d4] => { results := [.lit (.bool true)], args := [d1, d2, d3, d4] }
  | _ => none }
def rankPartRow : OpenClaim := { program := "ytlaeibpanipefaa", sum := "f1734c738a60ade9583a9d6d1dc61e2e965820ea2220d7d34e625ba17481bf27", func := "heartwood/hwkeep.RankPart", spec := "rankPart", unfollowed := true, recurses := true, apart := false }
def RankPartSaid : Prop := rankPartRow.holds Try.pinned (OpenSpec.ofChange rankPartSpec)

/-- ITS FALSE NEIGHBOUR: 'it returns false'. Refute it at one input. -/
def rankPartWrong : ChangeSpec := { name := "rankPart", fn := fun _ => fun
  | [d1, d2, d3, d4] => { results := [.lit (.bool false)], args := [d1, d2, d3, d4] }
  | _ => none }
def RankPartWrongFalsely : Prop := rankPartRow.holds Try.pinned (OpenSpec.ofChange rankPartWrong)

/-- 'hwkeep.RankSorts': WHATEVER THE INPUT: true; the input reads as it did. -/
def rankSortsSpec : ChangeSpec := { name := "rankSorts", fn := fun _ => fun
  | [d1, d2] => { results := [.lit (.bool true)], args := [d1, d2] }
  | _ => none }
def rankSortsRow : OpenClaim := { program := "ytlaeibpanipefaa", sum := "f1734c738a60ade9583a9d6d1dc61e2e965820ea2220d7d34e625ba17481bf27", func := "heartwood/hwkeep.RankSorts", spec := "rankSorts", unfollowed := true, recurses := true, apart := false }
def RankSortsSaid : Prop := rankSortsRow.holds Try.pinned (OpenSpec.ofChange rankSortsSpec)

/-- ITS FALSE NEIGHBOUR: 'it returns false'. Refute it at one input. -/
def rankSortsWrong : ChangeSpec := { name := "rankSorts", fn := fun _ => fun
  | [d1, d2] => { results := [.lit (.bool false)], args := [d1, d2] }
  | _ => none }
def RankSortsWrongFalsely : Prop := rankSortsRow.holds Try.pinned (OpenSpec.ofChange rankSortsWrong)

/-- 'hwkeep.RankMedian': WHATEVER THE INPUT: true; the input reads as it did. -/
def rankMedianSpec : ChangeSpec := { name := "rankMedian", fn := fun _ => fun
  | [d1, d2] => { results := [.lit (.bool true)], args := [d1, d2] }
  | _ => none }
def rankMedianRow : OpenClaim := { program := "ytlaeibpanipefaa", sum := "f1734c738a60ade9583a9d6d1dc61e2e965820ea2220d7d34e625ba17481bf27", func := "heartwood/hwkeep.RankMedian", spec := "rankMedian", unfollowed := true, recurses := true, apart := false }
def RankMedianSaid : Prop := rankMedianRow.holds Try.pinned (OpenSpec.ofChange rankMedianSpec)

/-- ITS FALSE NEIGHBOUR: 'it returns false'. Refute it at one input. -/
def rankMedianWrong : ChangeSpec := { name := "rankMedian", fn := fun _ => fun
  | [d1, d2] => { results := [.lit (.bool false)], args := [d1, d2] }
  | _ => none }
def RankMedianWrongFalsely : Prop := rankMedianRow.holds Try.pinned (OpenSpec.ofChange rankMedianWrong)

/-- 'hwkeep.RankEnds': WHATEVER THE INPUT: true; the input reads as it did. -/
def rankEndsSpec : ChangeSpec := { name := "rankEnds", fn := fun _ => fun
  | [d1, d2, d3, d4] => { results := [.lit (.bool true)], args := [d1, d2, d3, d4] }
  | _ => none }
def rankEndsRow : OpenClaim := { program := "ytlaeibpanipefaa", sum := "f1734c738a60ade9583a9d6d1dc61e2e965820ea2220d7d34e625ba17481bf27", func := "heartwood/hwkeep.RankEnds", spec := "rankEnds", unfollowed := true, recurses := true, apart := false }
def RankEndsSaid : Prop := rankEndsRow.holds Try.pinned (OpenSpec.ofChange rankEndsSpec)

/-- ITS FALSE NEIGHBOUR: 'it returns false'. Refute it at one input. -/
def rankEndsWrong : ChangeSpec := { name := "rankEnds", fn := fun _ => fun
  | [d1, d2, d3, d4] => { results := [.lit (.bool false)], args := [d1, d2, d3, d4] }
  | _ => none }
def RankEndsWrongFalsely : Prop := rankEndsRow.holds Try.pinned (OpenSpec.ofChange rankEndsWrong)

/-- 'hwkeep.VoteLevel': WHATEVER THE INPUT: true; the input reads as it did. -/
def voteLevelSpec : ChangeSpec := { name := "voteLevel", fn := fun _ => fun
  | [d1, d2, d3] => { results := [.lit (.bool true)], args := [d1, d2, d3] }
  | _ => none }
def voteLevelRow : OpenClaim := { program := "ytlaeibpanipefaa", sum := "f1734c738a60ade9583a9d6d1dc61e2e965820ea2220d7d34e625ba17481bf27", func := "heartwood/hwkeep.VoteLevel", spec := "voteLevel", unfollowed := true, recurses := true, apart := false }
def VoteLevelSaid : Prop := voteLevelRow.holds Try.pinned (OpenSpec.ofChange voteLevelSpec)

/-- ITS FALSE NEIGHBOUR: 'it returns false'. Refute it at one input. -/
def voteLevelWrong : ChangeSpec := { name := "voteLevel", fn := fun _ => fun
  | [d1, d2, d3] => { results := [.lit (.bool false)], args := [d1, d2, d3] }
  | _ => none }
def VoteLevelWrongFalsely : Prop := voteLevelRow.holds Try.pinned (OpenSpec.ofChange voteLevelWrong)

/-- 'hwkeep.VoteGrows': WHATEVER THE INPUT: true; the input reads as it did. -/
def voteGrowsSpec : ChangeSpec := { name := "voteGrows", fn := fun _ => fun
  | [d1, d2, d3, d4, d5] => { results := [.lit (.bool true)], args := [d1, d2, d3, d4, d5] }
  | _ => none }
def voteGrowsRow : OpenClaim := { program := "ytlaeibpanipefaa", sum := "f1734c738a60ade9583a9d6d1dc61e2e965820ea2220d7d34e625ba17481bf27", func := "heartwood/hwkeep.VoteGrows", spec := "voteGrows", unfollowed := true, recurses := true, apart := false }
def VoteGrowsSaid : Prop := voteGrowsRow.holds Try.pinned (OpenSpec.ofChange voteGrowsSpec)

/-- ITS FALSE NEIGHBOUR: 'it returns false'. Refute it at one input. -/
def voteGrowsWrong : ChangeSpec := { name := "voteGrows", fn := fun _ => fun
  | [d1, d2, d3, d4, d5] => { results := [.lit (.bool false)], args := [d1, d2, d3, d4, d5] }
  | _ => none }
def VoteGrowsWrongFalsely : Prop := voteGrowsRow.holds Try.pinned (OpenSpec.ofChange voteGrowsWrong)

/-- 'hwkeep.RankNear': WHATEVER THE INPUT: true; the input reads as it did. -/
def rankNearSpec : ChangeSpec := { name := "rankNear", fn := fun _ => fun
  | [d] => { results := [.lit (.bool true)], args := [d] }
  | _ => none }
def rankNearRow : OpenClaim := { program := "ytlaeibpanipefaa", sum := "f1734c738a60ade9583a9d6d1dc61e2e965820ea2220d7d34e625ba17481bf27", func := "heartwood/hwkeep.RankNear", spec := "rankNear", unfollowed := true, recurses := true, apart := false }
def RankNearSaid : Prop := rankNearRow.holds Try.pinned (OpenSpec.ofChange rankNearSpec)

/-- ITS FALSE NEIGHBOUR: 'it returns false'. Refute it at one input. -/
def rankNearWrong : ChangeSpec := { name := "rankNear", fn := fun _ => fun
  | [d] => { results := [.lit (.bool false)], args := [d] }
  | _ => none }
def RankNearWrongFalsely : Prop := rankNearRow.holds Try.pinned (OpenSpec.ofChange rankNearWrong)

/-- 'hwkeep.VoteEnds': WHATEVER THE INPUT: true; the input reads as it did. -/
def voteEndsSpec : ChangeSpec := { name := "voteEnds", fn := fun _ => fun
  | [d1, d2] => { results := [.lit (.bool true)], args := [d1, d2] }
  | _ => none }
def voteEndsRow : OpenClaim := { program := "ytlaeibpanipefaa", sum := "f1734c738a60ade9583a9d6d1dc61e2e965820ea2220d7d34e625ba17481bf27", func := "heartwood/hwkeep.VoteEnds", spec := "voteEnds", unfollowed := true, recurses := true, apart := false }
def VoteEndsSaid : Prop := voteEndsRow.holds Try.pinned (OpenSpec.ofChange voteEndsSpec)

/-- ITS FALSE NEIGHBOUR: 'it returns false'. Refute it at one input. -/
def voteEndsWrong : ChangeSpec := { name := "voteEnds", fn := fun _ => fun
  | [d1, d2] => { results := [.lit (.bool false)], args := [d1, d2] }
  | _ => none }
def VoteEndsWrongFalsely : Prop := voteEndsRow.holds Try.pinned (OpenSpec.ofChange voteEndsWrong)

/-- 'hwkeep.HistCounts': WHATEVER THE INPUT: true; the input reads as it did. -/
def histCountsSpec : ChangeSpec := { name := "histCounts", fn := fun _ => fun
  | [d1, d2, d3, d4, d5] => { results := [.lit (.bool true)], args := [d1, d2, d3, d4, d5] }
  | _ => none }
def histCountsRow : OpenClaim := { program := "ytlaeibpanipefaa", sum := "f1734c738a60ade9583a9d6d1dc61e2e965820ea2220d7d34e625ba17481bf27", func := "heartwood/hwkeep.HistCounts", spec := "histCounts", unfollowed := true, recurses := true, apart := false }
def HistCountsSaid : Prop := histCountsRow.holds Try.pinned (OpenSpec.ofChange histCountsSpec)

/-- ITS FALSE NEIGHBOUR: 'it returns false'. Refute it at one input. -/
def histCountsWrong : ChangeSpec := { name := "histCounts", fn := fun _ => fun
  | [d1, d2, d3, d4, d5] => { results := [.lit (.bool false)], args := [d1, d2, d3, d4, d5] }
  | _ => none }
def HistCountsWrongFalsely : Prop := histCountsRow.holds Try.pinned (OpenSpec.ofChange histCountsWrong)

/-- 'hwkeep.RankApart': WHATEVER THE INPUT: true; the input reads as it did. -/
def rankApartSpec : ChangeSpec := { name := "rankApart", fn := fun _ => fun
  | [d1, d2, d3] => { results := [.lit (.bool true)], args := [d1, d2, d3] }
  | _ => none }
def rankApartRow : OpenClaim := { program := "ytlaeibpanipefaa", sum := "f1734c738a60ade9583a9d6d1dc61e2e965820ea2220d7d34e625ba17481bf27", func := "heartwood/hwkeep.RankApart", spec := "rankApart", inPlace := ["slices.overlaps[int]"], unfollowed := true, recurses := true, apart := false }
def RankApartSaid : Prop := rankApartRow.holds Try.pinned (OpenSpec.ofChange rankApartSpec)

/-- ITS FALSE NEIGHBOUR: 'it returns false'. Refute it at one input. -/
def rankApartWrong : ChangeSpec := { name := "rankApart", fn := fun _ => fun
  | [d1, d2, d3] => { results := [.lit (.bool false)], args := [d1, d2, d3] }
  | _ => none }
def RankApartWrongFalsely : Prop := rankApartRow.holds Try.pinned (OpenSpec.ofChange rankApartWrong)

/-- 'hwkeep.RankPutCut': WHATEVER THE INPUT: true; the input reads as it did. -/
def rankPutCutSpec : ChangeSpec := { name := "rankPutCut", fn := fun _ => fun
  | [d1, d2] => { results := [.lit (.bool true)], args := [d1, d2] }
  | _ => none }
def rankPutCutRow : OpenClaim := { program := "ytlaeibpanipefaa", sum := "f1734c738a60ade9583a9d6d1dc61e2e965820ea2220d7d34e625ba17481bf27", func := "heartwood/hwkeep.RankPutCut", spec := "rankPutCut", inPlace := ["slices.overlaps[int]"], unfollowed := true, recurses := true, apart := false }
def RankPutCutSaid : Prop := rankPutCutRow.holds Try.pinned (OpenSpec.ofChange rankPutCutSpec)

/-- ITS FALSE NEIGHBOUR: 'it returns false'. Refute it at one input. -/
def rankPutCutWrong : ChangeSpec := { name := "rankPutCut", fn := fun _ => fun
  | [d1, d2] => { results := [.lit (.bool false)], args := [d1, d2] }
  | _ => none }
def RankPutCutWrongFalsely : Prop := rankPutCutRow.holds Try.pinned (OpenSpec.ofChange rankPutCutWrong)

/-- 'hwtop.TopTails': WHATEVER THE INPUT: true; the input reads as it did. -/
def topTailsSpec : ChangeSpec := { name := "topTails", fn := fun _ => fun
  | [d1, d2] => { results := [.lit (.bool true)], args := [d1, d2] }
  | _ => none }
def topTailsRow : OpenClaim := { program := "ytlaeibpanipefaa", sum := "f1734c738a60ade9583a9d6d1dc61e2e965820ea2220d7d34e625ba17481bf27", func := "heartwood/hwtop.TopTails", spec := "topTails", inPlace := ["math/bits.Add64", "math/bits.Sub64"], unfollowed := true, recurses := true, named := ["math/bits.divideError", "math/bits.overflowError"], apart := false }
def TopTailsSaid : Prop := topTailsRow.holds Try.pinned (OpenSpec.ofChange topTailsSpec)

/-- ITS FALSE NEIGHBOUR: 'it returns false'. Refute it at one input. -/
def topTailsWrong : ChangeSpec := { name := "topTails", fn := fun _ => fun
  | [d1, d2] => { results := [.lit (.bool false)], args := [d1, d2] }
  | _ => none }
def TopTailsWrongFalsely : Prop := topTailsRow.holds Try.pinned (OpenSpec.ofChange topTailsWrong)

/- THE SECOND FORM. 'bulk': how many values and letters a reading holds, each counted each time it is reached (what is shared counts as often as it is met; a slice's spare places count too). A statement '..UptoSaid' is the law's where the arguments, and the package variables that the reading takes, are together of bulk at most 1048576: NARROWER than '..Said'. Prove '..Said' where nothing that the law and all that it calls make is longer than what came in: it says more and counts as full. Else prove '..UptoSaid'. A law counts once. -/
mutual
def uptoBulk {H : Type} : DataW H → Nat
  | .lit (.string bytes) => bytes.length + 1
  | .lit _ => 1
  | .nil => 1
  | .ptr d => uptoBulk d + 1
  | .slice elems spare => uptoBulkAll elems + uptoBulkAll spare + 1
  | .agg parts => uptoBulkAll parts + 1
  | .iface _ d => uptoBulk d + 1
  | .map entries => uptoBulkEntries entries + 1
  | .held _ => 1
def uptoBulkAll {H : Type} : List (DataW H) → Nat
  | [] => 0
  | d :: r => uptoBulk d + uptoBulkAll r
def uptoBulkEntries {H : Type} : List (Lit × DataW H) → Nat
  | [] => 0
  | x :: r => uptoBulkEntry x + uptoBulkEntries r
def uptoBulkEntry {H : Type} : Lit × DataW H → Nat
  | (.string bytes, d) => bytes.length + uptoBulk d + 1
  | (_, d) => uptoBulk d + 1
 end
def uptoSmall : (H : Type) → List (DataW H) → Bool := fun _ ds => decide (uptoBulkAll ds ≤ 1048576)
def OpenSpec.upto (s : _root_.Go.ChangeSpec) : _root_.Go.OpenSpec := { _root_.Go.OpenSpec.ofChange s with cond := some uptoSmall }

/-- 'hwkeep.RankPart', WHERE WHAT IT READS IS OF BULK AT MOST 1048576: true; the input reads as it did. -/
def rankPartUptoRow : OpenClaim := { program := "ytlaeibpanipefaa", sum := "f1734c738a60ade9583a9d6d1dc61e2e965820ea2220d7d34e625ba17481bf27", func := "heartwood/hwkeep.RankPart", spec := "rankPart", unfollowed := true, recurses := true, apart := false, narrowed := true }
def RankPartUptoSaid : Prop := rankPartUptoRow.holds Try.pinned (OpenSpec.upto rankPartSpec)

/-- 'hwkeep.RankSorts', WHERE WHAT IT READS IS OF BULK AT MOST 1048576: true; the input reads as it did. -/
def rankSortsUptoRow : OpenClaim := { program := "ytlaeibpanipefaa", sum := "f1734c738a60ade9583a9d6d1dc61e2e965820ea2220d7d34e625ba17481bf27", func := "heartwood/hwkeep.RankSorts", spec := "rankSorts", unfollowed := true, recurses := true, apart := false, narrowed := true }
def RankSortsUptoSaid : Prop := rankSortsUptoRow.holds Try.pinned (OpenSpec.upto rankSortsSpec)

/-- 'hwkeep.RankMedian', WHERE WHAT IT READS IS OF BULK AT MOST 1048576: true; the input reads as it did. -/
def rankMedianUptoRow : OpenClaim := { program := "ytlaeibpanipefaa", sum := "f1734c738a60ade9583a9d6d1dc61e2e965820ea2220d7d34e625ba17481bf27", func := "heartwood/hwkeep.RankMedian", spec := "rankMedian", unfollowed := true, recurses := true, apart := false, narrowed := true }
def RankMedianUptoSaid : Prop := rankMedianUptoRow.holds Try.pinned (OpenSpec.upto rankMedianSpec)

/-- 'hwkeep.RankEnds', WHERE WHAT IT READS IS OF BULK AT MOST 1048576: true; the input reads as it did. -/
def rankEndsUptoRow : OpenClaim := { program := "ytlaeibpanipefaa", sum := "f1734c738a60ade9583a9d6d1dc61e2e965820ea2220d7d34e625ba17481bf27", func := "heartwood/hwkeep.RankEnds", spec := "rankEnds", unfollowed := true, recurses := true, apart := false, narrowed := true }
def RankEndsUptoSaid : Prop := rankEndsUptoRow.holds Try.pinned (OpenSpec.upto rankEndsSpec)

/-- 'hwkeep.VoteLevel', WHERE WHAT IT READS IS OF BULK AT MOST 1048576: true; the input reads as it did. -/
def voteLevelUptoRow : OpenClaim := { program := "ytlaeibpanipefaa", sum := "f1734c738a60ade9583a9d6d1dc61e2e965820ea2220d7d34e625ba17481bf27", func := "heartwood/hwkeep.VoteLevel", spec := "voteLevel", unfollowed := true, recurses := true, apart := false, narrowed := true }
def VoteLevelUptoSaid : Prop := voteLevelUptoRow.holds Try.pinned (OpenSpec.upto voteLevelSpec)

/-- 'hwkeep.VoteGrows', WHERE WHAT IT READS IS OF BULK AT MOST 1048576: true; the input reads as it did. -/
def voteGrowsUptoRow : OpenClaim := { program := "ytlaeibpanipefaa", sum := "f1734c738a60ade9583a9d6d1dc61e2e965820ea2220d7d34e625ba17481bf27", func := "heartwood/hwkeep.VoteGrows", spec := "voteGrows", unfollowed := true, recurses := true, apart := false, narrowed := true }
def VoteGrowsUptoSaid : Prop := voteGrowsUptoRow.holds Try.pinned (OpenSpec.upto voteGrowsSpec)

/-- 'hwkeep.RankNear', WHERE WHAT IT READS IS OF BULK AT MOST 1048576: true; the input reads as it did. -/
def rankNearUptoRow : OpenClaim := { program := "ytlaeibpanipefaa", sum := "f1734c738a60ade9583a9d6d1dc61e2e965820ea2220d7d34e625ba17481bf27", func := "heartwood/hwkeep.RankNear", spec := "rankNear", unfollowed := true, recurses := true, apart := false, narrowed := true }
def RankNearUptoSaid : Prop := rankNearUptoRow.holds Try.pinned (OpenSpec.upto rankNearSpec)

/-- 'hwkeep.VoteEnds', WHERE WHAT IT READS IS OF BULK AT MOST 1048576: true; the input reads as it did. -/
def voteEndsUptoRow : OpenClaim := { program := "ytlaeibpanipefaa", sum := "f1734c738a60ade9583a9d6d1dc61e2e965820ea2220d7d34e625ba17481bf27", func := "heartwood/hwkeep.VoteEnds", spec := "voteEnds", unfollowed := true, recurses := true, apart := false, narrowed := true }
def VoteEndsUptoSaid : Prop := voteEndsUptoRow.holds Try.pinned (OpenSpec.upto voteEndsSpec)

/-- 'hwkeep.HistCounts', WHERE WHAT IT READS IS OF BULK AT MOST 1048576: true; the input reads as it did. -/
def histCountsUptoRow : OpenClaim := { program := "ytlaeibpanipefaa", sum := "f1734c738a60ade9583a9d6d1dc61e2e965820ea2220d7d34e625ba17481bf27", func := "heartwood/hwkeep.HistCounts", spec := "histCounts", unfollowed := true, recurses := true, apart := false, narrowed := true }
def HistCountsUptoSaid : Prop := histCountsUptoRow.holds Try.pinned (OpenSpec.upto histCountsSpec)

/-- 'hwkeep.RankApart', WHERE WHAT IT READS IS OF BULK AT MOST 1048576: true; the input reads as it did. -/
def rankApartUptoRow : OpenClaim := { program := "ytlaeibpanipefaa", sum := "f1734c738a60ade9583a9d6d1dc61e2e965820ea2220d7d34e625ba17481bf27", func := "heartwood/hwkeep.RankApart", spec := "rankApart", inPlace := ["slices.overlaps[int]"], unfollowed := true, recurses := true, apart := false, narrowed := true }
def RankApartUptoSaid : Prop := rankApartUptoRow.holds Try.pinned (OpenSpec.upto rankApartSpec)

/-- 'hwkeep.RankPutCut', WHERE WHAT IT READS IS OF BULK AT MOST 1048576: true; the input reads as it did. -/
def rankPutCutUptoRow : OpenClaim := { program := "ytlaeibpanipefaa", sum := "f1734c738a60ade9583a9d6d1dc61e2e965820ea2220d7d34e625ba17481bf27", func := "heartwood/hwkeep.RankPutCut", spec := "rankPutCut", inPlace := ["slices.overlaps[int]"], unfollowed := true, recurses := true, apart := false, narrowed := true }
def RankPutCutUptoSaid : Prop := rankPutCutUptoRow.holds Try.pinned (OpenSpec.upto rankPutCutSpec)

/-- 'hwtop.TopTails', WHERE WHAT IT READS IS OF BULK AT MOST 1048576: true; the input reads as it did. -/
def topTailsUptoRow : OpenClaim := { program := "ytlaeibpanipefaa", sum := "f1734c738a60ade9583a9d6d1dc61e2e965820ea2220d7d34e625ba17481bf27", func := "heartwood/hwtop.TopTails", spec := "topTails", inPlace := ["math/bits.Add64", "math/bits.Sub64"], unfollowed := true, recurses := true, named := ["math/bits.divideError", "math/bits.overflowError"], apart := false, narrowed := true }
def TopTailsUptoSaid : Prop := topTailsUptoRow.holds Try.pinned (OpenSpec.upto topTailsSpec)

end Rows
end Go.Proofs.Ytlaeibpanipefaa
