/-
  No cell of these rows narrows 'for every input' (looked for: loops, veiled, ifaces, maps, wideKeys, modest, calm, conditions, laid).
  DERIVED. THE GIVEN ROWS OF THIS SEAT. 21 by the template 'for every input the law returns true; each argument reads behind the call as it read before'; 0 by the template 'total and deterministic' (their statements: YtpomdnglknbanaaTotals.lean).
  GIVEN WITH THE SEED: the statements are not yours to turn. If you find one false, say at which input.
  Laid BY PROGRAM, IN A SANDBOX (cutbox-rows.mjs): the forced cells as the released guide's own fill.sh prints them over the translation bbfa567cdb46b80a… (all of the seat's roots in one cut). By AI agents, Wed Nov 11 2026. No macro, syntax, notation, axiom, sorry.
-/
import Derived.Test.YtpomdnglknbanaaChecked
import GoSem.Claim
import GoSem.ClaimJoined
import GoSem.ClaimMapViews
import Derived.JoinedTies
import Derived.KernelRfl
namespace Go.Proofs.Ytpomdnglknbanaa
/- THE CELL 'sum', in the pinned program and in every row, IS THE sha256 OF THE DUMP (.gsa) THAT YtpomdnglknbanaaProg.lean LOADS. Nothing in Lean hashes anything: it is a label: what it is worth is what the hold of that sum in a sandbox is worth. -/
noncomputable def Try.pinned : Pinned := { name := "ytpomdnglknbanaa", sum := "bbfa567cdb46b80ae641a00f8779862c6ed81d1fe1c1d6b871ff4dee3060f8d4", checked := Try.checked }
namespace Rows
def none {H : Type} : Left H := { results := [], args := [] }

/-- 'hwtop.TopWatch': WHATEVER THE INPUT: true; the input reads as it did. -/
def topWatchSpec : ChangeSpec := { name := "topWatch", fn := fun _ => fun
  | [d1, d2] => { results := [.lit (.bool true)], args := [d1, d2] }
  | _ => none }
def topWatchRow : OpenClaim := { program := "ytpomdnglknbanaa", sum := "bbfa567cdb46b80ae641a00f8779862c6ed81d1fe1c1d6b871ff4dee3060f8d4", func := "heartwood/hwtop.TopWatch", spec := "topWatch", inPlace := ["math/bits.Add64", "internal/bytealg.abigen_runtime_cmpstring", "slices.overlaps[heartwood/api.Peer]"], unfollowed := true, recurses := true, plainKeys := false, apart := false }
def TopWatchSaid : Prop := topWatchRow.holds Try.pinned (OpenSpec.ofChange topWatchSpec)

/-- ITS FALSE NEIGHBOUR: 'it returns false'. Refute it at one input. -/
def topWatchWrong : ChangeSpec := { name := "topWatch", fn := fun _ => fun
  | [d1, d2] => { results := [.lit (.bool false)], args := [d1, d2] }
  | _ => none }
def TopWatchWrongFalsely : Prop := topWatchRow.holds Try.pinned (OpenSpec.ofChange topWatchWrong)

/-- 'hwkeep.PeersApart': WHATEVER THE INPUT: true; the input reads as it did. -/
def peersApartSpec : ChangeSpec := { name := "peersApart", fn := fun _ => fun
  | [d1, d2, d3, d4, d5, d6] => { results := [.lit (.bool true)], args := [d1, d2, d3, d4, d5, d6] }
  | _ => none }
def peersApartRow : OpenClaim := { program := "ytpomdnglknbanaa", sum := "bbfa567cdb46b80ae641a00f8779862c6ed81d1fe1c1d6b871ff4dee3060f8d4", func := "heartwood/hwkeep.PeersApart", spec := "peersApart", inPlace := ["internal/bytealg.abigen_runtime_cmpstring", "slices.overlaps[heartwood/api.Peer]"], unfollowed := true, recurses := true, plainKeys := false, apart := false }
def PeersApartSaid : Prop := peersApartRow.holds Try.pinned (OpenSpec.ofChange peersApartSpec)

/-- ITS FALSE NEIGHBOUR: 'it returns false'. Refute it at one input. -/
def peersApartWrong : ChangeSpec := { name := "peersApart", fn := fun _ => fun
  | [d1, d2, d3, d4, d5, d6] => { results := [.lit (.bool false)], args := [d1, d2, d3, d4, d5, d6] }
  | _ => none }
def PeersApartWrongFalsely : Prop := peersApartRow.holds Try.pinned (OpenSpec.ofChange peersApartWrong)

/-- 'hwkeep.PeersBack': WHATEVER THE INPUT: true; the input reads as it did. -/
def peersBackSpec : ChangeSpec := { name := "peersBack", fn := fun _ => fun
  | [d1, d2, d3, d4, d5] => { results := [.lit (.bool true)], args := [d1, d2, d3, d4, d5] }
  | _ => none }
def peersBackRow : OpenClaim := { program := "ytpomdnglknbanaa", sum := "bbfa567cdb46b80ae641a00f8779862c6ed81d1fe1c1d6b871ff4dee3060f8d4", func := "heartwood/hwkeep.PeersBack", spec := "peersBack", inPlace := ["internal/bytealg.abigen_runtime_cmpstring", "slices.overlaps[heartwood/api.Peer]"], unfollowed := true, recurses := true, plainKeys := false, apart := false }
def PeersBackSaid : Prop := peersBackRow.holds Try.pinned (OpenSpec.ofChange peersBackSpec)

/-- ITS FALSE NEIGHBOUR: 'it returns false'. Refute it at one input. -/
def peersBackWrong : ChangeSpec := { name := "peersBack", fn := fun _ => fun
  | [d1, d2, d3, d4, d5] => { results := [.lit (.bool false)], args := [d1, d2, d3, d4, d5] }
  | _ => none }
def PeersBackWrongFalsely : Prop := peersBackRow.holds Try.pinned (OpenSpec.ofChange peersBackWrong)

/-- 'hwkeep.PeersHeard': WHATEVER THE INPUT: true; the input reads as it did. -/
def peersHeardSpec : ChangeSpec := { name := "peersHeard", fn := fun _ => fun
  | [d1, d2, d3] => { results := [.lit (.bool true)], args := [d1, d2, d3] }
  | _ => none }
def peersHeardRow : OpenClaim := { program := "ytpomdnglknbanaa", sum := "bbfa567cdb46b80ae641a00f8779862c6ed81d1fe1c1d6b871ff4dee3060f8d4", func := "heartwood/hwkeep.PeersHeard", spec := "peersHeard", inPlace := ["internal/bytealg.abigen_runtime_cmpstring", "slices.overlaps[heartwood/api.Peer]"], unfollowed := true, recurses := true, plainKeys := false, apart := false }
def PeersHeardSaid : Prop := peersHeardRow.holds Try.pinned (OpenSpec.ofChange peersHeardSpec)

/-- ITS FALSE NEIGHBOUR: 'it returns false'. Refute it at one input. -/
def peersHeardWrong : ChangeSpec := { name := "peersHeard", fn := fun _ => fun
  | [d1, d2, d3] => { results := [.lit (.bool false)], args := [d1, d2, d3] }
  | _ => none }
def PeersHeardWrongFalsely : Prop := peersHeardRow.holds Try.pinned (OpenSpec.ofChange peersHeardWrong)

/-- 'hwkeep.PeersOwn': WHATEVER THE INPUT: true; the input reads as it did. -/
def peersOwnSpec : ChangeSpec := { name := "peersOwn", fn := fun _ => fun
  | [d1, d2, d3, d4] => { results := [.lit (.bool true)], args := [d1, d2, d3, d4] }
  | _ => none }
def peersOwnRow : OpenClaim := { program := "ytpomdnglknbanaa", sum := "bbfa567cdb46b80ae641a00f8779862c6ed81d1fe1c1d6b871ff4dee3060f8d4", func := "heartwood/hwkeep.PeersOwn", spec := "peersOwn", inPlace := ["internal/bytealg.abigen_runtime_cmpstring", "slices.overlaps[heartwood/api.Peer]"], unfollowed := true, recurses := true, plainKeys := false, apart := false }
def PeersOwnSaid : Prop := peersOwnRow.holds Try.pinned (OpenSpec.ofChange peersOwnSpec)

/-- ITS FALSE NEIGHBOUR: 'it returns false'. Refute it at one input. -/
def peersOwnWrong : ChangeSpec := { name := "peersOwn", fn := fun _ => fun
  | [d1, d2, d3, d4] => { results := [.lit (.bool false)], args := [d1, d2, d3, d4] }
  | _ => none }
def PeersOwnWrongFalsely : Prop := peersOwnRow.holds Try.pinned (OpenSpec.ofChange peersOwnWrong)

/-- 'hwkeep.NodeBeats': WHATEVER THE INPUT: true; the input reads as it did. -/
def nodeBeatsSpec : ChangeSpec := { name := "nodeBeats", fn := fun _ => fun
  | [d1, d2, d3] => { results := [.lit (.bool true)], args := [d1, d2, d3] }
  | _ => none }
def nodeBeatsRow : OpenClaim := { program := "ytpomdnglknbanaa", sum := "bbfa567cdb46b80ae641a00f8779862c6ed81d1fe1c1d6b871ff4dee3060f8d4", func := "heartwood/hwkeep.NodeBeats", spec := "nodeBeats", inPlace := ["math/bits.Add64", "internal/bytealg.abigen_runtime_cmpstring", "slices.overlaps[heartwood/api.Peer]"], unfollowed := true, recurses := true, plainKeys := false, apart := false }
def NodeBeatsSaid : Prop := nodeBeatsRow.holds Try.pinned (OpenSpec.ofChange nodeBeatsSpec)

/-- ITS FALSE NEIGHBOUR: 'it returns false'. Refute it at one input. -/
def nodeBeatsWrong : ChangeSpec := { name := "nodeBeats", fn := fun _ => fun
  | [d1, d2, d3] => { results := [.lit (.bool false)], args := [d1, d2, d3] }
  | _ => none }
def NodeBeatsWrongFalsely : Prop := nodeBeatsRow.holds Try.pinned (OpenSpec.ofChange nodeBeatsWrong)

/-- 'hwkeep.TownAlone': WHATEVER THE INPUT: true; the input reads as it did. -/
def townAloneSpec : ChangeSpec := { name := "townAlone", fn := fun _ => fun
  | [d1, d2] => { results := [.lit (.bool true)], args := [d1, d2] }
  | _ => none }
def townAloneRow : OpenClaim := { program := "ytpomdnglknbanaa", sum := "bbfa567cdb46b80ae641a00f8779862c6ed81d1fe1c1d6b871ff4dee3060f8d4", func := "heartwood/hwkeep.TownAlone", spec := "townAlone", inPlace := ["internal/bytealg.abigen_runtime_cmpstring", "slices.overlaps[heartwood/api.Peer]", "math/bits.Add64"], unfollowed := true, recurses := true, plainKeys := false, apart := false }
def TownAloneSaid : Prop := townAloneRow.holds Try.pinned (OpenSpec.ofChange townAloneSpec)

/-- ITS FALSE NEIGHBOUR: 'it returns false'. Refute it at one input. -/
def townAloneWrong : ChangeSpec := { name := "townAlone", fn := fun _ => fun
  | [d1, d2] => { results := [.lit (.bool false)], args := [d1, d2] }
  | _ => none }
def TownAloneWrongFalsely : Prop := townAloneRow.holds Try.pinned (OpenSpec.ofChange townAloneWrong)

/-- 'hwkeep.NodeTrust': WHATEVER THE INPUT: true; the input reads as it did. -/
def nodeTrustSpec : ChangeSpec := { name := "nodeTrust", fn := fun _ => fun
  | [d1, d2, d3] => { results := [.lit (.bool true)], args := [d1, d2, d3] }
  | _ => none }
def nodeTrustRow : OpenClaim := { program := "ytpomdnglknbanaa", sum := "bbfa567cdb46b80ae641a00f8779862c6ed81d1fe1c1d6b871ff4dee3060f8d4", func := "heartwood/hwkeep.NodeTrust", spec := "nodeTrust", inPlace := ["math/bits.Add64", "internal/bytealg.abigen_runtime_cmpstring", "slices.overlaps[heartwood/api.Peer]"], unfollowed := true, recurses := true, plainKeys := false, apart := false }
def NodeTrustSaid : Prop := nodeTrustRow.holds Try.pinned (OpenSpec.ofChange nodeTrustSpec)

/-- ITS FALSE NEIGHBOUR: 'it returns false'. Refute it at one input. -/
def nodeTrustWrong : ChangeSpec := { name := "nodeTrust", fn := fun _ => fun
  | [d1, d2, d3] => { results := [.lit (.bool false)], args := [d1, d2, d3] }
  | _ => none }
def NodeTrustWrongFalsely : Prop := nodeTrustRow.holds Try.pinned (OpenSpec.ofChange nodeTrustWrong)

/-- 'hwkeep.NodeLater': WHATEVER THE INPUT: true; the input reads as it did. -/
def nodeLaterSpec : ChangeSpec := { name := "nodeLater", fn := fun _ => fun
  | [d1, d2, d3, d4] => { results := [.lit (.bool true)], args := [d1, d2, d3, d4] }
  | _ => none }
def nodeLaterRow : OpenClaim := { program := "ytpomdnglknbanaa", sum := "bbfa567cdb46b80ae641a00f8779862c6ed81d1fe1c1d6b871ff4dee3060f8d4", func := "heartwood/hwkeep.NodeLater", spec := "nodeLater", inPlace := ["math/bits.Add64", "internal/bytealg.abigen_runtime_cmpstring", "slices.overlaps[heartwood/api.Peer]"], unfollowed := true, recurses := true, plainKeys := false, apart := false }
def NodeLaterSaid : Prop := nodeLaterRow.holds Try.pinned (OpenSpec.ofChange nodeLaterSpec)

/-- ITS FALSE NEIGHBOUR: 'it returns false'. Refute it at one input. -/
def nodeLaterWrong : ChangeSpec := { name := "nodeLater", fn := fun _ => fun
  | [d1, d2, d3, d4] => { results := [.lit (.bool false)], args := [d1, d2, d3, d4] }
  | _ => none }
def NodeLaterWrongFalsely : Prop := nodeLaterRow.holds Try.pinned (OpenSpec.ofChange nodeLaterWrong)

/-- 'hwkeep.NodeTurns': WHATEVER THE INPUT: true; the input reads as it did. -/
def nodeTurnsSpec : ChangeSpec := { name := "nodeTurns", fn := fun _ => fun
  | [d1, d2, d3] => { results := [.lit (.bool true)], args := [d1, d2, d3] }
  | _ => none }
def nodeTurnsRow : OpenClaim := { program := "ytpomdnglknbanaa", sum := "bbfa567cdb46b80ae641a00f8779862c6ed81d1fe1c1d6b871ff4dee3060f8d4", func := "heartwood/hwkeep.NodeTurns", spec := "nodeTurns", inPlace := ["math/bits.Add64", "internal/bytealg.abigen_runtime_cmpstring", "slices.overlaps[heartwood/api.Peer]"], unfollowed := true, recurses := true, plainKeys := false, apart := false }
def NodeTurnsSaid : Prop := nodeTurnsRow.holds Try.pinned (OpenSpec.ofChange nodeTurnsSpec)

/-- ITS FALSE NEIGHBOUR: 'it returns false'. Refute it at one input. -/
def nodeTurnsWrong : ChangeSpec := { name := "nodeTurns", fn := fun _ => fun
  | [d1, d2, d3] => { results := [.lit (.bool false)], args := [d1, d2, d3] }
  | _ => none }
def NodeTurnsWrongFalsely : Prop := nodeTurnsRow.holds Try.pinned (OpenSpec.ofChange nodeTurnsWrong)

/-- 'hwkeep.NodeSure': WHATEVER THE INPUT: true; the input reads as it did. -/
def nodeSureSpec : ChangeSpec := { name := "nodeSure", fn := fun _ => fun
  | [d1, d2, d3] => { results := [.lit (.bool true)], args := [d1, d2, d3] }
  | _ => none }
def nodeSureRow : OpenClaim := { program := "ytpomdnglknbanaa", sum := "bbfa567cdb46b80ae641a00f8779862c6ed81d1fe1c1d6b871ff4dee3060f8d4", func := "heartwood/hwkeep.NodeSure", spec := "nodeSure", inPlace := ["math/bits.Add64", "internal/bytealg.abigen_runtime_cmpstring", "slices.overlaps[heartwood/api.Peer]"], unfollowed := true, recurses := true, plainKeys := false, apart := false }
def NodeSureSaid : Prop := nodeSureRow.holds Try.pinned (OpenSpec.ofChange nodeSureSpec)

/-- ITS FALSE NEIGHBOUR: 'it returns false'. Refute it at one input. -/
def nodeSureWrong : ChangeSpec := { name := "nodeSure", fn := fun _ => fun
  | [d1, d2, d3] => { results := [.lit (.bool false)], args := [d1, d2, d3] }
  | _ => none }
def NodeSureWrongFalsely : Prop := nodeSureRow.holds Try.pinned (OpenSpec.ofChange nodeSureWrong)

/-- 'hwkeep.NodeWindows': WHATEVER THE INPUT: true; the input reads as it did. -/
def nodeWindowsSpec : ChangeSpec := { name := "nodeWindows", fn := fun _ => fun
  | [d1, d2, d3] => { results := [.lit (.bool true)], args := [d1, d2, d3] }
  | _ => none }
def nodeWindowsRow : OpenClaim := { program := "ytpomdnglknbanaa", sum := "bbfa567cdb46b80ae641a00f8779862c6ed81d1fe1c1d6b871ff4dee3060f8d4", func := "heartwood/hwkeep.NodeWindows", spec := "nodeWindows", inPlace := ["math/bits.Add64", "internal/bytealg.abigen_runtime_cmpstring", "slices.overlaps[heartwood/api.Peer]"], unfollowed := true, recurses := true, plainKeys := false, apart := false }
def NodeWindowsSaid : Prop := nodeWindowsRow.holds Try.pinned (OpenSpec.ofChange nodeWindowsSpec)

/-- ITS FALSE NEIGHBOUR: 'it returns false'. Refute it at one input. -/
def nodeWindowsWrong : ChangeSpec := { name := "nodeWindows", fn := fun _ => fun
  | [d1, d2, d3] => { results := [.lit (.bool false)], args := [d1, d2, d3] }
  | _ => none }
def NodeWindowsWrongFalsely : Prop := nodeWindowsRow.holds Try.pinned (OpenSpec.ofChange nodeWindowsWrong)

/-- 'hwkeep.NodeJoins': WHATEVER THE INPUT: true; the input reads as it did. -/
def nodeJoinsSpec : ChangeSpec := { name := "nodeJoins", fn := fun _ => fun
  | [d1, d2, d3, d4] => { results := [.lit (.bool true)], args := [d1, d2, d3, d4] }
  | _ => none }
def nodeJoinsRow : OpenClaim := { program := "ytpomdnglknbanaa", sum := "bbfa567cdb46b80ae641a00f8779862c6ed81d1fe1c1d6b871ff4dee3060f8d4", func := "heartwood/hwkeep.NodeJoins", spec := "nodeJoins", inPlace := ["math/bits.Add64", "internal/bytealg.abigen_runtime_cmpstring", "slices.overlaps[heartwood/api.Peer]"], unfollowed := true, recurses := true, plainKeys := false, apart := false }
def NodeJoinsSaid : Prop := nodeJoinsRow.holds Try.pinned (OpenSpec.ofChange nodeJoinsSpec)

/-- ITS FALSE NEIGHBOUR: 'it returns false'. Refute it at one input. -/
def nodeJoinsWrong : ChangeSpec := { name := "nodeJoins", fn := fun _ => fun
  | [d1, d2, d3, d4] => { results := [.lit (.bool false)], args := [d1, d2, d3, d4] }
  | _ => none }
def NodeJoinsWrongFalsely : Prop := nodeJoinsRow.holds Try.pinned (OpenSpec.ofChange nodeJoinsWrong)

/-- 'hwkeep.NodeQuiet': WHATEVER THE INPUT: true; the input reads as it did. -/
def nodeQuietSpec : ChangeSpec := { name := "nodeQuiet", fn := fun _ => fun
  | [d1, d2, d3, d4] => { results := [.lit (.bool true)], args := [d1, d2, d3, d4] }
  | _ => none }
def nodeQuietRow : OpenClaim := { program := "ytpomdnglknbanaa", sum := "bbfa567cdb46b80ae641a00f8779862c6ed81d1fe1c1d6b871ff4dee3060f8d4", func := "heartwood/hwkeep.NodeQuiet", spec := "nodeQuiet", inPlace := ["math/bits.Add64", "internal/bytealg.abigen_runtime_cmpstring", "slices.overlaps[heartwood/api.Peer]"], unfollowed := true, recurses := true, plainKeys := false, apart := false }
def NodeQuietSaid : Prop := nodeQuietRow.holds Try.pinned (OpenSpec.ofChange nodeQuietSpec)

/-- ITS FALSE NEIGHBOUR: 'it returns false'. Refute it at one input. -/
def nodeQuietWrong : ChangeSpec := { name := "nodeQuiet", fn := fun _ => fun
  | [d1, d2, d3, d4] => { results := [.lit (.bool false)], args := [d1, d2, d3, d4] }
  | _ => none }
def NodeQuietWrongFalsely : Prop := nodeQuietRow.holds Try.pinned (OpenSpec.ofChange nodeQuietWrong)

/-- 'hwkeep.TownFresh': WHATEVER THE INPUT: true; the input reads as it did. -/
def townFreshSpec : ChangeSpec := { name := "townFresh", fn := fun _ => fun
  | [d1, d2, d3] => { results := [.lit (.bool true)], args := [d1, d2, d3] }
  | _ => none }
def townFreshRow : OpenClaim := { program := "ytpomdnglknbanaa", sum := "bbfa567cdb46b80ae641a00f8779862c6ed81d1fe1c1d6b871ff4dee3060f8d4", func := "heartwood/hwkeep.TownFresh", spec := "townFresh", inPlace := ["internal/bytealg.abigen_runtime_cmpstring", "slices.overlaps[heartwood/api.Peer]", "math/bits.Add64"], unfollowed := true, recurses := true, plainKeys := false, apart := false }
def TownFreshSaid : Prop := townFreshRow.holds Try.pinned (OpenSpec.ofChange townFreshSpec)

/-- ITS FALSE NEIGHBOUR: 'it returns false'. Refute it at one input. -/
def townFreshWrong : ChangeSpec := { name := "townFresh", fn := fun _ => fun
  | [d1, d2, d3] => { results := [.lit (.bool false)], args := [d1, d2, d3] }
  | _ => none }
def TownFreshWrongFalsely : Prop := townFreshRow.holds Try.pinned (OpenSpec.ofChange townFreshWrong)

/-- 'hwkeep.TownTwice': WHATEVER THE INPUT: true; the input reads as it did. -/
def townTwiceSpec : ChangeSpec := { name := "townTwice", fn := fun _ => fun
  | [d1, d2, d3] => { results := [.lit (.bool true)], args := [d1, d2, d3] }
  | _ => none }
def townTwiceRow : OpenClaim := { program := "ytpomdnglknbanaa", sum := "bbfa567cdb46b80ae641a00f8779862c6ed81d1fe1c1d6b871ff4dee3060f8d4", func := "heartwood/hwkeep.TownTwice", spec := "townTwice", inPlace := ["internal/bytealg.abigen_runtime_cmpstring", "slices.overlaps[heartwood/api.Peer]", "math/bits.Add64"], unfollowed := true, recurses := true, plainKeys := false, apart := false }
def TownTwiceSaid : Prop := townTwiceRow.holds Try.pinned (OpenSpec.ofChange townTwiceSpec)

/-- ITS FALSE NEIGHBOUR: 'it returns false'. Refute it at one input. -/
def townTwiceWrong : ChangeSpec := { name := "townTwice", fn := fun _ => fun
  | [d1, d2, d3] => { results := [.lit (.bool false)], args := [d1, d2, d3] }
  | _ => none }
def TownTwiceWrongFalsely : Prop := townTwiceRow.holds Try.pinned (OpenSpec.ofChange townTwiceWrong)

/-- 'hwkeep.TownHeard': WHATEVER THE INPUT: true; the input reads as it did. -/
def townHeardSpec : ChangeSpec := { name := "townHeard", fn := fun _ => fun
  | [d1, d2] => { results := [.lit (.bool true)], args := [d1, d2] }
  | _ => none }
def townHeardRow : OpenClaim := { program := "ytpomdnglknbanaa", sum := "bbfa567cdb46b80ae641a00f8779862c6ed81d1fe1c1d6b871ff4dee3060f8d4", func := "heartwood/hwkeep.TownHeard", spec := "townHeard", inPlace := ["internal/bytealg.abigen_runtime_cmpstring", "slices.overlaps[heartwood/api.Peer]", "math/bits.Add64"], unfollowed := true, recurses := true, plainKeys := false, apart := false }
def TownHeardSaid : Prop := townHeardRow.holds Try.pinned (OpenSpec.ofChange townHeardSpec)

/-- ITS FALSE NEIGHBOUR: 'it returns false'. Refute it at one input. -/
def townHeardWrong : ChangeSpec := { name := "townHeard", fn := fun _ => fun
  | [d1, d2] => { results := [.lit (.bool false)], args := [d1, d2] }
  | _ => none }
def TownHeardWrongFalsely : Prop := townHeardRow.holds Try.pinned (OpenSpec.ofChange townHeardWrong)

/-- 'hwkeep.NodeLeave': WHATEVER THE INPUT: true; the input reads as it did. -/
def nodeLeaveSpec : ChangeSpec := { name := "nodeLeave", fn := fun _ => fun
  | [d1, d2, d3, d4] => { results := [.lit (.bool true)], args := [d1, d2, d3, d4] }
  | _ => none }
def nodeLeaveRow : OpenClaim := { program := "ytpomdnglknbanaa", sum := "bbfa567cdb46b80ae641a00f8779862c6ed81d1fe1c1d6b871ff4dee3060f8d4", func := "heartwood/hwkeep.NodeLeave", spec := "nodeLeave", inPlace := ["math/bits.Add64", "internal/bytealg.abigen_runtime_cmpstring", "slices.overlaps[heartwood/api.Peer]"], unfollowed := true, recurses := true, plainKeys := false, apart := false }
def NodeLeaveSaid : Prop := nodeLeaveRow.holds Try.pinned (OpenSpec.ofChange nodeLeaveSpec)

/-- ITS FALSE NEIGHBOUR: 'it returns false'. Refute it at one input. -/
def nodeLeaveWrong : ChangeSpec := { name := "nodeLeave", fn := fun _ => fun
  | [d1, d2, d3, d4] => { results := [.lit (.bool false)], args := [d1, d2, d3, d4] }
  | _ => none }
def NodeLeaveWrongFalsely : Prop := nodeLeaveRow.holds Try.pinned (OpenSpec.ofChange nodeLeaveWrong)

/-- 'hwkeep.TownStops': WHATEVER THE INPUT: true; the input reads as it did. -/
def townStopsSpec : ChangeSpec := { name := "townStops", fn := fun _ => fun
  | [d1, d2, d3, d4] => { results := [.lit (.bool true)], args := [d1, d2, d3, d4] }
  | _ => none }
def townStopsRow : OpenClaim := { program := "ytpomdnglknbanaa", sum := "bbfa567cdb46b80ae641a00f8779862c6ed81d1fe1c1d6b871ff4dee3060f8d4", func := "heartwood/hwkeep.TownStops", spec := "townStops", inPlace := ["internal/bytealg.abigen_runtime_cmpstring", "slices.overlaps[heartwood/api.Peer]", "math/bits.Add64"], unfollowed := true, recurses := true, plainKeys := false, apart := false }
def TownStopsSaid : Prop := townStopsRow.holds Try.pinned (OpenSpec.ofChange townStopsSpec)

/-- ITS FALSE NEIGHBOUR: 'it returns false'. Refute it at one input. -/
def townStopsWrong : ChangeSpec := { name := "townStops", fn := fun _ => fun
  | [d1, d2, d3, d4] => { results := [.lit (.bool false)], args := [d1, d2, d3, d4] }
  | _ => none }
def TownStopsWrongFalsely : Prop := townStopsRow.holds Try.pinned (OpenSpec.ofChange townStopsWrong)

/-- 'hwkeep.ValuesOwn': WHATEVER THE INPUT: true; the input reads as it did. -/
def valuesOwnSpec : ChangeSpec := { name := "valuesOwn", fn := fun _ => fun
  | [d1, d2, d3] => { results := [.lit (.bool true)], args := [d1, d2, d3] }
  | _ => none }
def valuesOwnRow : OpenClaim := { program := "ytpomdnglknbanaa", sum := "bbfa567cdb46b80ae641a00f8779862c6ed81d1fe1c1d6b871ff4dee3060f8d4", func := "heartwood/hwkeep.ValuesOwn", spec := "valuesOwn", inPlace := ["slices.overlaps[int]", "math/bits.Add64"], unfollowed := true, recurses := true, plainKeys := false, apart := false }
def ValuesOwnSaid : Prop := valuesOwnRow.holds Try.pinned (OpenSpec.ofChange valuesOwnSpec)

/-- ITS FALSE NEIGHBOUR: 'it returns false'. Refute it at one input. -/
def valuesOwnWrong : ChangeSpec := { name := "valuesOwn", fn := fun _ => fun
  | [d1, d2, d3] => { results := [.lit (.bool false)], args := [d1, d2, d3] }
  | _ => none }
def ValuesOwnWrongFalsely : Prop := valuesOwnRow.holds Try.pinned (OpenSpec.ofChange valuesOwnWrong)

/-- 'hwtop.TopTown': WHATEVER THE INPUT: true; the input reads as it did. -/
def topTownSpec : ChangeSpec := { name := "topTown", fn := fun _ => fun
  | [d1, d2] => { results := [.lit (.bool true)], args := [d1, d2] }
  | _ => none }
def topTownRow : OpenClaim := { program := "ytpomdnglknbanaa", sum := "bbfa567cdb46b80ae641a00f8779862c6ed81d1fe1c1d6b871ff4dee3060f8d4", func := "heartwood/hwtop.TopTown", spec := "topTown", inPlace := ["math/bits.Add64", "internal/bytealg.abigen_runtime_cmpstring", "slices.overlaps[heartwood/api.Peer]"], unfollowed := true, recurses := true, plainKeys := false, apart := false }
def TopTownSaid : Prop := topTownRow.holds Try.pinned (OpenSpec.ofChange topTownSpec)

/-- ITS FALSE NEIGHBOUR: 'it returns false'. Refute it at one input. -/
def topTownWrong : ChangeSpec := { name := "topTown", fn := fun _ => fun
  | [d1, d2] => { results := [.lit (.bool false)], args := [d1, d2] }
  | _ => none }
def TopTownWrongFalsely : Prop := topTownRow.holds Try.pinned (OpenSpec.ofChange topTownWrong)

/- THE SECOND FORM. 'bulk': how many values and letters a reading holds, each counted each time it is reached (what is shared counts as often as it is met; a slice's spare places count too). A statement '..UptoSaid' is the law's where the arguments, and the package variables that the reading takes, are together of bulk at most 1048576: NARROWER than '..Said'. Prove '..Said' where nothing that the law and all that it calls make is longer than what came in: it says more and counts as full. Else prove '..UptoSaid'. A law counts once. -/
mutual
def uptoBulk {H : Type} : DataW H → Nat
  | .lit (.string bytes) => bytes.length + 1
  | .lit _ => 1
  | .nil => 1
  | .ptr d => uptoBulk d + 1
  | .slice elems spare => uptoBulkAll elems + uptoBulkAll spare + 1
  | .agg parts => uptoBulkAll parts + 1
  | .iface _ d => uptoBulk d + 1
  | .map entries => uptoBulkEntries entries + 1
  | .held _ => 1
def uptoBulkAll {H : Type} : List (DataW H) → Nat
  | [] => 0
  | d :: r => uptoBulk d + uptoBulkAll r
def uptoBulkEntries {H : Type} : List (Lit × DataW H) → Nat
  | [] => 0
  | x :: r => uptoBulkEntry x + uptoBulkEntries r
def uptoBulkEntry {H : Type} : Lit × DataW H → Nat
  | (.string bytes, d) => bytes.length + uptoBulk d + 1
  | (_, d) => uptoBulk d + 1
 end
def uptoSmall : (H : Type) → List (DataW H) → Bool := fun _ ds => decide (uptoBulkAll ds ≤ 1048576)
def OpenSpec.upto (s : _root_.Go.ChangeSpec) : _root_.Go.OpenSpec := { _root_.Go.OpenSpec.ofChange s with cond := some uptoSmall }

/-- 'hwtop.TopWatch', WHERE WHAT IT READS IS OF BULK AT MOST 1048576: true; the input reads as it did. -/
def topWatchUptoRow : OpenClaim := { program := "ytpomdnglknbanaa", sum := "bbfa567cdb46b80ae641a00f8779862c6ed81d1fe1c1d6b871ff4dee3060f8d4", func := "heartwood/hwtop.TopWatch", spec := "topWatch", inPlace := ["math/bits.Add64", "internal/bytealg.abigen_runtime_cmpstring", "slices.overlaps[heartwood/api.Peer]"], unfollowed := true, recurses := true, plainKeys := false, apart := false, narrowed := true }
def TopWatchUptoSaid : Prop := topWatchUptoRow.holds Try.pinned (OpenSpec.upto topWatchSpec)

/-- 'hwkeep.PeersApart', WHERE WHAT IT READS IS OF BULK AT MOST 1048576: true; the input reads as it did. -/
def peersApartUptoRow : OpenClaim := { program := "ytpomdnglknbanaa", sum := "bbfa567cdb46b80ae641a00f8779862c6ed81d1fe1c1d6b871ff4dee3060f8d4", func := "heartwood/hwkeep.PeersApart", spec := "peersApart", inPlace := ["internal/bytealg.abigen_runtime_cmpstring", "slices.overlaps[heartwood/api.Peer]"], unfollowed := true, recurses := true, plainKeys := false, apart := false, narrowed := true }
def PeersApartUptoSaid : Prop := peersApartUptoRow.holds Try.pinned (OpenSpec.upto peersApartSpec)

/-- 'hwkeep.PeersBack', WHERE WHAT IT READS IS OF BULK AT MOST 1048576: true; the input reads as it did. -/
def peersBackUptoRow : OpenClaim := { program := "ytpomdnglknbanaa", sum := "bbfa567cdb46b80ae641a00f8779862c6ed81d1fe1c1d6b871ff4dee3060f8d4", func := "heartwood/hwkeep.PeersBack", spec := "peersBack", inPlace := ["internal/bytealg.abigen_runtime_cmpstring", "slices.overlaps[heartwood/api.Peer]"], unfollowed := true, recurses := true, plainKeys := false, apart := false, narrowed := true }
def PeersBackUptoSaid : Prop := peersBackUptoRow.holds Try.pinned (OpenSpec.upto peersBackSpec)

/-- 'hwkeep.PeersHeard', WHERE WHAT IT READS IS OF BULK AT MOST 1048576: true; the input reads as it did. -/
def peersHeardUptoRow : OpenClaim := { program := "ytpomdnglknbanaa", sum := "bbfa567cdb46b80ae641a00f8779862c6ed81d1fe1c1d6b871ff4dee3060f8d4", func := "heartwood/hwkeep.PeersHeard", spec := "peersHeard", inPlace := ["internal/bytealg.abigen_runtime_cmpstring", "slices.overlaps[heartwood/api.Peer]"], unfollowed := true, recurses := true, plainKeys := false, apart := false, narrowed := true }
def PeersHeardUptoSaid : Prop := peersHeardUptoRow.holds Try.pinned (OpenSpec.upto peersHeardSpec)

/-- 'hwkeep.PeersOwn', WHERE WHAT IT READS IS OF BULK AT MOST 1048576: true; the input reads as it did. -/
def peersOwnUptoRow : OpenClaim := { program := "ytpomdnglknbanaa", sum := "bbfa567cdb46b80ae641a00f8779862c6ed81d1fe1c1d6b871ff4dee3060f8d4", func := "heartwood/hwkeep.PeersOwn", spec := "peersOwn", inPlace := ["internal/bytealg.abigen_runtime_cmpstring", "slices.overlaps[heartwood/api.Peer]"], unfollowed := true, recurses := true, plainKeys := false, apart := false, narrowed := true }
def PeersOwnUptoSaid : Prop := peersOwnUptoRow.holds Try.pinned (OpenSpec.upto peersOwnSpec)

/-- 'hwkeep.NodeBeats', WHERE WHAT IT READS IS OF BULK AT MOST 1048576: true; the input reads as it did. -/
def nodeBeatsUptoRow : OpenClaim := { program := "ytpomdnglknbanaa", sum := "bbfa567cdb46b80ae641a00f8779862c6ed81d1fe1c1d6b871ff4dee3060f8d4", func := "heartwood/hwkeep.NodeBeats", spec := "nodeBeats", inPlace := ["math/bits.Add64", "internal/bytealg.abigen_runtime_cmpstring", "slices.overlaps[heartwood/api.Peer]"], unfollowed := true, recurses := true, plainKeys := false, apart := false, narrowed := true }
def NodeBeatsUptoSaid : Prop := nodeBeatsUptoRow.holds Try.pinned (OpenSpec.upto nodeBeatsSpec)

/-- 'hwkeep.TownAlone', WHERE WHAT IT READS IS OF BULK AT MOST 1048576: true; the input reads as it did. -/
def townAloneUptoRow : OpenClaim := { program := "ytpomdnglknbanaa", sum := "bbfa567cdb46b80ae641a00f8779862c6ed81d1fe1c1d6b871ff4dee3060f8d4", func := "heartwood/hwkeep.TownAlone", spec := "townAlone", inPlace := ["internal/bytealg.abigen_runtime_cmpstring", "slices.overlaps[heartwood/api.Peer]", "math/bits.Add64"], unfollowed := true, recurses := true, plainKeys := false, apart := false, narrowed := true }
def TownAloneUptoSaid : Prop := townAloneUptoRow.holds Try.pinned (OpenSpec.upto townAloneSpec)

/-- 'hwkeep.NodeTrust', WHERE WHAT IT READS IS OF BULK AT MOST 1048576: true; the input reads as it did. -/
def nodeTrustUptoRow : OpenClaim := { program := "ytpomdnglknbanaa", sum := "bbfa567cdb46b80ae641a00f8779862c6ed81d1fe1c1d6b871ff4dee3060f8d4", func := "heartwood/hwkeep.NodeTrust", spec := "nodeTrust", inPlace := ["math/bits.Add64", "internal/bytealg.abigen_runtime_cmpstring", "slices.overlaps[heartwood/api.Peer]"], unfollowed := true, recurses := true, plainKeys := false, apart := false, narrowed := true }
def NodeTrustUptoSaid : Prop := nodeTrustUptoRow.holds Try.pinned (OpenSpec.upto nodeTrustSpec)

/-- 'hwkeep.NodeLater', WHERE WHAT IT READS IS OF BULK AT MOST 1048576: true; the input reads as it did. -/
def nodeLaterUptoRow : OpenClaim := { program := "ytpomdnglknbanaa", sum := "bbfa567cdb46b80ae641a00f8779862c6ed81d1fe1c1d6b871ff4dee3060f8d4", func := "heartwood/hwkeep.NodeLater", spec := "nodeLater", inPlace := ["math/bits.Add64", "internal/bytealg.abigen_runtime_cmpstring", "slices.overlaps[heartwood/api.Peer]"], unfollowed := true, recurses := true, plainKeys := false, apart := false, narrowed := true }
def NodeLaterUptoSaid : Prop := nodeLaterUptoRow.holds Try.pinned (OpenSpec.upto nodeLaterSpec)

/-- 'hwkeep.NodeTurns', WHERE WHAT IT READS IS OF BULK AT MOST 1048576: true; the input reads as it did. -/
def nodeTurnsUptoRow : OpenClaim := { program := "ytpomdnglknbanaa", sum := "bbfa567cdb46b80ae641a00f8779862c6ed81d1fe1c1d6b871ff4dee3060f8d4", func := "heartwood/hwkeep.NodeTurns", spec := "nodeTurns", inPlace := ["math/bits.Add64", "internal/bytealg.abigen_runtime_cmpstring", "slices.overlaps[heartwood/api.Peer]"], unfollowed := true, recurses := true, plainKeys := false, apart := false, narrowed := true }
def NodeTurnsUptoSaid : Prop := nodeTurnsUptoRow.holds Try.pinned (OpenSpec.upto nodeTurnsSpec)

/-- 'hwkeep.NodeSure', WHERE WHAT IT READS IS OF BULK AT MOST 1048576: true; the input reads as it did. -/
def nodeSureUptoRow : OpenClaim := { program := "ytpomdnglknbanaa", sum := "bbfa567cdb46b80ae641a00f8779862c6ed81d1fe1c1d6b871ff4dee3060f8d4", func := "heartwood/hwkeep.NodeSure", spec := "nodeSure", inPlace := ["math/bits.Add64", "internal/bytealg.abigen_runtime_cmpstring", "slices.overlaps[heartwood/api.Peer]"], unfollowed := true, recurses := true, plainKeys := false, apart := false, narrowed := true }
def NodeSureUptoSaid : Prop := nodeSureUptoRow.holds Try.pinned (OpenSpec.upto nodeSureSpec)

/-- 'hwkeep.NodeWindows', WHERE WHAT IT READS IS OF BULK AT MOST 1048576: true; the input reads as it did. -/
def nodeWindowsUptoRow : OpenClaim := { program := "ytpomdnglknbanaa", sum := "bbfa567cdb46b80ae641a00f8779862c6ed81d1fe1c1d6b871ff4dee3060f8d4", func := "heartwood/hwkeep.NodeWindows", spec := "nodeWindows", inPlace := ["math/bits.Add64", "internal/bytealg.abigen_runtime_cmpstring", "slices.overlaps[heartwood/api.Peer]"], unfollowed := true, recurses := true, plainKeys := false, apart := false, narrowed := true }
def NodeWindowsUptoSaid : Prop := nodeWindowsUptoRow.holds Try.pinned (OpenSpec.upto nodeWindowsSpec)

/-- 'hwkeep.NodeJoins', WHERE WHAT IT READS IS OF BULK AT MOST 1048576: true; the input reads as it did. -/
def nodeJoinsUptoRow : OpenClaim := { program := "ytpomdnglknbanaa", sum := "bbfa567cdb46b80ae641a00f8779862c6ed81d1fe1c1d6b871ff4dee3060f8d4", func := "heartwood/hwkeep.NodeJoins", spec := "nodeJoins", inPlace := ["math/bits.Add64", "internal/bytealg.abigen_runtime_cmpstring", "slices.overlaps[heartwood/api.Peer]"], unfollowed := true, recurses := true, plainKeys := false, apart := false, narrowed := true }
def NodeJoinsUptoSaid : Prop := nodeJoinsUptoRow.holds Try.pinned (OpenSpec.upto nodeJoinsSpec)

/-- 'hwkeep.NodeQuiet', WHERE WHAT IT READS IS OF BULK AT MOST 1048576: true; the input reads as it did. -/
def nodeQuietUptoRow : OpenClaim := { program := "ytpomdnglknbanaa", sum := "bbfa567cdb46b80ae641a00f8779862c6ed81d1fe1c1d6b871ff4dee3060f8d4", func := "heartwood/hwkeep.NodeQuiet", spec := "nodeQuiet", inPlace := ["math/bits.Add64", "internal/bytealg.abigen_runtime_cmpstring", "slices.overlaps[heartwood/api.Peer]"], unfollowed := true, recurses := true, plainKeys := false, apart := false, narrowed := true }
def NodeQuietUptoSaid : Prop := nodeQuietUptoRow.holds Try.pinned (OpenSpec.upto nodeQuietSpec)

/-- 'hwkeep.TownFresh', WHERE WHAT IT READS IS OF BULK AT MOST 1048576: true; the input reads as it did. -/
def townFreshUptoRow : OpenClaim := { program := "ytpomdnglknbanaa", sum := "bbfa567cdb46b80ae641a00f8779862c6ed81d1fe1c1d6b871ff4dee3060f8d4", func := "heartwood/hwkeep.TownFresh", spec := "townFresh", inPlace := ["internal/bytealg.abigen_runtime_cmpstring", "slices.overlaps[heartwood/api.Peer]", "math/bits.Add64"], unfollowed := true, recurses := true, plainKeys := false, apart := false, narrowed := true }
def TownFreshUptoSaid : Prop := townFreshUptoRow.holds Try.pinned (OpenSpec.upto townFreshSpec)

/-- 'hwkeep.TownTwice', WHERE WHAT IT READS IS OF BULK AT MOST 1048576: true; the input reads as it did. -/
def townTwiceUptoRow : OpenClaim := { program := "ytpomdnglknbanaa", sum := "bbfa567cdb46b80ae641a00f8779862c6ed81d1fe1c1d6b871ff4dee3060f8d4", func := "heartwood/hwkeep.TownTwice", spec := "townTwice", inPlace := ["internal/bytealg.abigen_runtime_cmpstring", "slices.overlaps[heartwood/api.Peer]", "math/bits.Add64"], unfollowed := true, recurses := true, plainKeys := false, apart := false, narrowed := true }
def TownTwiceUptoSaid : Prop := townTwiceUptoRow.holds Try.pinned (OpenSpec.upto townTwiceSpec)

/-- 'hwkeep.TownHeard', WHERE WHAT IT READS IS OF BULK AT MOST 1048576: true; the input reads as it did. -/
def townHeardUptoRow : OpenClaim := { program := "ytpomdnglknbanaa", sum := "bbfa567cdb46b80ae641a00f8779862c6ed81d1fe1c1d6b871ff4dee3060f8d4", func := "heartwood/hwkeep.TownHeard", spec := "townHeard", inPlace := ["internal/bytealg.abigen_runtime_cmpstring", "slices.overlaps[heartwood/api.Peer]", "math/bits.Add64"], unfollowed := true, recurses := true, plainKeys := false, apart := false, narrowed := true }
def TownHeardUptoSaid : Prop := townHeardUptoRow.holds Try.pinned (OpenSpec.upto townHeardSpec)

/-- 'hwkeep.NodeLeave', WHERE WHAT IT READS IS OF BULK AT MOST 1048576: true; the input reads as it did. -/
def nodeLeaveUptoRow : OpenClaim := { program := "ytpomdnglknbanaa", sum := "bbfa567cdb46b80ae641a00f8779862c6ed81d1fe1c1d6b871ff4dee3060f8d4", func := "heartwood/hwkeep.NodeLeave", spec := "nodeLeave", inPlace := ["math/bits.Add64", "internal/bytealg.abigen_runtime_cmpstring", "slices.overlaps[heartwood/api.Peer]"], unfollowed := true, recurses := true, plainKeys := false, apart := false, narrowed := true }
def NodeLeaveUptoSaid : Prop := nodeLeaveUptoRow.holds Try.pinned (OpenSpec.upto nodeLeaveSpec)

/-- 'hwkeep.TownStops', WHERE WHAT IT READS IS OF BULK AT MOST 1048576: true; the input reads as it did. -/
def townStopsUptoRow : OpenClaim := { program := "ytpomdnglknbanaa", sum := "bbfa567cdb46b80ae641a00f8779862c6ed81d1fe1c1d6b871ff4dee3060f8d4", func := "heartwood/hwkeep.TownStops", spec := "townStops", inPlace := ["internal/bytealg.abigen_runtime_cmpstring", "slices.overlaps[heartwood/api.Peer]", "math/bits.Add64"], unfollowed := true, recurses := true, plainKeys := false, apart := false, narrowed := true }
def TownStopsUptoSaid : Prop := townStopsUptoRow.holds Try.pinned (OpenSpec.upto townStopsSpec)

/-- 'hwkeep.ValuesOwn', WHERE WHAT IT READS IS OF BULK AT MOST 1048576: true; the input reads as it did. -/
def valuesOwnUptoRow : OpenClaim := { program := "ytpomdnglknbanaa", sum := "bbfa567cdb46b80ae641a00f8779862c6ed81d1fe1c1d6b871ff4dee3060f8d4", func := "heartwood/hwkeep.ValuesOwn", spec := "valuesOwn", inPlace := ["slices.overlaps[int]", "math/bits.Add64"], unfollowed := true, recurses := true, plainKeys := false, apart := false, narrowed := true }
def ValuesOwnUptoSaid : Prop := valuesOwnUptoRow.holds Try.pinned (OpenSpec.upto valuesOwnSpec)

/-- 'hwtop.TopTown', WHERE WHAT IT READS IS OF BULK AT MOST 1048576: true; the input reads as it did. -/
def topTownUptoRow : OpenClaim := { program := "ytpomdnglknbanaa", sum := "bbfa567cdb46b80ae641a00f8779862c6ed81d1fe1c1d6b871ff4dee3060f8d4", func := "heartwood/hwtop.TopTown", spec := "topTown", inPlace := ["math/bits.Add64", "internal/bytealg.abigen_runtime_cmpstring", "slices.overlaps[heartwood/api.Peer]"], unfollowed := true, recurses := true, plainKeys := false, apart := false, narrowed := true }
def TopTownUptoSaid : Prop := topTownUptoRow.holds Try.pinned (OpenSpec.upto topTownSpec)

end Rows
end Go.Proofs.Ytpomdnglknbanaa
