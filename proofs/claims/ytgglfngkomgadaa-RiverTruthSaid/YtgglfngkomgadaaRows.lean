/-
  No cell of these rows narrows 'for every input' (looked for: loops, veiled, ifaces, maps, wideKeys, modest, calm, conditions, laid).
  DERIVED. THE GIVEN ROWS OF THIS SEAT. 20 by the template 'for every input the law returns true; each argument reads behind the call as it read before'; 0 by the template 'total and deterministic' (their statements: YtgglfngkomgadaaTotals.lean).
  GIVEN WITH THE SEED: the statements are not yours to turn. If you find one false, say at which input.
  Laid BY PROGRAM, IN A SANDBOX (cutbox-rows.mjs): the forced cells as the released guide's own fill.sh prints them over the translation dd0b8e685595a0b9… (all of the seat's roots in one cut). By AI agents, Wed Nov 11 2026. No macro, syntax, notation, axiom, sorry.
-/
import Derived.Test.YtgglfngkomgadaaChecked
import GoSem.Claim
import GoSem.ClaimJoined
import GoSem.ClaimMapViews
import Derived.JoinedTies
import Derived.KernelRfl
namespace Go.Proofs.Ytgglfngkomgadaa
/- THE CELL 'sum', in the pinned program and in every row, IS THE sha256 OF THE DUMP (.gsa) THAT YtgglfngkomgadaaProg.lean LOADS. Nothing in Lean hashes anything: it is a label: what it is worth is what the hold of that sum in a sandbox is worth. -/
noncomputable def Try.pinned : Pinned := { name := "ytgglfngkomgadaa", sum := "dd0b8e685595a0b999b65498048d35ce02e1764cea65b3f111550188823644b7", checked := Try.checked }
namespace Rows
def none {H : Type} : Left H := { results := [], args := [] }

/-- 'anillaw08.RiverGood': WHATEVER THE INPUT: true; the input reads as it did. -/
def riverGoodSpec : ChangeSpec := { name := "riverGood", fn := fun _ => fun
  | [d1, d2] => { results := [.lit (.bool true)], args := [d1, d2] }
  | _ => none }
def riverGoodRow : OpenClaim := { program := "ytgglfngkomgadaa", sum := "dd0b8e685595a0b999b65498048d35ce02e1764cea65b3f111550188823644b7", func := "anil/anillaw08.RiverGood", spec := "riverGood", unfollowed := true, recurses := true, plainKeys := false, apart := false }
def RiverGoodSaid : Prop := riverGoodRow.holds Try.pinned (OpenSpec.ofChange riverGoodSpec)

/-- ITS FALSE NEIGHBOUR: 'it returns false'. Refute it at one input. -/
def riverGoodWrong : ChangeSpec := { name := "riverGood", fn := fun _ => fun
  | [d1, d2] => { results := [.lit (.bool false)], args := [d1, d2] }
  | _ => none }
def RiverGoodWrongFalsely : Prop := riverGoodRow.holds Try.pinned (OpenSpec.ofChange riverGoodWrong)

/-- 'anillaw08.RiverTanks': WHATEVER THE INPUT: true; the input reads as it did. -/
def riverTanksSpec : ChangeSpec := { name := "riverTanks", fn := fun _ => fun
  | [d1, d2] => { results := [.lit (.bool true)], args := [d1, d2] }
  | _ => none }
def riverTanksRow : OpenClaim := { program := "ytgglfngkomgadaa", sum := "dd0b8e685595a0b999b65498048d35ce02e1764cea65b3f111550188823644b7", func := "anil/anillaw08.RiverTanks", spec := "riverTanks", unfollowed := true, recurses := true, plainKeys := false, apart := false }
def RiverTanksSaid : Prop := riverTanksRow.holds Try.pinned (OpenSpec.ofChange riverTanksSpec)

/-- ITS FALSE NEIGHBOUR: 'it returns false'. Refute it at one input. -/
def riverTanksWrong : ChangeSpec := { name := "riverTanks", fn := fun _ => fun
  | [d1, d2] => { results := [.lit (.bool false)], args := [d1, d2] }
  | _ => none }
def RiverTanksWrongFalsely : Prop := riverTanksRow.holds Try.pinned (OpenSpec.ofChange riverTanksWrong)

/-- 'anillaw08.RiverFewest': WHATEVER THE INPUT: true; the input reads as it did. -/
def riverFewestSpec : ChangeSpec := { name := "riverFewest", fn := fun _ => fun
  | [d] => { results := [.lit (.bool true)], args := [d] }
  | _ => none }
def riverFewestRow : OpenClaim := { program := "ytgglfngkomgadaa", sum := "dd0b8e685595a0b999b65498048d35ce02e1764cea65b3f111550188823644b7", func := "anil/anillaw08.RiverFewest", spec := "riverFewest", unfollowed := true, recurses := true, plainKeys := false, apart := false }
def RiverFewestSaid : Prop := riverFewestRow.holds Try.pinned (OpenSpec.ofChange riverFewestSpec)

/-- ITS FALSE NEIGHBOUR: 'it returns false'. Refute it at one input. -/
def riverFewestWrong : ChangeSpec := { name := "riverFewest", fn := fun _ => fun
  | [d] => { results := [.lit (.bool false)], args := [d] }
  | _ => none }
def RiverFewestWrongFalsely : Prop := riverFewestRow.holds Try.pinned (OpenSpec.ofChange riverFewestWrong)

/-- 'anillaw08.RiverNeeds': WHATEVER THE INPUT: true; the input reads as it did. -/
def riverNeedsSpec : ChangeSpec := { name := "riverNeeds", fn := fun _ => fun
  | [d] => { results := [.lit (.bool true)], args := [d] }
  | _ => none }
def riverNeedsRow : OpenClaim := { program := "ytgglfngkomgadaa", sum := "dd0b8e685595a0b999b65498048d35ce02e1764cea65b3f111550188823644b7", func := "anil/anillaw08.RiverNeeds", spec := "riverNeeds", unfollowed := true, recurses := true, plainKeys := false, apart := false }
def RiverNeedsSaid : Prop := riverNeedsRow.holds Try.pinned (OpenSpec.ofChange riverNeedsSpec)

/-- ITS FALSE NEIGHBOUR: 'it returns false'. Refute it at one input. -/
def riverNeedsWrong : ChangeSpec := { name := "riverNeeds", fn := fun _ => fun
  | [d] => { results := [.lit (.bool false)], args := [d] }
  | _ => none }
def RiverNeedsWrongFalsely : Prop := riverNeedsRow.holds Try.pinned (OpenSpec.ofChange riverNeedsWrong)

/-- 'anillaw08.RiverStorms': WHATEVER THE INPUT: true; the input reads as it did. -/
def riverStormsSpec : ChangeSpec := { name := "riverStorms", fn := fun _ => fun
  | [d1, d2] => { results := [.lit (.bool true)], args := [d1, d2] }
  | _ => none }
def riverStormsRow : OpenClaim := { program := "ytgglfngkomgadaa", sum := "dd0b8e685595a0b999b65498048d35ce02e1764cea65b3f111550188823644b7", func := "anil/anillaw08.RiverStorms", spec := "riverStorms", unfollowed := true, recurses := true, plainKeys := false, apart := false }
def RiverStormsSaid : Prop := riverStormsRow.holds Try.pinned (OpenSpec.ofChange riverStormsSpec)

/-- ITS FALSE NEIGHBOUR: 'it returns false'. Refute it at one input. -/
def riverStormsWrong : ChangeSpec := { name := "riverStorms", fn := fun _ => fun
  | [d1, d2] => { results := [.lit (.bool false)], args := [d1, d2] }
  | _ => none }
def RiverStormsWrongFalsely : Prop := riverStormsRow.holds Try.pinned (OpenSpec.ofChange riverStormsWrong)

/-- 'anillaw08.RiverPlays': WHATEVER THE INPUT: true; the input reads as it did. -/
def riverPlaysSpec : ChangeSpec := { name := "riverPlays", fn := fun _ => fun
  | [d1, d2, d3] => { results := [.lit (.bool true)], args := [d1, d2, d3] }
  | _ => none }
def riverPlaysRow : OpenClaim := { program := "ytgglfngkomgadaa", sum := "dd0b8e685595a0b999b65498048d35ce02e1764cea65b3f111550188823644b7", func := "anil/anillaw08.RiverPlays", spec := "riverPlays", unfollowed := true, recurses := true, plainKeys := false, apart := false }
def RiverPlaysSaid : Prop := riverPlaysRow.holds Try.pinned (OpenSpec.ofChange riverPlaysSpec)

/-- ITS FALSE NEIGHBOUR: 'it returns false'. Refute it at one input. -/
def riverPlaysWrong : ChangeSpec := { name := "riverPlays", fn := fun _ => fun
  | [d1, d2, d3] => { results := [.lit (.bool false)], args := [d1, d2, d3] }
  | _ => none }
def RiverPlaysWrongFalsely : Prop := riverPlaysRow.holds Try.pinned (OpenSpec.ofChange riverPlaysWrong)

/-- 'anillaw08.RiverLeaves': WHATEVER THE INPUT: true; the input reads as it did. -/
def riverLeavesSpec : ChangeSpec := { name := "riverLeaves", fn := fun _ => fun
  | [d] => { results := [.lit (.bool true)], args := [d] }
  | _ => none }
def riverLeavesRow : OpenClaim := { program := "ytgglfngkomgadaa", sum := "dd0b8e685595a0b999b65498048d35ce02e1764cea65b3f111550188823644b7", func := "anil/anillaw08.RiverLeaves", spec := "riverLeaves", unfollowed := true, recurses := true, plainKeys := false, apart := false }
def RiverLeavesSaid : Prop := riverLeavesRow.holds Try.pinned (OpenSpec.ofChange riverLeavesSpec)

/-- ITS FALSE NEIGHBOUR: 'it returns false'. Refute it at one input. -/
def riverLeavesWrong : ChangeSpec := { name := "riverLeaves", fn := fun _ => fun
  | [d] => { results := [.lit (.bool false)], args := [d] }
  | _ => none }
def RiverLeavesWrongFalsely : Prop := riverLeavesRow.holds Try.pinned (OpenSpec.ofChange riverLeavesWrong)

/-- 'anillaw08.RiverTruth': WHATEVER THE INPUT: true; the input reads as it did. -/
def riverTruthSpec : ChangeSpec := { name := "riverTruth", fn := fun _ => fun
  | [d1, d2, d3, d4] => { results := [.lit (.bool true)], args := [d1, d2, d3, d4] }
  | _ => none }
def riverTruthRow : OpenClaim := { program := "ytgglfngkomgadaa", sum := "dd0b8e685595a0b999b65498048d35ce02e1764cea65b3f111550188823644b7", func := "anil/anillaw08.RiverTruth", spec := "riverTruth", unfollowed := true, recurses := true, plainKeys := false, apart := false }
def RiverTruthSaid : Prop := riverTruthRow.holds Try.pinned (OpenSpec.ofChange riverTruthSpec)

/-- ITS FALSE NEIGHBOUR: 'it returns false'. Refute it at one input. -/
def riverTruthWrong : ChangeSpec := { name := "riverTruth", fn := fun _ => fun
  | [d1, d2, d3, d4] => { results := [.lit (.bool false)], args := [d1, d2, d3, d4] }
  | _ => none }
def RiverTruthWrongFalsely : Prop := riverTruthRow.holds Try.pinned (OpenSpec.ofChange riverTruthWrong)

/-- 'anillaw08.RiverEnds': WHATEVER THE INPUT: true; the input reads as it did. -/
def riverEndsSpec : ChangeSpec := { name := "riverEnds", fn := fun _ => fun
  | [d1, d2, d3] => { results := [.lit (.bool true)], args := [d1, d2, d3] }
  | _ => none }
def riverEndsRow : OpenClaim := { program := "ytgglfngkomgadaa", sum := "dd0b8e685595a0b999b65498048d35ce02e1764cea65b3f111550188823644b7", func := "anil/anillaw08.RiverEnds", spec := "riverEnds", unfollowed := true, recurses := true, plainKeys := false, apart := false }
def RiverEndsSaid : Prop := riverEndsRow.holds Try.pinned (OpenSpec.ofChange riverEndsSpec)

/-- ITS FALSE NEIGHBOUR: 'it returns false'. Refute it at one input. -/
def riverEndsWrong : ChangeSpec := { name := "riverEnds", fn := fun _ => fun
  | [d1, d2, d3] => { results := [.lit (.bool false)], args := [d1, d2, d3] }
  | _ => none }
def RiverEndsWrongFalsely : Prop := riverEndsRow.holds Try.pinned (OpenSpec.ofChange riverEndsWrong)

/-- 'anillaw08.RiverLost': WHATEVER THE INPUT: true; the input reads as it did. -/
def riverLostSpec : ChangeSpec := { name := "riverLost", fn := fun _ => fun
  | [d1, d2, d3] => { results := [.lit (.bool true)], args := [d1, d2, d3] }
  | _ => none }
def riverLostRow : OpenClaim := { program := "ytgglfngkomgadaa", sum := "dd0b8e685595a0b999b65498048d35ce02e1764cea65b3f111550188823644b7", func := "anil/anillaw08.RiverLost", spec := "riverLost", unfollowed := true, recurses := true, plainKeys := false, apart := false }
def RiverLostSaid : Prop := riverLostRow.holds Try.pinned (OpenSpec.ofChange riverLostSpec)

/-- ITS FALSE NEIGHBOUR: 'it returns false'. Refute it at one input. -/
def riverLostWrong : ChangeSpec := { name := "riverLost", fn := fun _ => fun
  | [d1, d2, d3] => { results := [.lit (.bool false)], args := [d1, d2, d3] }
  | _ => none }
def RiverLostWrongFalsely : Prop := riverLostRow.holds Try.pinned (OpenSpec.ofChange riverLostWrong)

/-- 'anillaw08.RiverSmallest': WHATEVER THE INPUT: true; the input reads as it did. -/
def riverSmallestSpec : ChangeSpec := { name := "riverSmallest", fn := fun _ => fun
  | [d] => { results := [.lit (.bool true)], args := [d] }
  | _ => none }
def riverSmallestRow : OpenClaim := { program := "ytgglfngkomgadaa", sum := "dd0b8e685595a0b999b65498048d35ce02e1764cea65b3f111550188823644b7", func := "anil/anillaw08.RiverSmallest", spec := "riverSmallest", unfollowed := true, recurses := true, plainKeys := false, apart := false }
def RiverSmallestSaid : Prop := riverSmallestRow.holds Try.pinned (OpenSpec.ofChange riverSmallestSpec)

/-- ITS FALSE NEIGHBOUR: 'it returns false'. Refute it at one input. -/
def riverSmallestWrong : ChangeSpec := { name := "riverSmallest", fn := fun _ => fun
  | [d] => { results := [.lit (.bool false)], args := [d] }
  | _ => none }
def RiverSmallestWrongFalsely : Prop := riverSmallestRow.holds Try.pinned (OpenSpec.ofChange riverSmallestWrong)

/-- 'anillaw08.RiverFirst': WHATEVER THE INPUT: true; the input reads as it did. -/
def riverFirstSpec : ChangeSpec := { name := "riverFirst", fn := fun _ => fun
  | [d] => { results := [.lit (.bool true)], args := [d] }
  | _ => none }
def riverFirstRow : OpenClaim := { program := "ytgglfngkomgadaa", sum := "dd0b8e685595a0b999b65498048d35ce02e1764cea65b3f111550188823644b7", func := "anil/anillaw08.RiverFirst", spec := "riverFirst", unfollowed := true, recurses := true, plainKeys := false, apart := false }
def RiverFirstSaid : Prop := riverFirstRow.holds Try.pinned (OpenSpec.ofChange riverFirstSpec)

/-- ITS FALSE NEIGHBOUR: 'it returns false'. Refute it at one input. -/
def riverFirstWrong : ChangeSpec := { name := "riverFirst", fn := fun _ => fun
  | [d] => { results := [.lit (.bool false)], args := [d] }
  | _ => none }
def RiverFirstWrongFalsely : Prop := riverFirstRow.holds Try.pinned (OpenSpec.ofChange riverFirstWrong)

/-- 'anillaw08.RiverLeft': WHATEVER THE INPUT: true; the input reads as it did. -/
def riverLeftSpec : ChangeSpec := { name := "riverLeft", fn := fun _ => fun
  | [d1, d2] => { results := [.lit (.bool true)], args := [d1, d2] }
  | _ => none }
def riverLeftRow : OpenClaim := { program := "ytgglfngkomgadaa", sum := "dd0b8e685595a0b999b65498048d35ce02e1764cea65b3f111550188823644b7", func := "anil/anillaw08.RiverLeft", spec := "riverLeft", unfollowed := true, recurses := true, plainKeys := false, apart := false }
def RiverLeftSaid : Prop := riverLeftRow.holds Try.pinned (OpenSpec.ofChange riverLeftSpec)

/-- ITS FALSE NEIGHBOUR: 'it returns false'. Refute it at one input. -/
def riverLeftWrong : ChangeSpec := { name := "riverLeft", fn := fun _ => fun
  | [d1, d2] => { results := [.lit (.bool false)], args := [d1, d2] }
  | _ => none }
def RiverLeftWrongFalsely : Prop := riverLeftRow.holds Try.pinned (OpenSpec.ofChange riverLeftWrong)

/-- 'anillaw08.RiverLasts': WHATEVER THE INPUT: true; the input reads as it did. -/
def riverLastsSpec : ChangeSpec := { name := "riverLasts", fn := fun _ => fun
  | [d1, d2, d3] => { results := [.lit (.bool true)], args := [d1, d2, d3] }
  | _ => none }
def riverLastsRow : OpenClaim := { program := "ytgglfngkomgadaa", sum := "dd0b8e685595a0b999b65498048d35ce02e1764cea65b3f111550188823644b7", func := "anil/anillaw08.RiverLasts", spec := "riverLasts", unfollowed := true, recurses := true, plainKeys := false, apart := false }
def RiverLastsSaid : Prop := riverLastsRow.holds Try.pinned (OpenSpec.ofChange riverLastsSpec)

/-- ITS FALSE NEIGHBOUR: 'it returns false'. Refute it at one input. -/
def riverLastsWrong : ChangeSpec := { name := "riverLasts", fn := fun _ => fun
  | [d1, d2, d3] => { results := [.lit (.bool false)], args := [d1, d2, d3] }
  | _ => none }
def RiverLastsWrongFalsely : Prop := riverLastsRow.holds Try.pinned (OpenSpec.ofChange riverLastsWrong)

/-- 'anillaw08.RiverDays': WHATEVER THE INPUT: true; the input reads as it did. -/
def riverDaysSpec : ChangeSpec := { name := "riverDays", fn := fun _ => fun
  | [d1, d2, d3, d4] => { results := [.lit (.bool true)], args := [d1, d2, d3, d4] }
  | _ => none }
def riverDaysRow : OpenClaim := { program := "ytgglfngkomgadaa", sum := "dd0b8e685595a0b999b65498048d35ce02e1764cea65b3f111550188823644b7", func := "anil/anillaw08.RiverDays", spec := "riverDays", unfollowed := true, recurses := true, plainKeys := false, apart := false }
def RiverDaysSaid : Prop := riverDaysRow.holds Try.pinned (OpenSpec.ofChange riverDaysSpec)

/-- ITS FALSE NEIGHBOUR: 'it returns false'. Refute it at one input. -/
def riverDaysWrong : ChangeSpec := { name := "riverDays", fn := fun _ => fun
  | [d1, d2, d3, d4] => { results := [.lit (.bool false)], args := [d1, d2, d3, d4] }
  | _ => none }
def RiverDaysWrongFalsely : Prop := riverDaysRow.holds Try.pinned (OpenSpec.ofChange riverDaysWrong)

/-- 'anillaw08.RiverNoFewer': WHATEVER THE INPUT: true; the input reads as it did. -/
def riverNoFewerSpec : ChangeSpec := { name := "riverNoFewer", fn := fun _ => fun
  | [d1, d2] => { results := [.lit (.bool true)], args := [d1, d2] }
  | _ => none }
def riverNoFewerRow : OpenClaim := { program := "ytgglfngkomgadaa", sum := "dd0b8e685595a0b999b65498048d35ce02e1764cea65b3f111550188823644b7", func := "anil/anillaw08.RiverNoFewer", spec := "riverNoFewer", unfollowed := true, recurses := true, plainKeys := false, apart := false }
def RiverNoFewerSaid : Prop := riverNoFewerRow.holds Try.pinned (OpenSpec.ofChange riverNoFewerSpec)

/-- ITS FALSE NEIGHBOUR: 'it returns false'. Refute it at one input. -/
def riverNoFewerWrong : ChangeSpec := { name := "riverNoFewer", fn := fun _ => fun
  | [d1, d2] => { results := [.lit (.bool false)], args := [d1, d2] }
  | _ => none }
def RiverNoFewerWrongFalsely : Prop := riverNoFewerRow.holds Try.pinned (OpenSpec.ofChange riverNoFewerWrong)

/-- 'anillaw08.RiverMore': WHATEVER THE INPUT: true; the input reads as it did. -/
def riverMoreSpec : ChangeSpec := { name := "riverMore", fn := fun _ => fun
  | [d1, d2, d3, d4] => { results := [.lit (.bool true)], args := [d1, d2, d3, d4] }
  | _ => none }
def riverMoreRow : OpenClaim := { program := "ytgglfngkomgadaa", sum := "dd0b8e685595a0b999b65498048d35ce02e1764cea65b3f111550188823644b7", func := "anil/anillaw08.RiverMore", spec := "riverMore", unfollowed := true, recurses := true, plainKeys := false, apart := false }
def RiverMoreSaid : Prop := riverMoreRow.holds Try.pinned (OpenSpec.ofChange riverMoreSpec)

/-- ITS FALSE NEIGHBOUR: 'it returns false'. Refute it at one input. -/
def riverMoreWrong : ChangeSpec := { name := "riverMore", fn := fun _ => fun
  | [d1, d2, d3, d4] => { results := [.lit (.bool false)], args := [d1, d2, d3, d4] }
  | _ => none }
def RiverMoreWrongFalsely : Prop := riverMoreRow.holds Try.pinned (OpenSpec.ofChange riverMoreWrong)

/-- 'anillaw08.RiverStorm': WHATEVER THE INPUT: true; the input reads as it did. -/
def riverStormSpec : ChangeSpec := { name := "riverStorm", fn := fun _ => fun
  | [d1, d2] => { results := [.lit (.bool true)], args := [d1, d2] }
  | _ => none }
def riverStormRow : OpenClaim := { program := "ytgglfngkomgadaa", sum := "dd0b8e685595a0b999b65498048d35ce02e1764cea65b3f111550188823644b7", func := "anil/anillaw08.RiverStorm", spec := "riverStorm", unfollowed := true, recurses := true, plainKeys := false, apart := false }
def RiverStormSaid : Prop := riverStormRow.holds Try.pinned (OpenSpec.ofChange riverStormSpec)

/-- ITS FALSE NEIGHBOUR: 'it returns false'. Refute it at one input. -/
def riverStormWrong : ChangeSpec := { name := "riverStorm", fn := fun _ => fun
  | [d1, d2] => { results := [.lit (.bool false)], args := [d1, d2] }
  | _ => none }
def RiverStormWrongFalsely : Prop := riverStormRow.holds Try.pinned (OpenSpec.ofChange riverStormWrong)

/-- 'anillaw08.RiverRead': WHATEVER THE INPUT: true; the input reads as it did. -/
def riverReadSpec : ChangeSpec := { name := "riverRead", fn := fun _ => fun
  | [d1, d2, d3, d4] => { results := [.lit (.bool true)], args := [d1, d2, d3, d4] }
  | _ => none }
def riverReadRow : OpenClaim := { program := "ytgglfngkomgadaa", sum := "dd0b8e685595a0b999b65498048d35ce02e1764cea65b3f111550188823644b7", func := "anil/anillaw08.RiverRead", spec := "riverRead", unfollowed := true, recurses := true, plainKeys := false, apart := false }
def RiverReadSaid : Prop := riverReadRow.holds Try.pinned (OpenSpec.ofChange riverReadSpec)

/-- ITS FALSE NEIGHBOUR: 'it returns false'. Refute it at one input. -/
def riverReadWrong : ChangeSpec := { name := "riverRead", fn := fun _ => fun
  | [d1, d2, d3, d4] => { results := [.lit (.bool false)], args := [d1, d2, d3, d4] }
  | _ => none }
def RiverReadWrongFalsely : Prop := riverReadRow.holds Try.pinned (OpenSpec.ofChange riverReadWrong)

/-- 'anillaw08.RiverWider': WHATEVER THE INPUT: true; the input reads as it did. -/
def riverWiderSpec : ChangeSpec := { name := "riverWider", fn := fun _ => fun
  | [d1, d2, d3, d4] => { results := [.lit (.bool true)], args := [d1, d2, d3, d4] }
  | _ => none }
def riverWiderRow : OpenClaim := { program := "ytgglfngkomgadaa", sum := "dd0b8e685595a0b999b65498048d35ce02e1764cea65b3f111550188823644b7", func := "anil/anillaw08.RiverWider", spec := "riverWider", unfollowed := true, recurses := true, plainKeys := false, apart := false }
def RiverWiderSaid : Prop := riverWiderRow.holds Try.pinned (OpenSpec.ofChange riverWiderSpec)

/-- ITS FALSE NEIGHBOUR: 'it returns false'. Refute it at one input. -/
def riverWiderWrong : ChangeSpec := { name := "riverWider", fn := fun _ => fun
  | [d1, d2, d3, d4] => { results := [.lit (.bool false)], args := [d1, d2, d3, d4] }
  | _ => none }
def RiverWiderWrongFalsely : Prop := riverWiderRow.holds Try.pinned (OpenSpec.ofChange riverWiderWrong)

/- THE SECOND FORM. 'bulk': how many values and letters a reading holds, each counted each time it is reached (what is shared counts as often as it is met; a slice's spare places count too). A statement '..UptoSaid' is the law's where the arguments, and the package variables that the reading takes, are together of bulk at most 1048576: NARROWER than '..Said'. Prove '..Said' where nothing that the law and all that it calls make is longer than what came in: it says more and counts as full. Else prove '..UptoSaid'. A law counts once. -/
mutual
def uptoBulk {H : Type} : DataW H → Nat
  | .lit (.string bytes) => bytes.length + 1
  | .lit _ => 1
  | .nil => 1
  | .ptr d => uptoBulk d + 1
  | .slice elems spare => uptoBulkAll elems + uptoBulkAll spare + 1
  | .agg parts => uptoBulkAll parts + 1
  | .iface _ d => uptoBulk d + 1
  | .map entries => uptoBulkEntries entries + 1
  | .held _ => 1
def uptoBulkAll {H : Type} : List (DataW H) → Nat
  | [] => 0
  | d :: r => uptoBulk d + uptoBulkAll r
def uptoBulkEntries {H : Type} : List (Lit × DataW H) → Nat
  | [] => 0
  | x :: r => uptoBulkEntry x + uptoBulkEntries r
def uptoBulkEntry {H : Type} : Lit × DataW H → Nat
  | (.string bytes, d) => bytes.length + uptoBulk d + 1
  | (_, d) => uptoBulk d + 1
 end
def uptoSmall : (H : Type) → List (DataW H) → Bool := fun _ ds => decide (uptoBulkAll ds ≤ 1048576)
def OpenSpec.upto (s : _root_.Go.ChangeSpec) : _root_.Go.OpenSpec := { _root_.Go.OpenSpec.ofChange s with cond := some uptoSmall }

/-- 'anillaw08.RiverGood', WHERE WHAT IT READS IS OF BULK AT MOST 1048576: true; the input reads as it did. -/
def riverGoodUptoRow : OpenClaim := { program := "ytgglfngkomgadaa", sum := "dd0b8e685595a0b999b65498048d35ce02e1764cea65b3f111550188823644b7", func := "anil/anillaw08.RiverGood", spec := "riverGood", unfollowed := true, recurses := true, plainKeys := false, apart := false, narrowed := true }
def RiverGoodUptoSaid : Prop := riverGoodUptoRow.holds Try.pinned (OpenSpec.upto riverGoodSpec)

/-- 'anillaw08.RiverTanks', WHERE WHAT IT READS IS OF BULK AT MOST 1048576: true; the input reads as it did. -/
def riverTanksUptoRow : OpenClaim := { program := "ytgglfngkomgadaa", sum := "dd0b8e685595a0b999b65498048d35ce02e1764cea65b3f111550188823644b7", func := "anil/anillaw08.RiverTanks", spec := "riverTanks", unfollowed := true, recurses := true, plainKeys := false, apart := false, narrowed := true }
def RiverTanksUptoSaid : Prop := riverTanksUptoRow.holds Try.pinned (OpenSpec.upto riverTanksSpec)

/-- 'anillaw08.RiverFewest', WHERE WHAT IT READS IS OF BULK AT MOST 1048576: true; the input reads as it did. -/
def riverFewestUptoRow : OpenClaim := { program := "ytgglfngkomgadaa", sum := "dd0b8e685595a0b999b65498048d35ce02e1764cea65b3f111550188823644b7", func := "anil/anillaw08.RiverFewest", spec := "riverFewest", unfollowed := true, recurses := true, plainKeys := false, apart := false, narrowed := true }
def RiverFewestUptoSaid : Prop := riverFewestUptoRow.holds Try.pinned (OpenSpec.upto riverFewestSpec)

/-- 'anillaw08.RiverNeeds', WHERE WHAT IT READS IS OF BULK AT MOST 1048576: true; the input reads as it did. -/
def riverNeedsUptoRow : OpenClaim := { program := "ytgglfngkomgadaa", sum := "dd0b8e685595a0b999b65498048d35ce02e1764cea65b3f111550188823644b7", func := "anil/anillaw08.RiverNeeds", spec := "riverNeeds", unfollowed := true, recurses := true, plainKeys := false, apart := false, narrowed := true }
def RiverNeedsUptoSaid : Prop := riverNeedsUptoRow.holds Try.pinned (OpenSpec.upto riverNeedsSpec)

/-- 'anillaw08.RiverStorms', WHERE WHAT IT READS IS OF BULK AT MOST 1048576: true; the input reads as it did. -/
def riverStormsUptoRow : OpenClaim := { program := "ytgglfngkomgadaa", sum := "dd0b8e685595a0b999b65498048d35ce02e1764cea65b3f111550188823644b7", func := "anil/anillaw08.RiverStorms", spec := "riverStorms", unfollowed := true, recurses := true, plainKeys := false, apart := false, narrowed := true }
def RiverStormsUptoSaid : Prop := riverStormsUptoRow.holds Try.pinned (OpenSpec.upto riverStormsSpec)

/-- 'anillaw08.RiverPlays', WHERE WHAT IT READS IS OF BULK AT MOST 1048576: true; the input reads as it did. -/
def riverPlaysUptoRow : OpenClaim := { program := "ytgglfngkomgadaa", sum := "dd0b8e685595a0b999b65498048d35ce02e1764cea65b3f111550188823644b7", func := "anil/anillaw08.RiverPlays", spec := "riverPlays", unfollowed := true, recurses := true, plainKeys := false, apart := false, narrowed := true }
def RiverPlaysUptoSaid : Prop := riverPlaysUptoRow.holds Try.pinned (OpenSpec.upto riverPlaysSpec)

/-- 'anillaw08.RiverLeaves', WHERE WHAT IT READS IS OF BULK AT MOST 1048576: true; the input reads as it did. -/
def riverLeavesUptoRow : OpenClaim := { program := "ytgglfngkomgadaa", sum := "dd0b8e685595a0b999b65498048d35ce02e1764cea65b3f111550188823644b7", func := "anil/anillaw08.RiverLeaves", spec := "riverLeaves", unfollowed := true, recurses := true, plainKeys := false, apart := false, narrowed := true }
def RiverLeavesUptoSaid : Prop := riverLeavesUptoRow.holds Try.pinned (OpenSpec.upto riverLeavesSpec)

/-- 'anillaw08.RiverTruth', WHERE WHAT IT READS IS OF BULK AT MOST 1048576: true; the input reads as it did. -/
def riverTruthUptoRow : OpenClaim := { program := "ytgglfngkomgadaa", sum := "dd0b8e685595a0b999b65498048d35ce02e1764cea65b3f111550188823644b7", func := "anil/anillaw08.RiverTruth", spec := "riverTruth", unfollowed := true, recurses := true, plainKeys := false, apart := false, narrowed := true }
def RiverTruthUptoSaid : Prop := riverTruthUptoRow.holds Try.pinned (OpenSpec.upto riverTruthSpec)

/-- 'anillaw08.RiverEnds', WHERE WHAT IT READS IS OF BULK AT MOST 1048576: true; the input reads as it did. -/
def riverEndsUptoRow : OpenClaim := { program := "ytgglfngkomgadaa", sum := "dd0b8e685595a0b999b65498048d35ce02e1764cea65b3f111550188823644b7", func := "anil/anillaw08.RiverEnds", spec := "riverEnds", unfollowed := true, recurses := true, plainKeys := false, apart := false, narrowed := true }
def RiverEndsUptoSaid : Prop := riverEndsUptoRow.holds Try.pinned (OpenSpec.upto riverEndsSpec)

/-- 'anillaw08.RiverLost', WHERE WHAT IT READS IS OF BULK AT MOST 1048576: true; the input reads as it did. -/
def riverLostUptoRow : OpenClaim := { program := "ytgglfngkomgadaa", sum := "dd0b8e685595a0b999b65498048d35ce02e1764cea65b3f111550188823644b7", func := "anil/anillaw08.RiverLost", spec := "riverLost", unfollowed := true, recurses := true, plainKeys := false, apart := false, narrowed := true }
def RiverLostUptoSaid : Prop := riverLostUptoRow.holds Try.pinned (OpenSpec.upto riverLostSpec)

/-- 'anillaw08.RiverSmallest', WHERE WHAT IT READS IS OF BULK AT MOST 1048576: true; the input reads as it did. -/
def riverSmallestUptoRow : OpenClaim := { program := "ytgglfngkomgadaa", sum := "dd0b8e685595a0b999b65498048d35ce02e1764cea65b3f111550188823644b7", func := "anil/anillaw08.RiverSmallest", spec := "riverSmallest", unfollowed := true, recurses := true, plainKeys := false, apart := false, narrowed := true }
def RiverSmallestUptoSaid : Prop := riverSmallestUptoRow.holds Try.pinned (OpenSpec.upto riverSmallestSpec)

/-- 'anillaw08.RiverFirst', WHERE WHAT IT READS IS OF BULK AT MOST 1048576: true; the input reads as it did. -/
def riverFirstUptoRow : OpenClaim := { program := "ytgglfngkomgadaa", sum := "dd0b8e685595a0b999b65498048d35ce02e1764cea65b3f111550188823644b7", func := "anil/anillaw08.RiverFirst", spec := "riverFirst", unfollowed := true, recurses := true, plainKeys := false, apart := false, narrowed := true }
def RiverFirstUptoSaid : Prop := riverFirstUptoRow.holds Try.pinned (OpenSpec.upto riverFirstSpec)

/-- 'anillaw08.RiverLeft', WHERE WHAT IT READS IS OF BULK AT MOST 1048576: true; the input reads as it did. -/
def riverLeftUptoRow : OpenClaim := { program := "ytgglfngkomgadaa", sum := "dd0b8e685595a0b999b65498048d35ce02e1764cea65b3f111550188823644b7", func := "anil/anillaw08.RiverLeft", spec := "riverLeft", unfollowed := true, recurses := true, plainKeys := false, apart := false, narrowed := true }
def RiverLeftUptoSaid : Prop := riverLeftUptoRow.holds Try.pinned (OpenSpec.upto riverLeftSpec)

/-- 'anillaw08.RiverLasts', WHERE WHAT IT READS IS OF BULK AT MOST 1048576: true; the input reads as it did. -/
def riverLastsUptoRow : OpenClaim := { program := "ytgglfngkomgadaa", sum := "dd0b8e685595a0b999b65498048d35ce02e1764cea65b3f111550188823644b7", func := "anil/anillaw08.RiverLasts", spec := "riverLasts", unfollowed := true, recurses := true, plainKeys := false, apart := false, narrowed := true }
def RiverLastsUptoSaid : Prop := riverLastsUptoRow.holds Try.pinned (OpenSpec.upto riverLastsSpec)

/-- 'anillaw08.RiverDays', WHERE WHAT IT READS IS OF BULK AT MOST 1048576: true; the input reads as it did. -/
def riverDaysUptoRow : OpenClaim := { program := "ytgglfngkomgadaa", sum := "dd0b8e685595a0b999b65498048d35ce02e1764cea65b3f111550188823644b7", func := "anil/anillaw08.RiverDays", spec := "riverDays", unfollowed := true, recurses := true, plainKeys := false, apart := false, narrowed := true }
def RiverDaysUptoSaid : Prop := riverDaysUptoRow.holds Try.pinned (OpenSpec.upto riverDaysSpec)

/-- 'anillaw08.RiverNoFewer', WHERE WHAT IT READS IS OF BULK AT MOST 1048576: true; the input reads as it did. -/
def riverNoFewerUptoRow : OpenClaim := { program := "ytgglfngkomgadaa", sum := "dd0b8e685595a0b999b65498048d35ce02e1764cea65b3f111550188823644b7", func := "anil/anillaw08.RiverNoFewer", spec := "riverNoFewer", unfollowed := true, recurses := true, plainKeys := false, apart := false, narrowed := true }
def RiverNoFewerUptoSaid : Prop := riverNoFewerUptoRow.holds Try.pinned (OpenSpec.upto riverNoFewerSpec)

/-- 'anillaw08.RiverMore', WHERE WHAT IT READS IS OF BULK AT MOST 1048576: true; the input reads as it did. -/
def riverMoreUptoRow : OpenClaim := { program := "ytgglfngkomgadaa", sum := "dd0b8e685595a0b999b65498048d35ce02e1764cea65b3f111550188823644b7", func := "anil/anillaw08.RiverMore", spec := "riverMore", unfollowed := true, recurses := true, plainKeys := false, apart := false, narrowed := true }
def RiverMoreUptoSaid : Prop := riverMoreUptoRow.holds Try.pinned (OpenSpec.upto riverMoreSpec)

/-- 'anillaw08.RiverStorm', WHERE WHAT IT READS IS OF BULK AT MOST 1048576: true; the input reads as it did. -/
def riverStormUptoRow : OpenClaim := { program := "ytgglfngkomgadaa", sum := "dd0b8e685595a0b999b65498048d35ce02e1764cea65b3f111550188823644b7", func := "anil/anillaw08.RiverStorm", spec := "riverStorm", unfollowed := true, recurses := true, plainKeys := false, apart := false, narrowed := true }
def RiverStormUptoSaid : Prop := riverStormUptoRow.holds Try.pinned (OpenSpec.upto riverStormSpec)

/-- 'anillaw08.RiverRead', WHERE WHAT IT READS IS OF BULK AT MOST 1048576: true; the input reads as it did. -/
def riverReadUptoRow : OpenClaim := { program := "ytgglfngkomgadaa", sum := "dd0b8e685595a0b999b65498048d35ce02e1764cea65b3f111550188823644b7", func := "anil/anillaw08.RiverRead", spec := "riverRead", unfollowed := true, recurses := true, plainKeys := false, apart := false, narrowed := true }
def RiverReadUptoSaid : Prop := riverReadUptoRow.holds Try.pinned (OpenSpec.upto riverReadSpec)

/-- 'anillaw08.RiverWider', WHERE WHAT IT READS IS OF BULK AT MOST 1048576: true; the input reads as it did. -/
def riverWiderUptoRow : OpenClaim := { program := "ytgglfngkomgadaa", sum := "dd0b8e685595a0b999b65498048d35ce02e1764cea65b3f111550188823644b7", func := "anil/anillaw08.RiverWider", spec := "riverWider", unfollowed := true, recurses := true, plainKeys := false, apart := false, narrowed := true }
def RiverWiderUptoSaid : Prop := riverWiderUptoRow.holds Try.pinned (OpenSpec.upto riverWiderSpec)

end Rows
end Go.Proofs.Ytgglfngkomgadaa
