/-
  No cell of these rows narrows 'for every input' (looked for: loops, veiled, ifaces, maps, wideKeys, modest, calm, conditions, laid).
  DERIVED. THE GIVEN ROWS OF THIS SEAT. 39 by the template 'for every input the law returns true; each argument reads behind the call as it read before'; 0 by the template 'total and deterministic' (their statements: YtgimohchocjgcaaTotals.lean).
  GIVEN WITH THE SEED: the statements are not yours to turn. If you find one false, say at which input.
  Laid BY PROGRAM, IN A SANDBOX (cutbox-rows.mjs): the forced cells as the released guide's own fill.sh prints them over the translation c2235391f4f03142… (all of the seat's roots in one cut). By AI agents, Wed Nov 11 2026. No macro, syntax, notation, axiom, sorry.
-/
import Derived.Test.YtgimohchocjgcaaChecked
import GoSem.Claim
import GoSem.ClaimJoined
import GoSem.ClaimMapViews
import Derived.JoinedTies
import Derived.KernelRfl
namespace Go.Proofs.Ytgimohchocjgcaa
/- THE CELL 'sum', in the pinned program and in every row, IS THE sha256 OF THE DUMP (.gsa) THAT YtgimohchocjgcaaProg.lean LOADS. Nothing in Lean hashes anything: it is a label: what it is worth is what the hold of that sum in a sandbox is worth. -/
noncomputable def Try.pinned : Pinned := { name := "ytgimohchocjgcaa", sum := "c2235391f4f0314264c97dd884c81ed0cb3fe0dff8c146f0e89465c52f6ade0e", checked := Try.checked }
namespace Rows
def none {H : Type} : Left H := { results := [], args := [] }

/-- 'intagliolaw12.ShaKnown': WHATEVER THE INPUT: true; the input reads as it did. -/
def shaKnownSpec : ChangeSpec := { name := "shaKnown", fn := fun _ => fun
  | [] => { results := [.lit (.bool true)], args := [] }
  | _ => none }
def shaKnownRow : OpenClaim := { program := "ytgimohchocjgcaa", sum := "c2235391f4f0314264c97dd884c81ed0cb3fe0dff8c146f0e89465c52f6ade0e", func := "intaglio/intagliolaw12.ShaKnown", spec := "shaKnown", apart := false }
def ShaKnownSaid : Prop := shaKnownRow.holds Try.pinned (OpenSpec.ofChange shaKnownSpec)

/-- ITS FALSE NEIGHBOUR: 'it returns false'. Refute it at one input. -/
def shaKnownWrong : ChangeSpec := { name := "shaKnown", fn := fun _ => fun
  | [] => { results := [.lit (.bool false)], args := [] }
  | _ => none }
def ShaKnownWrongFalsely : Prop := shaKnownRow.holds Try.pinned (OpenSpec.ofChange shaKnownWrong)

/-- 'intagliolaw12.ShaAll': WHATEVER THE INPUT: true; the input reads as it did. -/
def shaAllSpec : ChangeSpec := { name := "shaAll", fn := fun _ => fun
  | [d1, d2, d3] => { results := [.lit (.bool true)], args := [d1, d2, d3] }
  | _ => none }
def shaAllRow : OpenClaim := { program := "ytgimohchocjgcaa", sum := "c2235391f4f0314264c97dd884c81ed0cb3fe0dff8c146f0e89465c52f6ade0e", func := "intaglio/intagliolaw12.ShaAll", spec := "shaAll", inPlace := ["math/bits.Add64"], apart := false }
def ShaAllSaid : Prop := shaAllRow.holds Try.pinned (OpenSpec.ofChange shaAllSpec)

/-- ITS FALSE NEIGHBOUR: 'it returns false'. Refute it at one input. -/
def shaAllWrong : ChangeSpec := { name := "shaAll", fn := fun _ => fun
  | [d1, d2, d3] => { results := [.lit (.bool false)], args := [d1, d2, d3] }
  | _ => none }
def ShaAllWrongFalsely : Prop := shaAllRow.holds Try.pinned (OpenSpec.ofChange shaAllWrong)

/-- 'intagliolaw12.ShaPads': WHATEVER THE INPUT: true; the input reads as it did. -/
def shaPadsSpec : ChangeSpec := { name := "shaPads", fn := fun _ => fun
  | [d] => { results := [.lit (.bool true)], args := [d] }
  | _ => none }
def shaPadsRow : OpenClaim := { program := "ytgimohchocjgcaa", sum := "c2235391f4f0314264c97dd884c81ed0cb3fe0dff8c146f0e89465c52f6ade0e", func := "intaglio/intagliolaw12.ShaPads", spec := "shaPads", inPlace := ["math/bits.Add64"], apart := false }
def ShaPadsSaid : Prop := shaPadsRow.holds Try.pinned (OpenSpec.ofChange shaPadsSpec)

/-- ITS FALSE NEIGHBOUR: 'it returns false'. Refute it at one input. -/
def shaPadsWrong : ChangeSpec := { name := "shaPads", fn := fun _ => fun
  | [d] => { results := [.lit (.bool false)], args := [d] }
  | _ => none }
def ShaPadsWrongFalsely : Prop := shaPadsRow.holds Try.pinned (OpenSpec.ofChange shaPadsWrong)

/-- 'intagliolaw1.LimbRests': WHATEVER THE INPUT: true; the input reads as it did. -/
def limbRestsSpec : ChangeSpec := { name := "limbRests", fn := fun _ => fun
  | [d1, d2] => { results := [.lit (.bool true)], args := [d1, d2] }
  | _ => none }
def limbRestsRow : OpenClaim := { program := "ytgimohchocjgcaa", sum := "c2235391f4f0314264c97dd884c81ed0cb3fe0dff8c146f0e89465c52f6ade0e", func := "intaglio/intagliolaw1.LimbRests", spec := "limbRests", inPlace := ["math/bits.Sub64", "math/bits.Add64"], apart := false }
def LimbRestsSaid : Prop := limbRestsRow.holds Try.pinned (OpenSpec.ofChange limbRestsSpec)

/-- ITS FALSE NEIGHBOUR: 'it returns false'. Refute it at one input. -/
def limbRestsWrong : ChangeSpec := { name := "limbRests", fn := fun _ => fun
  | [d1, d2] => { results := [.lit (.bool false)], args := [d1, d2] }
  | _ => none }
def LimbRestsWrongFalsely : Prop := limbRestsRow.holds Try.pinned (OpenSpec.ofChange limbRestsWrong)

/-- 'intagliolaw1.LimbShifts': WHATEVER THE INPUT: true; the input reads as it did. -/
def limbShiftsSpec : ChangeSpec := { name := "limbShifts", fn := fun _ => fun
  | [d1, d2] => { results := [.lit (.bool true)], args := [d1, d2] }
  | _ => none }
def limbShiftsRow : OpenClaim := { program := "ytgimohchocjgcaa", sum := "c2235391f4f0314264c97dd884c81ed0cb3fe0dff8c146f0e89465c52f6ade0e", func := "intaglio/intagliolaw1.LimbShifts", spec := "limbShifts", inPlace := ["math/bits.Sub64", "math/bits.Add64"], apart := false }
def LimbShiftsSaid : Prop := limbShiftsRow.holds Try.pinned (OpenSpec.ofChange limbShiftsSpec)

/-- ITS FALSE NEIGHBOUR: 'it returns false'. Refute it at one input. -/
def limbShiftsWrong : ChangeSpec := { name := "limbShifts", fn := fun _ => fun
  | [d1, d2] => { results := [.lit (.bool false)], args := [d1, d2] }
  | _ => none }
def LimbShiftsWrongFalsely : Prop := limbShiftsRow.holds Try.pinned (OpenSpec.ofChange limbShiftsWrong)

/-- 'intagliolaw1.LimbBytes': WHATEVER THE INPUT: true; the input reads as it did. -/
def limbBytesSpec : ChangeSpec := { name := "limbBytes", fn := fun _ => fun
  | [d1, d2, d3] => { results := [.lit (.bool true)], args := [d1, d2, d3] }
  | _ => none }
def limbBytesRow : OpenClaim := { program := "ytgimohchocjgcaa", sum := "c2235391f4f0314264c97dd884c81ed0cb3fe0dff8c146f0e89465c52f6ade0e", func := "intaglio/intagliolaw1.LimbBytes", spec := "limbBytes", inPlace := ["math/bits.Sub64", "math/bits.Add64"], apart := false }
def LimbBytesSaid : Prop := limbBytesRow.holds Try.pinned (OpenSpec.ofChange limbBytesSpec)

/-- ITS FALSE NEIGHBOUR: 'it returns false'. Refute it at one input. -/
def limbBytesWrong : ChangeSpec := { name := "limbBytes", fn := fun _ => fun
  | [d1, d2, d3] => { results := [.lit (.bool false)], args := [d1, d2, d3] }
  | _ => none }
def LimbBytesWrongFalsely : Prop := limbBytesRow.holds Try.pinned (OpenSpec.ofChange limbBytesWrong)

/-- 'intagliolaw1.LimbBack': WHATEVER THE INPUT: true; the input reads as it did. -/
def limbBackSpec : ChangeSpec := { name := "limbBack", fn := fun _ => fun
  | [d1, d2] => { results := [.lit (.bool true)], args := [d1, d2] }
  | _ => none }
def limbBackRow : OpenClaim := { program := "ytgimohchocjgcaa", sum := "c2235391f4f0314264c97dd884c81ed0cb3fe0dff8c146f0e89465c52f6ade0e", func := "intaglio/intagliolaw1.LimbBack", spec := "limbBack", inPlace := ["math/bits.Sub64", "math/bits.Add64"], apart := false }
def LimbBackSaid : Prop := limbBackRow.holds Try.pinned (OpenSpec.ofChange limbBackSpec)

/-- ITS FALSE NEIGHBOUR: 'it returns false'. Refute it at one input. -/
def limbBackWrong : ChangeSpec := { name := "limbBack", fn := fun _ => fun
  | [d1, d2] => { results := [.lit (.bool false)], args := [d1, d2] }
  | _ => none }
def LimbBackWrongFalsely : Prop := limbBackRow.holds Try.pinned (OpenSpec.ofChange limbBackWrong)

/-- 'intagliolaw1.LimbAll': WHATEVER THE INPUT: true; the input reads as it did. -/
def limbAllSpec : ChangeSpec := { name := "limbAll", fn := fun _ => fun
  | [d1, d2] => { results := [.lit (.bool true)], args := [d1, d2] }
  | _ => none }
def limbAllRow : OpenClaim := { program := "ytgimohchocjgcaa", sum := "c2235391f4f0314264c97dd884c81ed0cb3fe0dff8c146f0e89465c52f6ade0e", func := "intaglio/intagliolaw1.LimbAll", spec := "limbAll", inPlace := ["math/bits.Sub64", "math/bits.Add64"], apart := false }
def LimbAllSaid : Prop := limbAllRow.holds Try.pinned (OpenSpec.ofChange limbAllSpec)

/-- ITS FALSE NEIGHBOUR: 'it returns false'. Refute it at one input. -/
def limbAllWrong : ChangeSpec := { name := "limbAll", fn := fun _ => fun
  | [d1, d2] => { results := [.lit (.bool false)], args := [d1, d2] }
  | _ => none }
def LimbAllWrongFalsely : Prop := limbAllRow.holds Try.pinned (OpenSpec.ofChange limbAllWrong)

/-- 'intagliolaw1.LimbRing': WHATEVER THE INPUT: true; the input reads as it did. -/
def limbRingSpec : ChangeSpec := { name := "limbRing", fn := fun _ => fun
  | [d1, d2, d3] => { results := [.lit (.bool true)], args := [d1, d2, d3] }
  | _ => none }
def limbRingRow : OpenClaim := { program := "ytgimohchocjgcaa", sum := "c2235391f4f0314264c97dd884c81ed0cb3fe0dff8c146f0e89465c52f6ade0e", func := "intaglio/intagliolaw1.LimbRing", spec := "limbRing", inPlace := ["math/bits.Sub64", "math/bits.Add64"], apart := false }
def LimbRingSaid : Prop := limbRingRow.holds Try.pinned (OpenSpec.ofChange limbRingSpec)

/-- ITS FALSE NEIGHBOUR: 'it returns false'. Refute it at one input. -/
def limbRingWrong : ChangeSpec := { name := "limbRing", fn := fun _ => fun
  | [d1, d2, d3] => { results := [.lit (.bool false)], args := [d1, d2, d3] }
  | _ => none }
def LimbRingWrongFalsely : Prop := limbRingRow.holds Try.pinned (OpenSpec.ofChange limbRingWrong)

/-- 'intagliolaw1.LimbLine': WHATEVER THE INPUT: true; the input reads as it did. -/
def limbLineSpec : ChangeSpec := { name := "limbLine", fn := fun _ => fun
  | [d1, d2, d3] => { results := [.lit (.bool true)], args := [d1, d2, d3] }
  | _ => none }
def limbLineRow : OpenClaim := { program := "ytgimohchocjgcaa", sum := "c2235391f4f0314264c97dd884c81ed0cb3fe0dff8c146f0e89465c52f6ade0e", func := "intaglio/intagliolaw1.LimbLine", spec := "limbLine", inPlace := ["math/bits.Sub64", "math/bits.Add64"], apart := false }
def LimbLineSaid : Prop := limbLineRow.holds Try.pinned (OpenSpec.ofChange limbLineSpec)

/-- ITS FALSE NEIGHBOUR: 'it returns false'. Refute it at one input. -/
def limbLineWrong : ChangeSpec := { name := "limbLine", fn := fun _ => fun
  | [d1, d2, d3] => { results := [.lit (.bool false)], args := [d1, d2, d3] }
  | _ => none }
def LimbLineWrongFalsely : Prop := limbLineRow.holds Try.pinned (OpenSpec.ofChange limbLineWrong)

/-- 'intagliolaw2.FrPowers': WHATEVER THE INPUT: true; the input reads as it did. -/
def frPowersSpec : ChangeSpec := { name := "frPowers", fn := fun _ => fun
  | [d1, d2] => { results := [.lit (.bool true)], args := [d1, d2] }
  | _ => none }
def frPowersRow : OpenClaim := { program := "ytgimohchocjgcaa", sum := "c2235391f4f0314264c97dd884c81ed0cb3fe0dff8c146f0e89465c52f6ade0e", func := "intaglio/intagliolaw2.FrPowers", spec := "frPowers", inPlace := ["math/bits.Add64", "math/bits.Sub64"], apart := false }
def FrPowersSaid : Prop := frPowersRow.holds Try.pinned (OpenSpec.ofChange frPowersSpec)

/-- ITS FALSE NEIGHBOUR: 'it returns false'. Refute it at one input. -/
def frPowersWrong : ChangeSpec := { name := "frPowers", fn := fun _ => fun
  | [d1, d2] => { results := [.lit (.bool false)], args := [d1, d2] }
  | _ => none }
def FrPowersWrongFalsely : Prop := frPowersRow.holds Try.pinned (OpenSpec.ofChange frPowersWrong)

/-- 'intagliolaw2.FrExponents': WHATEVER THE INPUT: true; the input reads as it did. -/
def frExponentsSpec : ChangeSpec := { name := "frExponents", fn := fun _ => fun
  | [d1, d2, d3] => { results := [.lit (.bool true)], args := [d1, d2, d3] }
  | _ => none }
def frExponentsRow : OpenClaim := { program := "ytgimohchocjgcaa", sum := "c2235391f4f0314264c97dd884c81ed0cb3fe0dff8c146f0e89465c52f6ade0e", func := "intaglio/intagliolaw2.FrExponents", spec := "frExponents", inPlace := ["math/bits.Add64", "math/bits.Sub64"], apart := false }
def FrExponentsSaid : Prop := frExponentsRow.holds Try.pinned (OpenSpec.ofChange frExponentsSpec)

/-- ITS FALSE NEIGHBOUR: 'it returns false'. Refute it at one input. -/
def frExponentsWrong : ChangeSpec := { name := "frExponents", fn := fun _ => fun
  | [d1, d2, d3] => { results := [.lit (.bool false)], args := [d1, d2, d3] }
  | _ => none }
def FrExponentsWrongFalsely : Prop := frExponentsRow.holds Try.pinned (OpenSpec.ofChange frExponentsWrong)

/-- 'intagliolaw2.FrRoots': WHATEVER THE INPUT: true; the input reads as it did. -/
def frRootsSpec : ChangeSpec := { name := "frRoots", fn := fun _ => fun
  | [d] => { results := [.lit (.bool true)], args := [d] }
  | _ => none }
def frRootsRow : OpenClaim := { program := "ytgimohchocjgcaa", sum := "c2235391f4f0314264c97dd884c81ed0cb3fe0dff8c146f0e89465c52f6ade0e", func := "intaglio/intagliolaw2.FrRoots", spec := "frRoots", inPlace := ["math/bits.Add64", "math/bits.Sub64"], apart := false }
def FrRootsSaid : Prop := frRootsRow.holds Try.pinned (OpenSpec.ofChange frRootsSpec)

/-- ITS FALSE NEIGHBOUR: 'it returns false'. Refute it at one input. -/
def frRootsWrong : ChangeSpec := { name := "frRoots", fn := fun _ => fun
  | [d] => { results := [.lit (.bool false)], args := [d] }
  | _ => none }
def FrRootsWrongFalsely : Prop := frRootsRow.holds Try.pinned (OpenSpec.ofChange frRootsWrong)

/-- 'intagliolaw2.FrAll': WHATEVER THE INPUT: true; the input reads as it did. -/
def frAllSpec : ChangeSpec := { name := "frAll", fn := fun _ => fun
  | [d1, d2, d3] => { results := [.lit (.bool true)], args := [d1, d2, d3] }
  | _ => none }
def frAllRow : OpenClaim := { program := "ytgimohchocjgcaa", sum := "c2235391f4f0314264c97dd884c81ed0cb3fe0dff8c146f0e89465c52f6ade0e", func := "intaglio/intagliolaw2.FrAll", spec := "frAll", inPlace := ["math/bits.Add64", "math/bits.Sub64"], apart := false }
def FrAllSaid : Prop := frAllRow.holds Try.pinned (OpenSpec.ofChange frAllSpec)

/-- ITS FALSE NEIGHBOUR: 'it returns false'. Refute it at one input. -/
def frAllWrong : ChangeSpec := { name := "frAll", fn := fun _ => fun
  | [d1, d2, d3] => { results := [.lit (.bool false)], args := [d1, d2, d3] }
  | _ => none }
def FrAllWrongFalsely : Prop := frAllRow.holds Try.pinned (OpenSpec.ofChange frAllWrong)

/-- 'intagliolaw2.FrField': WHATEVER THE INPUT: true; the input reads as it did. -/
def frFieldSpec : ChangeSpec := { name := "frField", fn := fun _ => fun
  | [d1, d2, d3] => { results := [.lit (.bool true)], args := [d1, d2, d3] }
  | _ => none }
def frFieldRow : OpenClaim := { program := "ytgimohchocjgcaa", sum := "c2235391f4f0314264c97dd884c81ed0cb3fe0dff8c146f0e89465c52f6ade0e", func := "intaglio/intagliolaw2.FrField", spec := "frField", inPlace := ["math/bits.Add64", "math/bits.Sub64"], apart := false }
def FrFieldSaid : Prop := frFieldRow.holds Try.pinned (OpenSpec.ofChange frFieldSpec)

/-- ITS FALSE NEIGHBOUR: 'it returns false'. Refute it at one input. -/
def frFieldWrong : ChangeSpec := { name := "frField", fn := fun _ => fun
  | [d1, d2, d3] => { results := [.lit (.bool false)], args := [d1, d2, d3] }
  | _ => none }
def FrFieldWrongFalsely : Prop := frFieldRow.holds Try.pinned (OpenSpec.ofChange frFieldWrong)

/-- 'intagliolaw26.PermAll': WHATEVER THE INPUT: true; the input reads as it did. -/
def permAllSpec : ChangeSpec := { name := "permAll", fn := fun _ => fun
  | [d1, d2, d3, d4, d5] => { results := [.lit (.bool true)], args := [d1, d2, d3, d4, d5] }
  | _ => none }
def permAllRow : OpenClaim := { program := "ytgimohchocjgcaa", sum := "c2235391f4f0314264c97dd884c81ed0cb3fe0dff8c146f0e89465c52f6ade0e", func := "intaglio/intagliolaw26.PermAll", spec := "permAll", inPlace := ["math/bits.Add64", "math/bits.Sub64"], apart := false }
def PermAllSaid : Prop := permAllRow.holds Try.pinned (OpenSpec.ofChange permAllSpec)

/-- ITS FALSE NEIGHBOUR: 'it returns false'. Refute it at one input. -/
def permAllWrong : ChangeSpec := { name := "permAll", fn := fun _ => fun
  | [d1, d2, d3, d4, d5] => { results := [.lit (.bool false)], args := [d1, d2, d3, d4, d5] }
  | _ => none }
def PermAllWrongFalsely : Prop := permAllRow.holds Try.pinned (OpenSpec.ofChange permAllWrong)

/-- 'intagliolaw26.PermChance': WHATEVER THE INPUT: true; the input reads as it did. -/
def permChanceSpec : ChangeSpec := { name := "permChance", fn := fun _ => fun
  | [d1, d2, d3] => { results := [.lit (.bool true)], args := [d1, d2, d3] }
  | _ => none }
def permChanceRow : OpenClaim := { program := "ytgimohchocjgcaa", sum := "c2235391f4f0314264c97dd884c81ed0cb3fe0dff8c146f0e89465c52f6ade0e", func := "intaglio/intagliolaw26.PermChance", spec := "permChance", inPlace := ["math/bits.Add64", "math/bits.Sub64"], apart := false }
def PermChanceSaid : Prop := permChanceRow.holds Try.pinned (OpenSpec.ofChange permChanceSpec)

/-- ITS FALSE NEIGHBOUR: 'it returns false'. Refute it at one input. -/
def permChanceWrong : ChangeSpec := { name := "permChance", fn := fun _ => fun
  | [d1, d2, d3] => { results := [.lit (.bool false)], args := [d1, d2, d3] }
  | _ => none }
def PermChanceWrongFalsely : Prop := permChanceRow.holds Try.pinned (OpenSpec.ofChange permChanceWrong)

/-- 'intagliolaw26.PermCloses': WHATEVER THE INPUT: true; the input reads as it did. -/
def permClosesSpec : ChangeSpec := { name := "permCloses", fn := fun _ => fun
  | [d1, d2, d3] => { results := [.lit (.bool true)], args := [d1, d2, d3] }
  | _ => none }
def permClosesRow : OpenClaim := { program := "ytgimohchocjgcaa", sum := "c2235391f4f0314264c97dd884c81ed0cb3fe0dff8c146f0e89465c52f6ade0e", func := "intaglio/intagliolaw26.PermCloses", spec := "permCloses", inPlace := ["math/bits.Add64", "math/bits.Sub64"], apart := false }
def PermClosesSaid : Prop := permClosesRow.holds Try.pinned (OpenSpec.ofChange permClosesSpec)

/-- ITS FALSE NEIGHBOUR: 'it returns false'. Refute it at one input. -/
def permClosesWrong : ChangeSpec := { name := "permCloses", fn := fun _ => fun
  | [d1, d2, d3] => { results := [.lit (.bool false)], args := [d1, d2, d3] }
  | _ => none }
def PermClosesWrongFalsely : Prop := permClosesRow.holds Try.pinned (OpenSpec.ofChange permClosesWrong)

/-- 'intagliolaw26.PermSwaps': WHATEVER THE INPUT: true; the input reads as it did. -/
def permSwapsSpec : ChangeSpec := { name := "permSwaps", fn := fun _ => fun
  | [d1, d2, d3, d4, d5] => { results := [.lit (.bool true)], args := [d1, d2, d3, d4, d5] }
  | _ => none }
def permSwapsRow : OpenClaim := { program := "ytgimohchocjgcaa", sum := "c2235391f4f0314264c97dd884c81ed0cb3fe0dff8c146f0e89465c52f6ade0e", func := "intaglio/intagliolaw26.PermSwaps", spec := "permSwaps", inPlace := ["math/bits.Add64", "math/bits.Sub64"], apart := false }
def PermSwapsSaid : Prop := permSwapsRow.holds Try.pinned (OpenSpec.ofChange permSwapsSpec)

/-- ITS FALSE NEIGHBOUR: 'it returns false'. Refute it at one input. -/
def permSwapsWrong : ChangeSpec := { name := "permSwaps", fn := fun _ => fun
  | [d1, d2, d3, d4, d5] => { results := [.lit (.bool false)], args := [d1, d2, d3, d4, d5] }
  | _ => none }
def PermSwapsWrongFalsely : Prop := permSwapsRow.holds Try.pinned (OpenSpec.ofChange permSwapsWrong)

/-- 'intagliolaw13.TalkSame': WHATEVER THE INPUT: true; the input reads as it did. -/
def talkSameSpec : ChangeSpec := { name := "talkSame", fn := fun _ => fun
  | [d1, d2, d3] => { results := [.lit (.bool true)], args := [d1, d2, d3] }
  | _ => none }
def talkSameRow : OpenClaim := { program := "ytgimohchocjgcaa", sum := "c2235391f4f0314264c97dd884c81ed0cb3fe0dff8c146f0e89465c52f6ade0e", func := "intaglio/intagliolaw13.TalkSame", spec := "talkSame", inPlace := ["math/bits.Sub64"], apart := false }
def TalkSameSaid : Prop := talkSameRow.holds Try.pinned (OpenSpec.ofChange talkSameSpec)

/-- ITS FALSE NEIGHBOUR: 'it returns false'. Refute it at one input. -/
def talkSameWrong : ChangeSpec := { name := "talkSame", fn := fun _ => fun
  | [d1, d2, d3] => { results := [.lit (.bool false)], args := [d1, d2, d3] }
  | _ => none }
def TalkSameWrongFalsely : Prop := talkSameRow.holds Try.pinned (OpenSpec.ofChange talkSameWrong)

/-- 'intagliolaw20.GateValues': WHATEVER THE INPUT: true; the input reads as it did. -/
def gateValuesSpec : ChangeSpec := { name := "gateValues", fn := fun _ => fun
  | [d1, d2, d3, d4, d5] => { results := [.lit (.bool true)], args := [d1, d2, d3, d4, d5] }
  | _ => none }
def gateValuesRow : OpenClaim := { program := "ytgimohchocjgcaa", sum := "c2235391f4f0314264c97dd884c81ed0cb3fe0dff8c146f0e89465c52f6ade0e", func := "intaglio/intagliolaw20.GateValues", spec := "gateValues", inPlace := ["math/bits.Add64", "math/bits.Sub64"], apart := false }
def GateValuesSaid : Prop := gateValuesRow.holds Try.pinned (OpenSpec.ofChange gateValuesSpec)

/-- ITS FALSE NEIGHBOUR: 'it returns false'. Refute it at one input. -/
def gateValuesWrong : ChangeSpec := { name := "gateValues", fn := fun _ => fun
  | [d1, d2, d3, d4, d5] => { results := [.lit (.bool false)], args := [d1, d2, d3, d4, d5] }
  | _ => none }
def GateValuesWrongFalsely : Prop := gateValuesRow.holds Try.pinned (OpenSpec.ofChange gateValuesWrong)

/-- 'intagliolaw20.GateHolds': WHATEVER THE INPUT: true; the input reads as it did. -/
def gateHoldsSpec : ChangeSpec := { name := "gateHolds", fn := fun _ => fun
  | [d1, d2, d3, d4, d5, d6] => { results := [.lit (.bool true)], args := [d1, d2, d3, d4, d5, d6] }
  | _ => none }
def gateHoldsRow : OpenClaim := { program := "ytgimohchocjgcaa", sum := "c2235391f4f0314264c97dd884c81ed0cb3fe0dff8c146f0e89465c52f6ade0e", func := "intaglio/intagliolaw20.GateHolds", spec := "gateHolds", inPlace := ["math/bits.Add64", "math/bits.Sub64"], apart := false }
def GateHoldsSaid : Prop := gateHoldsRow.holds Try.pinned (OpenSpec.ofChange gateHoldsSpec)

/-- ITS FALSE NEIGHBOUR: 'it returns false'. Refute it at one input. -/
def gateHoldsWrong : ChangeSpec := { name := "gateHolds", fn := fun _ => fun
  | [d1, d2, d3, d4, d5, d6] => { results := [.lit (.bool false)], args := [d1, d2, d3, d4, d5, d6] }
  | _ => none }
def GateHoldsWrongFalsely : Prop := gateHoldsRow.holds Try.pinned (OpenSpec.ofChange gateHoldsWrong)

/-- 'intagliolaw20.GateSums': WHATEVER THE INPUT: true; the input reads as it did. -/
def gateSumsSpec : ChangeSpec := { name := "gateSums", fn := fun _ => fun
  | [d1, d2, d3, d4, d5, d6, d7] => { results := [.lit (.bool true)], args := [d1, d2, d3, d4, d5, d6, d7] }
  | _ => none }
def gateSumsRow : OpenClaim := { program := "ytgimohchocjgcaa", sum := "c2235391f4f0314264c97dd884c81ed0cb3fe0dff8c146f0e89465c52f6ade0e", func := "intaglio/intagliolaw20.GateSums", spec := "gateSums", inPlace := ["math/bits.Add64", "math/bits.Sub64"], apart := false }
def GateSumsSaid : Prop := gateSumsRow.holds Try.pinned (OpenSpec.ofChange gateSumsSpec)

/-- ITS FALSE NEIGHBOUR: 'it returns false'. Refute it at one input. -/
def gateSumsWrong : ChangeSpec := { name := "gateSums", fn := fun _ => fun
  | [d1, d2, d3, d4, d5, d6, d7] => { results := [.lit (.bool false)], args := [d1, d2, d3, d4, d5, d6, d7] }
  | _ => none }
def GateSumsWrongFalsely : Prop := gateSumsRow.holds Try.pinned (OpenSpec.ofChange gateSumsWrong)

/-- 'intagliolaw13.TalkAll': WHATEVER THE INPUT: true; the input reads as it did. -/
def talkAllSpec : ChangeSpec := { name := "talkAll", fn := fun _ => fun
  | [d1, d2] => { results := [.lit (.bool true)], args := [d1, d2] }
  | _ => none }
def talkAllRow : OpenClaim := { program := "ytgimohchocjgcaa", sum := "c2235391f4f0314264c97dd884c81ed0cb3fe0dff8c146f0e89465c52f6ade0e", func := "intaglio/intagliolaw13.TalkAll", spec := "talkAll", inPlace := ["math/bits.Sub64", "math/bits.Add64"], apart := false }
def TalkAllSaid : Prop := talkAllRow.holds Try.pinned (OpenSpec.ofChange talkAllSpec)

/-- ITS FALSE NEIGHBOUR: 'it returns false'. Refute it at one input. -/
def talkAllWrong : ChangeSpec := { name := "talkAll", fn := fun _ => fun
  | [d1, d2] => { results := [.lit (.bool false)], args := [d1, d2] }
  | _ => none }
def TalkAllWrongFalsely : Prop := talkAllRow.holds Try.pinned (OpenSpec.ofChange talkAllWrong)

/-- 'intagliolaw21.BuildAll': WHATEVER THE INPUT: true; the input reads as it did. -/
def buildAllSpec : ChangeSpec := { name := "buildAll", fn := fun _ => fun
  | [d] => { results := [.lit (.bool true)], args := [d] }
  | _ => none }
def buildAllRow : OpenClaim := { program := "ytgimohchocjgcaa", sum := "c2235391f4f0314264c97dd884c81ed0cb3fe0dff8c146f0e89465c52f6ade0e", func := "intaglio/intagliolaw21.BuildAll", spec := "buildAll", apart := false }
def BuildAllSaid : Prop := buildAllRow.holds Try.pinned (OpenSpec.ofChange buildAllSpec)

/-- ITS FALSE NEIGHBOUR: 'it returns false'. Refute it at one input. -/
def buildAllWrong : ChangeSpec := { name := "buildAll", fn := fun _ => fun
  | [d] => { results := [.lit (.bool false)], args := [d] }
  | _ => none }
def BuildAllWrongFalsely : Prop := buildAllRow.holds Try.pinned (OpenSpec.ofChange buildAllWrong)

/-- 'intagliolaw21.BuildMost': WHATEVER THE INPUT: true; the input reads as it did. -/
def buildMostSpec : ChangeSpec := { name := "buildMost", fn := fun _ => fun
  | [d] => { results := [.lit (.bool true)], args := [d] }
  | _ => none }
def buildMostRow : OpenClaim := { program := "ytgimohchocjgcaa", sum := "c2235391f4f0314264c97dd884c81ed0cb3fe0dff8c146f0e89465c52f6ade0e", func := "intaglio/intagliolaw21.BuildMost", spec := "buildMost", apart := false }
def BuildMostSaid : Prop := buildMostRow.holds Try.pinned (OpenSpec.ofChange buildMostSpec)

/-- ITS FALSE NEIGHBOUR: 'it returns false'. Refute it at one input. -/
def buildMostWrong : ChangeSpec := { name := "buildMost", fn := fun _ => fun
  | [d] => { results := [.lit (.bool false)], args := [d] }
  | _ => none }
def BuildMostWrongFalsely : Prop := buildMostRow.holds Try.pinned (OpenSpec.ofChange buildMostWrong)

/-- 'intagliolaw21.BuildPublic': WHATEVER THE INPUT: true; the input reads as it did. -/
def buildPublicSpec : ChangeSpec := { name := "buildPublic", fn := fun _ => fun
  | [d] => { results := [.lit (.bool true)], args := [d] }
  | _ => none }
def buildPublicRow : OpenClaim := { program := "ytgimohchocjgcaa", sum := "c2235391f4f0314264c97dd884c81ed0cb3fe0dff8c146f0e89465c52f6ade0e", func := "intaglio/intagliolaw21.BuildPublic", spec := "buildPublic", apart := false }
def BuildPublicSaid : Prop := buildPublicRow.holds Try.pinned (OpenSpec.ofChange buildPublicSpec)

/-- ITS FALSE NEIGHBOUR: 'it returns false'. Refute it at one input. -/
def buildPublicWrong : ChangeSpec := { name := "buildPublic", fn := fun _ => fun
  | [d] => { results := [.lit (.bool false)], args := [d] }
  | _ => none }
def BuildPublicWrongFalsely : Prop := buildPublicRow.holds Try.pinned (OpenSpec.ofChange buildPublicWrong)

/-- 'intagliolaw2.FrBytes': WHATEVER THE INPUT: true; the input reads as it did. -/
def frBytesSpec : ChangeSpec := { name := "frBytes", fn := fun _ => fun
  | [d1, d2] => { results := [.lit (.bool true)], args := [d1, d2] }
  | _ => none }
def frBytesRow : OpenClaim := { program := "ytgimohchocjgcaa", sum := "c2235391f4f0314264c97dd884c81ed0cb3fe0dff8c146f0e89465c52f6ade0e", func := "intaglio/intagliolaw2.FrBytes", spec := "frBytes", inPlace := ["math/bits.Add64", "math/bits.Sub64"], apart := false }
def FrBytesSaid : Prop := frBytesRow.holds Try.pinned (OpenSpec.ofChange frBytesSpec)

/-- ITS FALSE NEIGHBOUR: 'it returns false'. Refute it at one input. -/
def frBytesWrong : ChangeSpec := { name := "frBytes", fn := fun _ => fun
  | [d1, d2] => { results := [.lit (.bool false)], args := [d1, d2] }
  | _ => none }
def FrBytesWrongFalsely : Prop := frBytesRow.holds Try.pinned (OpenSpec.ofChange frBytesWrong)

/-- 'intagliolaw21.BuildSame': WHATEVER THE INPUT: true; the input reads as it did. -/
def buildSameSpec : ChangeSpec := { name := "buildSame", fn := fun _ => fun
  | [d1, d2, d3] => { results := [.lit (.bool true)], args := [d1, d2, d3] }
  | _ => none }
def buildSameRow : OpenClaim := { program := "ytgimohchocjgcaa", sum := "c2235391f4f0314264c97dd884c81ed0cb3fe0dff8c146f0e89465c52f6ade0e", func := "intaglio/intagliolaw21.BuildSame", spec := "buildSame", inPlace := ["math/bits.Add64", "math/bits.Sub64"], apart := false }
def BuildSameSaid : Prop := buildSameRow.holds Try.pinned (OpenSpec.ofChange buildSameSpec)

/-- ITS FALSE NEIGHBOUR: 'it returns false'. Refute it at one input. -/
def buildSameWrong : ChangeSpec := { name := "buildSame", fn := fun _ => fun
  | [d1, d2, d3] => { results := [.lit (.bool false)], args := [d1, d2, d3] }
  | _ => none }
def BuildSameWrongFalsely : Prop := buildSameRow.holds Try.pinned (OpenSpec.ofChange buildSameWrong)

/-- 'intagliolaw22.WireAll': WHATEVER THE INPUT: true; the input reads as it did. -/
def wireAllSpec : ChangeSpec := { name := "wireAll", fn := fun _ => fun
  | [d1, d2] => { results := [.lit (.bool true)], args := [d1, d2] }
  | _ => none }
def wireAllRow : OpenClaim := { program := "ytgimohchocjgcaa", sum := "c2235391f4f0314264c97dd884c81ed0cb3fe0dff8c146f0e89465c52f6ade0e", func := "intaglio/intagliolaw22.WireAll", spec := "wireAll", inPlace := ["math/bits.Add64", "math/bits.Sub64"], apart := false }
def WireAllSaid : Prop := wireAllRow.holds Try.pinned (OpenSpec.ofChange wireAllSpec)

/-- ITS FALSE NEIGHBOUR: 'it returns false'. Refute it at one input. -/
def wireAllWrong : ChangeSpec := { name := "wireAll", fn := fun _ => fun
  | [d1, d2] => { results := [.lit (.bool false)], args := [d1, d2] }
  | _ => none }
def WireAllWrongFalsely : Prop := wireAllRow.holds Try.pinned (OpenSpec.ofChange wireAllWrong)

/-- 'intagliolaw22.WireMade': WHATEVER THE INPUT: true; the input reads as it did. -/
def wireMadeSpec : ChangeSpec := { name := "wireMade", fn := fun _ => fun
  | [d1, d2] => { results := [.lit (.bool true)], args := [d1, d2] }
  | _ => none }
def wireMadeRow : OpenClaim := { program := "ytgimohchocjgcaa", sum := "c2235391f4f0314264c97dd884c81ed0cb3fe0dff8c146f0e89465c52f6ade0e", func := "intaglio/intagliolaw22.WireMade", spec := "wireMade", inPlace := ["math/bits.Add64", "math/bits.Sub64"], apart := false }
def WireMadeSaid : Prop := wireMadeRow.holds Try.pinned (OpenSpec.ofChange wireMadeSpec)

/-- ITS FALSE NEIGHBOUR: 'it returns false'. Refute it at one input. -/
def wireMadeWrong : ChangeSpec := { name := "wireMade", fn := fun _ => fun
  | [d1, d2] => { results := [.lit (.bool false)], args := [d1, d2] }
  | _ => none }
def WireMadeWrongFalsely : Prop := wireMadeRow.holds Try.pinned (OpenSpec.ofChange wireMadeWrong)

/-- 'intagliolaw22.WireNames': WHATEVER THE INPUT: true; the input reads as it did. -/
def wireNamesSpec : ChangeSpec := { name := "wireNames", fn := fun _ => fun
  | [d1, d2, d3] => { results := [.lit (.bool true)], args := [d1, d2, d3] }
  | _ => none }
def wireNamesRow : OpenClaim := { program := "ytgimohchocjgcaa", sum := "c2235391f4f0314264c97dd884c81ed0cb3fe0dff8c146f0e89465c52f6ade0e", func := "intaglio/intagliolaw22.WireNames", spec := "wireNames", inPlace := ["math/bits.Add64", "math/bits.Sub64"], apart := false }
def WireNamesSaid : Prop := wireNamesRow.holds Try.pinned (OpenSpec.ofChange wireNamesSpec)

/-- ITS FALSE NEIGHBOUR: 'it returns false'. Refute it at one input. -/
def wireNamesWrong : ChangeSpec := { name := "wireNames", fn := fun _ => fun
  | [d1, d2, d3] => { results := [.lit (.bool false)], args := [d1, d2, d3] }
  | _ => none }
def WireNamesWrongFalsely : Prop := wireNamesRow.holds Try.pinned (OpenSpec.ofChange wireNamesWrong)

/-- 'intagliolaw22.WireRings': WHATEVER THE INPUT: true; the input reads as it did. -/
def wireRingsSpec : ChangeSpec := { name := "wireRings", fn := fun _ => fun
  | [d] => { results := [.lit (.bool true)], args := [d] }
  | _ => none }
def wireRingsRow : OpenClaim := { program := "ytgimohchocjgcaa", sum := "c2235391f4f0314264c97dd884c81ed0cb3fe0dff8c146f0e89465c52f6ade0e", func := "intaglio/intagliolaw22.WireRings", spec := "wireRings", inPlace := ["math/bits.Add64", "math/bits.Sub64"], apart := false }
def WireRingsSaid : Prop := wireRingsRow.holds Try.pinned (OpenSpec.ofChange wireRingsSpec)

/-- ITS FALSE NEIGHBOUR: 'it returns false'. Refute it at one input. -/
def wireRingsWrong : ChangeSpec := { name := "wireRings", fn := fun _ => fun
  | [d] => { results := [.lit (.bool false)], args := [d] }
  | _ => none }
def WireRingsWrongFalsely : Prop := wireRingsRow.holds Try.pinned (OpenSpec.ofChange wireRingsWrong)

/-- 'intagliolaw22.WireMerges': WHATEVER THE INPUT: true; the input reads as it did. -/
def wireMergesSpec : ChangeSpec := { name := "wireMerges", fn := fun _ => fun
  | [d1, d2, d3] => { results := [.lit (.bool true)], args := [d1, d2, d3] }
  | _ => none }
def wireMergesRow : OpenClaim := { program := "ytgimohchocjgcaa", sum := "c2235391f4f0314264c97dd884c81ed0cb3fe0dff8c146f0e89465c52f6ade0e", func := "intaglio/intagliolaw22.WireMerges", spec := "wireMerges", inPlace := ["math/bits.Add64", "math/bits.Sub64"], apart := false }
def WireMergesSaid : Prop := wireMergesRow.holds Try.pinned (OpenSpec.ofChange wireMergesSpec)

/-- ITS FALSE NEIGHBOUR: 'it returns false'. Refute it at one input. -/
def wireMergesWrong : ChangeSpec := { name := "wireMerges", fn := fun _ => fun
  | [d1, d2, d3] => { results := [.lit (.bool false)], args := [d1, d2, d3] }
  | _ => none }
def WireMergesWrongFalsely : Prop := wireMergesRow.holds Try.pinned (OpenSpec.ofChange wireMergesWrong)

/-- 'intagliolaw24.CircBack': WHATEVER THE INPUT: true; the input reads as it did. -/
def circBackSpec : ChangeSpec := { name := "circBack", fn := fun _ => fun
  | [d1, d2, d3, d4] => { results := [.lit (.bool true)], args := [d1, d2, d3, d4] }
  | _ => none }
def circBackRow : OpenClaim := { program := "ytgimohchocjgcaa", sum := "c2235391f4f0314264c97dd884c81ed0cb3fe0dff8c146f0e89465c52f6ade0e", func := "intaglio/intagliolaw24.CircBack", spec := "circBack", inPlace := ["math/bits.Add64", "math/bits.Sub64"], apart := false }
def CircBackSaid : Prop := circBackRow.holds Try.pinned (OpenSpec.ofChange circBackSpec)

/-- ITS FALSE NEIGHBOUR: 'it returns false'. Refute it at one input. -/
def circBackWrong : ChangeSpec := { name := "circBack", fn := fun _ => fun
  | [d1, d2, d3, d4] => { results := [.lit (.bool false)], args := [d1, d2, d3, d4] }
  | _ => none }
def CircBackWrongFalsely : Prop := circBackRow.holds Try.pinned (OpenSpec.ofChange circBackWrong)

/-- 'intagliolaw24.CircLong': WHATEVER THE INPUT: true; the input reads as it did. -/
def circLongSpec : ChangeSpec := { name := "circLong", fn := fun _ => fun
  | [d] => { results := [.lit (.bool true)], args := [d] }
  | _ => none }
def circLongRow : OpenClaim := { program := "ytgimohchocjgcaa", sum := "c2235391f4f0314264c97dd884c81ed0cb3fe0dff8c146f0e89465c52f6ade0e", func := "intaglio/intagliolaw24.CircLong", spec := "circLong", inPlace := ["math/bits.Add64", "math/bits.Sub64"], apart := false }
def CircLongSaid : Prop := circLongRow.holds Try.pinned (OpenSpec.ofChange circLongSpec)

/-- ITS FALSE NEIGHBOUR: 'it returns false'. Refute it at one input. -/
def circLongWrong : ChangeSpec := { name := "circLong", fn := fun _ => fun
  | [d] => { results := [.lit (.bool false)], args := [d] }
  | _ => none }
def CircLongWrongFalsely : Prop := circLongRow.holds Try.pinned (OpenSpec.ofChange circLongWrong)

/-- 'intagliolaw23.EvalAll': WHATEVER THE INPUT: true; the input reads as it did. -/
def evalAllSpec : ChangeSpec := { name := "evalAll", fn := fun _ => fun
  | [d1, d2, d3, d4, d5] => { results := [.lit (.bool true)], args := [d1, d2, d3, d4, d5] }
  | _ => none }
def evalAllRow : OpenClaim := { program := "ytgimohchocjgcaa", sum := "c2235391f4f0314264c97dd884c81ed0cb3fe0dff8c146f0e89465c52f6ade0e", func := "intaglio/intagliolaw23.EvalAll", spec := "evalAll", inPlace := ["math/bits.Add64", "math/bits.Sub64"], apart := false }
def EvalAllSaid : Prop := evalAllRow.holds Try.pinned (OpenSpec.ofChange evalAllSpec)

/-- ITS FALSE NEIGHBOUR: 'it returns false'. Refute it at one input. -/
def evalAllWrong : ChangeSpec := { name := "evalAll", fn := fun _ => fun
  | [d1, d2, d3, d4, d5] => { results := [.lit (.bool false)], args := [d1, d2, d3, d4, d5] }
  | _ => none }
def EvalAllWrongFalsely : Prop := evalAllRow.holds Try.pinned (OpenSpec.ofChange evalAllWrong)

/-- 'intagliolaw23.EvalBuilt': WHATEVER THE INPUT: true; the input reads as it did. -/
def evalBuiltSpec : ChangeSpec := { name := "evalBuilt", fn := fun _ => fun
  | [d1, d2, d3, d4] => { results := [.lit (.bool true)], args := [d1, d2, d3, d4] }
  | _ => none }
def evalBuiltRow : OpenClaim := { program := "ytgimohchocjgcaa", sum := "c2235391f4f0314264c97dd884c81ed0cb3fe0dff8c146f0e89465c52f6ade0e", func := "intaglio/intagliolaw23.EvalBuilt", spec := "evalBuilt", inPlace := ["math/bits.Add64", "math/bits.Sub64"], apart := false }
def EvalBuiltSaid : Prop := evalBuiltRow.holds Try.pinned (OpenSpec.ofChange evalBuiltSpec)

/-- ITS FALSE NEIGHBOUR: 'it returns false'. Refute it at one input. -/
def evalBuiltWrong : ChangeSpec := { name := "evalBuilt", fn := fun _ => fun
  | [d1, d2, d3, d4] => { results := [.lit (.bool false)], args := [d1, d2, d3, d4] }
  | _ => none }
def EvalBuiltWrongFalsely : Prop := evalBuiltRow.holds Try.pinned (OpenSpec.ofChange evalBuiltWrong)

/-- 'intagliolaw23.EvalFirst': WHATEVER THE INPUT: true; the input reads as it did. -/
def evalFirstSpec : ChangeSpec := { name := "evalFirst", fn := fun _ => fun
  | [d1, d2, d3] => { results := [.lit (.bool true)], args := [d1, d2, d3] }
  | _ => none }
def evalFirstRow : OpenClaim := { program := "ytgimohchocjgcaa", sum := "c2235391f4f0314264c97dd884c81ed0cb3fe0dff8c146f0e89465c52f6ade0e", func := "intaglio/intagliolaw23.EvalFirst", spec := "evalFirst", inPlace := ["math/bits.Add64", "math/bits.Sub64"], apart := false }
def EvalFirstSaid : Prop := evalFirstRow.holds Try.pinned (OpenSpec.ofChange evalFirstSpec)

/-- ITS FALSE NEIGHBOUR: 'it returns false'. Refute it at one input. -/
def evalFirstWrong : ChangeSpec := { name := "evalFirst", fn := fun _ => fun
  | [d1, d2, d3] => { results := [.lit (.bool false)], args := [d1, d2, d3] }
  | _ => none }
def EvalFirstWrongFalsely : Prop := evalFirstRow.holds Try.pinned (OpenSpec.ofChange evalFirstWrong)

/- THE SECOND FORM. 'bulk': how many values and letters a reading holds, each counted each time it is reached (what is shared counts as often as it is met; a slice's spare places count too). A statement '..UptoSaid' is the law's where the arguments, and the package variables that the reading takes, are together of bulk at most 1048576: NARROWER than '..Said'. Prove '..Said' where nothing that the law and all that it calls make is longer than what came in: it says more and counts as full. Else prove '..UptoSaid'. A law counts once. -/
mutual
def uptoBulk {H : Type} : DataW H → Nat
  | .lit (.string bytes) => bytes.length + 1
  | .lit _ => 1
  | .nil => 1
  | .ptr d => uptoBulk d + 1
  | .slice elems spare => uptoBulkAll elems + uptoBulkAll spare + 1
  | .agg parts => uptoBulkAll parts + 1
  | .iface _ d => uptoBulk d + 1
  | .map entries => uptoBulkEntries entries + 1
  | .held _ => 1
def uptoBulkAll {H : Type} : List (DataW H) → Nat
  | [] => 0
  | d :: r => uptoBulk d + uptoBulkAll r
def uptoBulkEntries {H : Type} : List (Lit × DataW H) → Nat
  | [] => 0
  | x :: r => uptoBulkEntry x + uptoBulkEntries r
def uptoBulkEntry {H : Type} : Lit × DataW H → Nat
  | (.string bytes, d) => bytes.length + uptoBulk d + 1
  | (_, d) => uptoBulk d + 1
 end
def uptoSmall : (H : Type) → List (DataW H) → Bool := fun _ ds => decide (uptoBulkAll ds ≤ 1048576)
def OpenSpec.upto (s : _root_.Go.ChangeSpec) : _root_.Go.OpenSpec := { _root_.Go.OpenSpec.ofChange s with cond := some uptoSmall }

/-- 'intagliolaw12.ShaKnown', WHERE WHAT IT READS IS OF BULK AT MOST 1048576: true; the input reads as it did. -/
def shaKnownUptoRow : OpenClaim := { program := "ytgimohchocjgcaa", sum := "c2235391f4f0314264c97dd884c81ed0cb3fe0dff8c146f0e89465c52f6ade0e", func := "intaglio/intagliolaw12.ShaKnown", spec := "shaKnown", apart := false, narrowed := true }
def ShaKnownUptoSaid : Prop := shaKnownUptoRow.holds Try.pinned (OpenSpec.upto shaKnownSpec)

/-- 'intagliolaw12.ShaAll', WHERE WHAT IT READS IS OF BULK AT MOST 1048576: true; the input reads as it did. -/
def shaAllUptoRow : OpenClaim := { program := "ytgimohchocjgcaa", sum := "c2235391f4f0314264c97dd884c81ed0cb3fe0dff8c146f0e89465c52f6ade0e", func := "intaglio/intagliolaw12.ShaAll", spec := "shaAll", inPlace := ["math/bits.Add64"], apart := false, narrowed := true }
def ShaAllUptoSaid : Prop := shaAllUptoRow.holds Try.pinned (OpenSpec.upto shaAllSpec)

/-- 'intagliolaw12.ShaPads', WHERE WHAT IT READS IS OF BULK AT MOST 1048576: true; the input reads as it did. -/
def shaPadsUptoRow : OpenClaim := { program := "ytgimohchocjgcaa", sum := "c2235391f4f0314264c97dd884c81ed0cb3fe0dff8c146f0e89465c52f6ade0e", func := "intaglio/intagliolaw12.ShaPads", spec := "shaPads", inPlace := ["math/bits.Add64"], apart := false, narrowed := true }
def ShaPadsUptoSaid : Prop := shaPadsUptoRow.holds Try.pinned (OpenSpec.upto shaPadsSpec)

/-- 'intagliolaw1.LimbRests', WHERE WHAT IT READS IS OF BULK AT MOST 1048576: true; the input reads as it did. -/
def limbRestsUptoRow : OpenClaim := { program := "ytgimohchocjgcaa", sum := "c2235391f4f0314264c97dd884c81ed0cb3fe0dff8c146f0e89465c52f6ade0e", func := "intaglio/intagliolaw1.LimbRests", spec := "limbRests", inPlace := ["math/bits.Sub64", "math/bits.Add64"], apart := false, narrowed := true }
def LimbRestsUptoSaid : Prop := limbRestsUptoRow.holds Try.pinned (OpenSpec.upto limbRestsSpec)

/-- 'intagliolaw1.LimbShifts', WHERE WHAT IT READS IS OF BULK AT MOST 1048576: true; the input reads as it did. -/
def limbShiftsUptoRow : OpenClaim := { program := "ytgimohchocjgcaa", sum := "c2235391f4f0314264c97dd884c81ed0cb3fe0dff8c146f0e89465c52f6ade0e", func := "intaglio/intagliolaw1.LimbShifts", spec := "limbShifts", inPlace := ["math/bits.Sub64", "math/bits.Add64"], apart := false, narrowed := true }
def LimbShiftsUptoSaid : Prop := limbShiftsUptoRow.holds Try.pinned (OpenSpec.upto limbShiftsSpec)

/-- 'intagliolaw1.LimbBytes', WHERE WHAT IT READS IS OF BULK AT MOST 1048576: true; the input reads as it did. -/
def limbBytesUptoRow : OpenClaim := { program := "ytgimohchocjgcaa", sum := "c2235391f4f0314264c97dd884c81ed0cb3fe0dff8c146f0e89465c52f6ade0e", func := "intaglio/intagliolaw1.LimbBytes", spec := "limbBytes", inPlace := ["math/bits.Sub64", "math/bits.Add64"], apart := false, narrowed := true }
def LimbBytesUptoSaid : Prop := limbBytesUptoRow.holds Try.pinned (OpenSpec.upto limbBytesSpec)

/-- 'intagliolaw1.LimbBack', WHERE WHAT IT READS IS OF BULK AT MOST 1048576: true; the input reads as it did. -/
def limbBackUptoRow : OpenClaim := { program := "ytgimohchocjgcaa", sum := "c2235391f4f0314264c97dd884c81ed0cb3fe0dff8c146f0e89465c52f6ade0e", func := "intaglio/intagliolaw1.LimbBack", spec := "limbBack", inPlace := ["math/bits.Sub64", "math/bits.Add64"], apart := false, narrowed := true }
def LimbBackUptoSaid : Prop := limbBackUptoRow.holds Try.pinned (OpenSpec.upto limbBackSpec)

/-- 'intagliolaw1.LimbAll', WHERE WHAT IT READS IS OF BULK AT MOST 1048576: true; the input reads as it did. -/
def limbAllUptoRow : OpenClaim := { program := "ytgimohchocjgcaa", sum := "c2235391f4f0314264c97dd884c81ed0cb3fe0dff8c146f0e89465c52f6ade0e", func := "intaglio/intagliolaw1.LimbAll", spec := "limbAll", inPlace := ["math/bits.Sub64", "math/bits.Add64"], apart := false, narrowed := true }
def LimbAllUptoSaid : Prop := limbAllUptoRow.holds Try.pinned (OpenSpec.upto limbAllSpec)

/-- 'intagliolaw1.LimbRing', WHERE WHAT IT READS IS OF BULK AT MOST 1048576: true; the input reads as it did. -/
def limbRingUptoRow : OpenClaim := { program := "ytgimohchocjgcaa", sum := "c2235391f4f0314264c97dd884c81ed0cb3fe0dff8c146f0e89465c52f6ade0e", func := "intaglio/intagliolaw1.LimbRing", spec := "limbRing", inPlace := ["math/bits.Sub64", "math/bits.Add64"], apart := false, narrowed := true }
def LimbRingUptoSaid : Prop := limbRingUptoRow.holds Try.pinned (OpenSpec.upto limbRingSpec)

/-- 'intagliolaw1.LimbLine', WHERE WHAT IT READS IS OF BULK AT MOST 1048576: true; the input reads as it did. -/
def limbLineUptoRow : OpenClaim := { program := "ytgimohchocjgcaa", sum := "c2235391f4f0314264c97dd884c81ed0cb3fe0dff8c146f0e89465c52f6ade0e", func := "intaglio/intagliolaw1.LimbLine", spec := "limbLine", inPlace := ["math/bits.Sub64", "math/bits.Add64"], apart := false, narrowed := true }
def LimbLineUptoSaid : Prop := limbLineUptoRow.holds Try.pinned (OpenSpec.upto limbLineSpec)

/-- 'intagliolaw2.FrPowers', WHERE WHAT IT READS IS OF BULK AT MOST 1048576: true; the input reads as it did. -/
def frPowersUptoRow : OpenClaim := { program := "ytgimohchocjgcaa", sum := "c2235391f4f0314264c97dd884c81ed0cb3fe0dff8c146f0e89465c52f6ade0e", func := "intaglio/intagliolaw2.FrPowers", spec := "frPowers", inPlace := ["math/bits.Add64", "math/bits.Sub64"], apart := false, narrowed := true }
def FrPowersUptoSaid : Prop := frPowersUptoRow.holds Try.pinned (OpenSpec.upto frPowersSpec)

/-- 'intagliolaw2.FrExponents', WHERE WHAT IT READS IS OF BULK AT MOST 1048576: true; the input reads as it did. -/
def frExponentsUptoRow : OpenClaim := { program := "ytgimohchocjgcaa", sum := "c2235391f4f0314264c97dd884c81ed0cb3fe0dff8c146f0e89465c52f6ade0e", func := "intaglio/intagliolaw2.FrExponents", spec := "frExponents", inPlace := ["math/bits.Add64", "math/bits.Sub64"], apart := false, narrowed := true }
def FrExponentsUptoSaid : Prop := frExponentsUptoRow.holds Try.pinned (OpenSpec.upto frExponentsSpec)

/-- 'intagliolaw2.FrRoots', WHERE WHAT IT READS IS OF BULK AT MOST 1048576: true; the input reads as it did. -/
def frRootsUptoRow : OpenClaim := { program := "ytgimohchocjgcaa", sum := "c2235391f4f0314264c97dd884c81ed0cb3fe0dff8c146f0e89465c52f6ade0e", func := "intaglio/intagliolaw2.FrRoots", spec := "frRoots", inPlace := ["math/bits.Add64", "math/bits.Sub64"], apart := false, narrowed := true }
def FrRootsUptoSaid : Prop := frRootsUptoRow.holds Try.pinned (OpenSpec.upto frRootsSpec)

/-- 'intagliolaw2.FrAll', WHERE WHAT IT READS IS OF BULK AT MOST 1048576: true; the input reads as it did. -/
def frAllUptoRow : OpenClaim := { program := "ytgimohchocjgcaa", sum := "c2235391f4f0314264c97dd884c81ed0cb3fe0dff8c146f0e89465c52f6ade0e", func := "intaglio/intagliolaw2.FrAll", spec := "frAll", inPlace := ["math/bits.Add64", "math/bits.Sub64"], apart := false, narrowed := true }
def FrAllUptoSaid : Prop := frAllUptoRow.holds Try.pinned (OpenSpec.upto frAllSpec)

/-- 'intagliolaw2.FrField', WHERE WHAT IT READS IS OF BULK AT MOST 1048576: true; the input reads as it did. -/
def frFieldUptoRow : OpenClaim := { program := "ytgimohchocjgcaa", sum := "c2235391f4f0314264c97dd884c81ed0cb3fe0dff8c146f0e89465c52f6ade0e", func := "intaglio/intagliolaw2.FrField", spec := "frField", inPlace := ["math/bits.Add64", "math/bits.Sub64"], apart := false, narrowed := true }
def FrFieldUptoSaid : Prop := frFieldUptoRow.holds Try.pinned (OpenSpec.upto frFieldSpec)

/-- 'intagliolaw26.PermAll', WHERE WHAT IT READS IS OF BULK AT MOST 1048576: true; the input reads as it did. -/
def permAllUptoRow : OpenClaim := { program := "ytgimohchocjgcaa", sum := "c2235391f4f0314264c97dd884c81ed0cb3fe0dff8c146f0e89465c52f6ade0e", func := "intaglio/intagliolaw26.PermAll", spec := "permAll", inPlace := ["math/bits.Add64", "math/bits.Sub64"], apart := false, narrowed := true }
def PermAllUptoSaid : Prop := permAllUptoRow.holds Try.pinned (OpenSpec.upto permAllSpec)

/-- 'intagliolaw26.PermChance', WHERE WHAT IT READS IS OF BULK AT MOST 1048576: true; the input reads as it did. -/
def permChanceUptoRow : OpenClaim := { program := "ytgimohchocjgcaa", sum := "c2235391f4f0314264c97dd884c81ed0cb3fe0dff8c146f0e89465c52f6ade0e", func := "intaglio/intagliolaw26.PermChance", spec := "permChance", inPlace := ["math/bits.Add64", "math/bits.Sub64"], apart := false, narrowed := true }
def PermChanceUptoSaid : Prop := permChanceUptoRow.holds Try.pinned (OpenSpec.upto permChanceSpec)

/-- 'intagliolaw26.PermCloses', WHERE WHAT IT READS IS OF BULK AT MOST 1048576: true; the input reads as it did. -/
def permClosesUptoRow : OpenClaim := { program := "ytgimohchocjgcaa", sum := "c2235391f4f0314264c97dd884c81ed0cb3fe0dff8c146f0e89465c52f6ade0e", func := "intaglio/intagliolaw26.PermCloses", spec := "permCloses", inPlace := ["math/bits.Add64", "math/bits.Sub64"], apart := false, narrowed := true }
def PermClosesUptoSaid : Prop := permClosesUptoRow.holds Try.pinned (OpenSpec.upto permClosesSpec)

/-- 'intagliolaw26.PermSwaps', WHERE WHAT IT READS IS OF BULK AT MOST 1048576: true; the input reads as it did. -/
def permSwapsUptoRow : OpenClaim := { program := "ytgimohchocjgcaa", sum := "c2235391f4f0314264c97dd884c81ed0cb3fe0dff8c146f0e89465c52f6ade0e", func := "intaglio/intagliolaw26.PermSwaps", spec := "permSwaps", inPlace := ["math/bits.Add64", "math/bits.Sub64"], apart := false, narrowed := true }
def PermSwapsUptoSaid : Prop := permSwapsUptoRow.holds Try.pinned (OpenSpec.upto permSwapsSpec)

/-- 'intagliolaw13.TalkSame', WHERE WHAT IT READS IS OF BULK AT MOST 1048576: true; the input reads as it did. -/
def talkSameUptoRow : OpenClaim := { program := "ytgimohchocjgcaa", sum := "c2235391f4f0314264c97dd884c81ed0cb3fe0dff8c146f0e89465c52f6ade0e", func := "intaglio/intagliolaw13.TalkSame", spec := "talkSame", inPlace := ["math/bits.Sub64"], apart := false, narrowed := true }
def TalkSameUptoSaid : Prop := talkSameUptoRow.holds Try.pinned (OpenSpec.upto talkSameSpec)

/-- 'intagliolaw20.GateValues', WHERE WHAT IT READS IS OF BULK AT MOST 1048576: true; the input reads as it did. -/
def gateValuesUptoRow : OpenClaim := { program := "ytgimohchocjgcaa", sum := "c2235391f4f0314264c97dd884c81ed0cb3fe0dff8c146f0e89465c52f6ade0e", func := "intaglio/intagliolaw20.GateValues", spec := "gateValues", inPlace := ["math/bits.Add64", "math/bits.Sub64"], apart := false, narrowed := true }
def GateValuesUptoSaid : Prop := gateValuesUptoRow.holds Try.pinned (OpenSpec.upto gateValuesSpec)

/-- 'intagliolaw20.GateHolds', WHERE WHAT IT READS IS OF BULK AT MOST 1048576: true; the input reads as it did. -/
def gateHoldsUptoRow : OpenClaim := { program := "ytgimohchocjgcaa", sum := "c2235391f4f0314264c97dd884c81ed0cb3fe0dff8c146f0e89465c52f6ade0e", func := "intaglio/intagliolaw20.GateHolds", spec := "gateHolds", inPlace := ["math/bits.Add64", "math/bits.Sub64"], apart := false, narrowed := true }
def GateHoldsUptoSaid : Prop := gateHoldsUptoRow.holds Try.pinned (OpenSpec.upto gateHoldsSpec)

/-- 'intagliolaw20.GateSums', WHERE WHAT IT READS IS OF BULK AT MOST 1048576: true; the input reads as it did. -/
def gateSumsUptoRow : OpenClaim := { program := "ytgimohchocjgcaa", sum := "c2235391f4f0314264c97dd884c81ed0cb3fe0dff8c146f0e89465c52f6ade0e", func := "intaglio/intagliolaw20.GateSums", spec := "gateSums", inPlace := ["math/bits.Add64", "math/bits.Sub64"], apart := false, narrowed := true }
def GateSumsUptoSaid : Prop := gateSumsUptoRow.holds Try.pinned (OpenSpec.upto gateSumsSpec)

/-- 'intagliolaw13.TalkAll', WHERE WHAT IT READS IS OF BULK AT MOST 1048576: true; the input reads as it did. -/
def talkAllUptoRow : OpenClaim := { program := "ytgimohchocjgcaa", sum := "c2235391f4f0314264c97dd884c81ed0cb3fe0dff8c146f0e89465c52f6ade0e", func := "intaglio/intagliolaw13.TalkAll", spec := "talkAll", inPlace := ["math/bits.Sub64", "math/bits.Add64"], apart := false, narrowed := true }
def TalkAllUptoSaid : Prop := talkAllUptoRow.holds Try.pinned (OpenSpec.upto talkAllSpec)

/-- 'intagliolaw21.BuildAll', WHERE WHAT IT READS IS OF BULK AT MOST 1048576: true; the input reads as it did. -/
def buildAllUptoRow : OpenClaim := { program := "ytgimohchocjgcaa", sum := "c2235391f4f0314264c97dd884c81ed0cb3fe0dff8c146f0e89465c52f6ade0e", func := "intaglio/intagliolaw21.BuildAll", spec := "buildAll", apart := false, narrowed := true }
def BuildAllUptoSaid : Prop := buildAllUptoRow.holds Try.pinned (OpenSpec.upto buildAllSpec)

/-- 'intagliolaw21.BuildMost', WHERE WHAT IT READS IS OF BULK AT MOST 1048576: true; the input reads as it did. -/
def buildMostUptoRow : OpenClaim := { program := "ytgimohchocjgcaa", sum := "c2235391f4f0314264c97dd884c81ed0cb3fe0dff8c146f0e89465c52f6ade0e", func := "intaglio/intagliolaw21.BuildMost", spec := "buildMost", apart := false, narrowed := true }
def BuildMostUptoSaid : Prop := buildMostUptoRow.holds Try.pinned (OpenSpec.upto buildMostSpec)

/-- 'intagliolaw21.BuildPublic', WHERE WHAT IT READS IS OF BULK AT MOST 1048576: true; the input reads as it did. -/
def buildPublicUptoRow : OpenClaim := { program := "ytgimohchocjgcaa", sum := "c2235391f4f0314264c97dd884c81ed0cb3fe0dff8c146f0e89465c52f6ade0e", func := "intaglio/intagliolaw21.BuildPublic", spec := "buildPublic", apart := false, narrowed := true }
def BuildPublicUptoSaid : Prop := buildPublicUptoRow.holds Try.pinned (OpenSpec.upto buildPublicSpec)

/-- 'intagliolaw2.FrBytes', WHERE WHAT IT READS IS OF BULK AT MOST 1048576: true; the input reads as it did. -/
def frBytesUptoRow : OpenClaim := { program := "ytgimohchocjgcaa", sum := "c2235391f4f0314264c97dd884c81ed0cb3fe0dff8c146f0e89465c52f6ade0e", func := "intaglio/intagliolaw2.FrBytes", spec := "frBytes", inPlace := ["math/bits.Add64", "math/bits.Sub64"], apart := false, narrowed := true }
def FrBytesUptoSaid : Prop := frBytesUptoRow.holds Try.pinned (OpenSpec.upto frBytesSpec)

/-- 'intagliolaw21.BuildSame', WHERE WHAT IT READS IS OF BULK AT MOST 1048576: true; the input reads as it did. -/
def buildSameUptoRow : OpenClaim := { program := "ytgimohchocjgcaa", sum := "c2235391f4f0314264c97dd884c81ed0cb3fe0dff8c146f0e89465c52f6ade0e", func := "intaglio/intagliolaw21.BuildSame", spec := "buildSame", inPlace := ["math/bits.Add64", "math/bits.Sub64"], apart := false, narrowed := true }
def BuildSameUptoSaid : Prop := buildSameUptoRow.holds Try.pinned (OpenSpec.upto buildSameSpec)

/-- 'intagliolaw22.WireAll', WHERE WHAT IT READS IS OF BULK AT MOST 1048576: true; the input reads as it did. -/
def wireAllUptoRow : OpenClaim := { program := "ytgimohchocjgcaa", sum := "c2235391f4f0314264c97dd884c81ed0cb3fe0dff8c146f0e89465c52f6ade0e", func := "intaglio/intagliolaw22.WireAll", spec := "wireAll", inPlace := ["math/bits.Add64", "math/bits.Sub64"], apart := false, narrowed := true }
def WireAllUptoSaid : Prop := wireAllUptoRow.holds Try.pinned (OpenSpec.upto wireAllSpec)

/-- 'intagliolaw22.WireMade', WHERE WHAT IT READS IS OF BULK AT MOST 1048576: true; the input reads as it did. -/
def wireMadeUptoRow : OpenClaim := { program := "ytgimohchocjgcaa", sum := "c2235391f4f0314264c97dd884c81ed0cb3fe0dff8c146f0e89465c52f6ade0e", func := "intaglio/intagliolaw22.WireMade", spec := "wireMade", inPlace := ["math/bits.Add64", "math/bits.Sub64"], apart := false, narrowed := true }
def WireMadeUptoSaid : Prop := wireMadeUptoRow.holds Try.pinned (OpenSpec.upto wireMadeSpec)

/-- 'intagliolaw22.WireNames', WHERE WHAT IT READS IS OF BULK AT MOST 1048576: true; the input reads as it did. -/
def wireNamesUptoRow : OpenClaim := { program := "ytgimohchocjgcaa", sum := "c2235391f4f0314264c97dd884c81ed0cb3fe0dff8c146f0e89465c52f6ade0e", func := "intaglio/intagliolaw22.WireNames", spec := "wireNames", inPlace := ["math/bits.Add64", "math/bits.Sub64"], apart := false, narrowed := true }
def WireNamesUptoSaid : Prop := wireNamesUptoRow.holds Try.pinned (OpenSpec.upto wireNamesSpec)

/-- 'intagliolaw22.WireRings', WHERE WHAT IT READS IS OF BULK AT MOST 1048576: true; the input reads as it did. -/
def wireRingsUptoRow : OpenClaim := { program := "ytgimohchocjgcaa", sum := "c2235391f4f0314264c97dd884c81ed0cb3fe0dff8c146f0e89465c52f6ade0e", func := "intaglio/intagliolaw22.WireRings", spec := "wireRings", inPlace := ["math/bits.Add64", "math/bits.Sub64"], apart := false, narrowed := true }
def WireRingsUptoSaid : Prop := wireRingsUptoRow.holds Try.pinned (OpenSpec.upto wireRingsSpec)

/-- 'intagliolaw22.WireMerges', WHERE WHAT IT READS IS OF BULK AT MOST 1048576: true; the input reads as it did. -/
def wireMergesUptoRow : OpenClaim := { program := "ytgimohchocjgcaa", sum := "c2235391f4f0314264c97dd884c81ed0cb3fe0dff8c146f0e89465c52f6ade0e", func := "intaglio/intagliolaw22.WireMerges", spec := "wireMerges", inPlace := ["math/bits.Add64", "math/bits.Sub64"], apart := false, narrowed := true }
def WireMergesUptoSaid : Prop := wireMergesUptoRow.holds Try.pinned (OpenSpec.upto wireMergesSpec)

/-- 'intagliolaw24.CircBack', WHERE WHAT IT READS IS OF BULK AT MOST 1048576: true; the input reads as it did. -/
def circBackUptoRow : OpenClaim := { program := "ytgimohchocjgcaa", sum := "c2235391f4f0314264c97dd884c81ed0cb3fe0dff8c146f0e89465c52f6ade0e", func := "intaglio/intagliolaw24.CircBack", spec := "circBack", inPlace := ["math/bits.Add64", "math/bits.Sub64"], apart := false, narrowed := true }
def CircBackUptoSaid : Prop := circBackUptoRow.holds Try.pinned (OpenSpec.upto circBackSpec)

/-- 'intagliolaw24.CircLong', WHERE WHAT IT READS IS OF BULK AT MOST 1048576: true; the input reads as it did. -/
def circLongUptoRow : OpenClaim := { program := "ytgimohchocjgcaa", sum := "c2235391f4f0314264c97dd884c81ed0cb3fe0dff8c146f0e89465c52f6ade0e", func := "intaglio/intagliolaw24.CircLong", spec := "circLong", inPlace := ["math/bits.Add64", "math/bits.Sub64"], apart := false, narrowed := true }
def CircLongUptoSaid : Prop := circLongUptoRow.holds Try.pinned (OpenSpec.upto circLongSpec)

/-- 'intagliolaw23.EvalAll', WHERE WHAT IT READS IS OF BULK AT MOST 1048576: true; the input reads as it did. -/
def evalAllUptoRow : OpenClaim := { program := "ytgimohchocjgcaa", sum := "c2235391f4f0314264c97dd884c81ed0cb3fe0dff8c146f0e89465c52f6ade0e", func := "intaglio/intagliolaw23.EvalAll", spec := "evalAll", inPlace := ["math/bits.Add64", "math/bits.Sub64"], apart := false, narrowed := true }
def EvalAllUptoSaid : Prop := evalAllUptoRow.holds Try.pinned (OpenSpec.upto evalAllSpec)

/-- 'intagliolaw23.EvalBuilt', WHERE WHAT IT READS IS OF BULK AT MOST 1048576: true; the input reads as it did. -/
def evalBuiltUptoRow : OpenClaim := { program := "ytgimohchocjgcaa", sum := "c2235391f4f0314264c97dd884c81ed0cb3fe0dff8c146f0e89465c52f6ade0e", func := "intaglio/intagliolaw23.EvalBuilt", spec := "evalBuilt", inPlace := ["math/bits.Add64", "math/bits.Sub64"], apart := false, narrowed := true }
def EvalBuiltUptoSaid : Prop := evalBuiltUptoRow.holds Try.pinned (OpenSpec.upto evalBuiltSpec)

/-- 'intagliolaw23.EvalFirst', WHERE WHAT IT READS IS OF BULK AT MOST 1048576: true; the input reads as it did. -/
def evalFirstUptoRow : OpenClaim := { program := "ytgimohchocjgcaa", sum := "c2235391f4f0314264c97dd884c81ed0cb3fe0dff8c146f0e89465c52f6ade0e", func := "intaglio/intagliolaw23.EvalFirst", spec := "evalFirst", inPlace := ["math/bits.Add64", "math/bits.Sub64"], apart := false, narrowed := true }
def EvalFirstUptoSaid : Prop := evalFirstUptoRow.holds Try.pinned (OpenSpec.upto evalFirstSpec)

end Rows
end Go.Proofs.Ytgimohchocjgcaa
