/-
  NARROWER THAN 'FOR EVERY INPUT', by the rows' own cells (each row's printed sentence says how): StabVectors: laid · StabChecks: laid · StabGates: laid · StabMeasures: laid · StabSmall: laid · StabLooked: laid · StabEntropy: laid · StabExpected: laid · StabCanon: laid · StabOverlapped: laid · StabAmplitudes: laid · StabMeant: laid.
  DERIVED. THE GIVEN ROWS OF THIS SEAT. 12 by the template 'for every input the law returns true; each argument reads behind the call as it read before'; 0 by the template 'total and deterministic' (their statements: YtehjjpbpdfnnfaaGreatDoorTotals.lean).
  GIVEN WITH THE SEED: the statements are not yours to turn. If you find one false, say at which input.
  Laid BY PROGRAM, IN A SANDBOX (cutbox-rows.mjs): the forced cells as the released guide's own fill.sh prints them over the translation d5c4e80fc456fd07… (all of the seat's roots in one cut). By AI agents, Wed Nov 11 2026. No macro, syntax, notation, axiom, sorry.
-/
import Derived.Test.YtehjjpbpdfnnfaaGreatDoorChecked
import GoSem.Claim
import GoSem.ClaimJoined
import GoSem.ClaimMapViews
import Derived.JoinedTies
import Derived.KernelRfl
namespace Go.Proofs.YtehjjpbpdfnnfaaGreatDoor
/- THE CELL 'sum', in the pinned program and in every row, IS THE sha256 OF THE DUMP (.gsa) THAT YtehjjpbpdfnnfaaGreatDoorProg.lean LOADS. Nothing in Lean hashes anything: it is a label: what it is worth is what the hold of that sum in a sandbox is worth. -/
noncomputable def Tryz.pinned : Pinned := { name := "ytehjjpbpdfnnfaagreatdoor", sum := "d5c4e80fc456fd071c67335fcbc11f7b152c055f2a3b0e2467af4defb6742694", checked := Tryz.checked }
namespace Rows
def none {H : Type} : Left H := { results := [], args := [] }

/- WHAT THE LISTED PACKAGE-LEVEL VARIABLES READ AS WHEN THE CALL BEGINS. Each datum BY PROGRAM (the guide's laid-datum.mjs) off the statement by which the dump's own 'gosem.cut.vars' lays the variable. In a bare row this is a premise. The card (YtehjjpbpdfnnfaaGreatDoorCards.lean) ties it to the program's text. -/
def laid_math_bits_deBruijn32tab {H : Type} : DataW H := .agg [.lit (.int .u8 0), .lit (.int .u8 1), .lit (.int .u8 28), .lit (.int .u8 2), .lit (.int .u8 29), .lit (.int .u8 14), .lit (.int .u8 24), .lit (.int .u8 3), .lit (.int .u8 30), .lit (.int .u8 22), .lit (.int .u8 20), .lit (.int .u8 15), .lit (.int .u8 25), .lit (.int .u8 17), .lit (.int .u8 4), .lit (.int .u8 8), .lit (.int .u8 31), .lit (.int .u8 27), .lit (.int .u8 13), .lit (.int .u8 23), .lit (.int .u8 21), .lit (.int .u8 19), .lit (.int .u8 16), .lit (.int .u8 7), .lit (.int .u8 26), .lit (.int .u8 12), .lit (.int .u8 18), .lit (.int .u8 6), .lit (.int .u8 11), .lit (.int .u8 5), .lit (.int .u8 10), .lit (.int .u8 9)]
def laid_math_bits_deBruijn64tab {H : Type} : DataW H := .agg [.lit (.int .u8 0), .lit (.int .u8 1), .lit (.int .u8 56), .lit (.int .u8 2), .lit (.int .u8 57), .lit (.int .u8 49), .lit (.int .u8 28), .lit (.int .u8 3), .lit (.int .u8 61), .lit (.int .u8 58), .lit (.int .u8 42), .lit (.int .u8 50), .lit (.int .u8 38), .lit (.int .u8 29), .lit (.int .u8 17), .lit (.int .u8 4), .lit (.int .u8 62), .lit (.int .u8 47), .lit (.int .u8 59), .lit (.int .u8 36), .lit (.int .u8 45), .lit (.int .u8 43), .lit (.int .u8 51), .lit (.int .u8 22), .lit (.int .u8 53), .lit (.int .u8 39), .lit (.int .u8 33), .lit (.int .u8 30), .lit (.int .u8 24), .lit (.int .u8 18), .lit (.int .u8 12), .lit (.int .u8 5), .lit (.int .u8 63), .lit (.int .u8 55), .lit (.int .u8 48), .lit (.int .u8 27), .lit (.int .u8 60), .lit (.int .u8 41), .lit (.int .u8 37), .lit (.int .u8 16), .lit (.int .u8 46), .lit (.int .u8 35), .lit (.int .u8 44), .lit (.int .u8 21), .lit (.int .u8 52), .lit (.int .u8 32), .lit (.int .u8 23), .lit (.int .u8 11), .lit (.int .u8 54), .lit (.int .u8 26), .lit (.int .u8 40), .lit (.int .u8 15), .lit (.int .u8 34), .lit (.int .u8 20), .lit (.int .u8 31), .lit (.int .u8 10), .lit (.int .u8 25), .lit (.int .u8 14), .lit (.int .u8 19), .lit (.int .u8 9), .lit (.int .u8 13), .lit (.int .u8 8), .lit (.int .u8 7), .lit (.int .u8 6)]
def laid_spoondrift_spoondriftkit_Clifford {H : Type} : DataW H := .slice [.lit (.int .i64 1), .lit (.int .i64 2), .lit (.int .i64 3), .lit (.int .i64 4), .lit (.int .i64 5), .lit (.int .i64 6), .lit (.int .i64 9), .lit (.int .i64 10), .lit (.int .i64 11)] []

/-- 'spoondriftlaw14.StabVectors': WHATEVER THE INPUT: true; the input reads as it did. -/
def stabVectorsSpec : ChangeSpec := { name := "stabVectors", fn := fun _ => fun
  | [d1, d2] => { results := [.lit (.bool true)], args := [d1, d2] }
  | _ => none }
def stabVectorsRow : OpenClaim := { program := "ytehjjpbpdfnnfaagreatdoor", sum := "d5c4e80fc456fd071c67335fcbc11f7b152c055f2a3b0e2467af4defb6742694", func := "spoondrift/spoondriftlaw14.StabVectors", spec := "stabVectors", unfollowed := true, recurses := true, named := ["math/bits.deBruijn32tab", "math/bits.deBruijn64tab"], plainKeys := false, apart := false, laid := [("math/bits.deBruijn32tab", laid_math_bits_deBruijn32tab), ("math/bits.deBruijn64tab", laid_math_bits_deBruijn64tab)] }
def StabVectorsSaid : Prop := stabVectorsRow.holds Tryz.pinned (OpenSpec.ofChange stabVectorsSpec)

/-- ITS FALSE NEIGHBOUR: 'it returns false'. Refute it at one input. -/
def stabVectorsWrong : ChangeSpec := { name := "stabVectors", fn := fun _ => fun
  | [d1, d2] => { results := [.lit (.bool false)], args := [d1, d2] }
  | _ => none }
def StabVectorsWrongFalsely : Prop := stabVectorsRow.holds Tryz.pinned (OpenSpec.ofChange stabVectorsWrong)

/-- 'spoondriftlaw14.StabChecks': WHATEVER THE INPUT: true; the input reads as it did. -/
def stabChecksSpec : ChangeSpec := { name := "stabChecks", fn := fun _ => fun
  | [d1, d2, d3, d4] => { results := [.lit (.bool true)], args := [d1, d2, d3, d4] }
  | _ => none }
def stabChecksRow : OpenClaim := { program := "ytehjjpbpdfnnfaagreatdoor", sum := "d5c4e80fc456fd071c67335fcbc11f7b152c055f2a3b0e2467af4defb6742694", func := "spoondrift/spoondriftlaw14.StabChecks", spec := "stabChecks", unfollowed := true, recurses := true, named := ["math/bits.deBruijn32tab", "math/bits.deBruijn64tab"], plainKeys := false, apart := false, laid := [("math/bits.deBruijn32tab", laid_math_bits_deBruijn32tab), ("math/bits.deBruijn64tab", laid_math_bits_deBruijn64tab)] }
def StabChecksSaid : Prop := stabChecksRow.holds Tryz.pinned (OpenSpec.ofChange stabChecksSpec)

/-- ITS FALSE NEIGHBOUR: 'it returns false'. Refute it at one input. -/
def stabChecksWrong : ChangeSpec := { name := "stabChecks", fn := fun _ => fun
  | [d1, d2, d3, d4] => { results := [.lit (.bool false)], args := [d1, d2, d3, d4] }
  | _ => none }
def StabChecksWrongFalsely : Prop := stabChecksRow.holds Tryz.pinned (OpenSpec.ofChange stabChecksWrong)

/-- 'spoondriftlaw14.StabGates': WHATEVER THE INPUT: true; the input reads as it did. -/
def stabGatesSpec : ChangeSpec := { name := "stabGates", fn := fun _ => fun
  | [d1, d2, d3, d4] => { results := [.lit (.bool true)], args := [d1, d2, d3, d4] }
  | _ => none }
def stabGatesRow : OpenClaim := { program := "ytehjjpbpdfnnfaagreatdoor", sum := "d5c4e80fc456fd071c67335fcbc11f7b152c055f2a3b0e2467af4defb6742694", func := "spoondrift/spoondriftlaw14.StabGates", spec := "stabGates", unfollowed := true, recurses := true, named := ["math/bits.deBruijn32tab", "math/bits.deBruijn64tab"], plainKeys := false, apart := false, laid := [("math/bits.deBruijn32tab", laid_math_bits_deBruijn32tab), ("math/bits.deBruijn64tab", laid_math_bits_deBruijn64tab)] }
def StabGatesSaid : Prop := stabGatesRow.holds Tryz.pinned (OpenSpec.ofChange stabGatesSpec)

/-- ITS FALSE NEIGHBOUR: 'it returns false'. Refute it at one input. -/
def stabGatesWrong : ChangeSpec := { name := "stabGates", fn := fun _ => fun
  | [d1, d2, d3, d4] => { results := [.lit (.bool false)], args := [d1, d2, d3, d4] }
  | _ => none }
def StabGatesWrongFalsely : Prop := stabGatesRow.holds Tryz.pinned (OpenSpec.ofChange stabGatesWrong)

/-- 'spoondriftlaw14.StabMeasures': WHATEVER THE INPUT: true; the input reads as it did. -/
def stabMeasuresSpec : ChangeSpec := { name := "stabMeasures", fn := fun _ => fun
  | [d1, d2, d3, d4, d5] => { results := [.lit (.bool true)], args := [d1, d2, d3, d4, d5] }
  | _ => none }
def stabMeasuresRow : OpenClaim := { program := "ytehjjpbpdfnnfaagreatdoor", sum := "d5c4e80fc456fd071c67335fcbc11f7b152c055f2a3b0e2467af4defb6742694", func := "spoondrift/spoondriftlaw14.StabMeasures", spec := "stabMeasures", unfollowed := true, recurses := true, named := ["math/bits.deBruijn32tab", "math/bits.deBruijn64tab"], plainKeys := false, apart := false, laid := [("math/bits.deBruijn32tab", laid_math_bits_deBruijn32tab), ("math/bits.deBruijn64tab", laid_math_bits_deBruijn64tab)] }
def StabMeasuresSaid : Prop := stabMeasuresRow.holds Tryz.pinned (OpenSpec.ofChange stabMeasuresSpec)

/-- ITS FALSE NEIGHBOUR: 'it returns false'. Refute it at one input. -/
def stabMeasuresWrong : ChangeSpec := { name := "stabMeasures", fn := fun _ => fun
  | [d1, d2, d3, d4, d5] => { results := [.lit (.bool false)], args := [d1, d2, d3, d4, d5] }
  | _ => none }
def StabMeasuresWrongFalsely : Prop := stabMeasuresRow.holds Tryz.pinned (OpenSpec.ofChange stabMeasuresWrong)

/-- 'spoondriftlaw14.StabSmall': WHATEVER THE INPUT: true; the input reads as it did. -/
def stabSmallSpec : ChangeSpec := { name := "stabSmall", fn := fun _ => fun
  | [] => { results := [.lit (.bool true)], args := [] }
  | _ => none }
def stabSmallRow : OpenClaim := { program := "ytehjjpbpdfnnfaagreatdoor", sum := "d5c4e80fc456fd071c67335fcbc11f7b152c055f2a3b0e2467af4defb6742694", func := "spoondrift/spoondriftlaw14.StabSmall", spec := "stabSmall", unfollowed := true, recurses := true, named := ["math/bits.deBruijn32tab", "math/bits.deBruijn64tab"], plainKeys := false, apart := false, laid := [("math/bits.deBruijn32tab", laid_math_bits_deBruijn32tab), ("math/bits.deBruijn64tab", laid_math_bits_deBruijn64tab)] }
def StabSmallSaid : Prop := stabSmallRow.holds Tryz.pinned (OpenSpec.ofChange stabSmallSpec)

/-- ITS FALSE NEIGHBOUR: 'it returns false'. Refute it at one input. -/
def stabSmallWrong : ChangeSpec := { name := "stabSmall", fn := fun _ => fun
  | [] => { results := [.lit (.bool false)], args := [] }
  | _ => none }
def StabSmallWrongFalsely : Prop := stabSmallRow.holds Tryz.pinned (OpenSpec.ofChange stabSmallWrong)

/-- 'spoondriftlaw14.StabLooked': WHATEVER THE INPUT: true; the input reads as it did. -/
def stabLookedSpec : ChangeSpec := { name := "stabLooked", fn := fun _ => fun
  | [d1, d2, d3] => { results := [.lit (.bool true)], args := [d1, d2, d3] }
  | _ => none }
def stabLookedRow : OpenClaim := { program := "ytehjjpbpdfnnfaagreatdoor", sum := "d5c4e80fc456fd071c67335fcbc11f7b152c055f2a3b0e2467af4defb6742694", func := "spoondrift/spoondriftlaw14.StabLooked", spec := "stabLooked", inPlace := ["slices.overlaps[int]"], unfollowed := true, recurses := true, named := ["spoondrift/spoondriftkit.Clifford", "math/bits.deBruijn32tab", "math/bits.deBruijn64tab"], plainKeys := false, apart := false, laid := [("math/bits.deBruijn32tab", laid_math_bits_deBruijn32tab), ("math/bits.deBruijn64tab", laid_math_bits_deBruijn64tab), ("spoondrift/spoondriftkit.Clifford", laid_spoondrift_spoondriftkit_Clifford)] }
def StabLookedSaid : Prop := stabLookedRow.holds Tryz.pinned (OpenSpec.ofChange stabLookedSpec)

/-- ITS FALSE NEIGHBOUR: 'it returns false'. Refute it at one input. -/
def stabLookedWrong : ChangeSpec := { name := "stabLooked", fn := fun _ => fun
  | [d1, d2, d3] => { results := [.lit (.bool false)], args := [d1, d2, d3] }
  | _ => none }
def StabLookedWrongFalsely : Prop := stabLookedRow.holds Tryz.pinned (OpenSpec.ofChange stabLookedWrong)

/-- 'spoondriftlaw14.StabEntropy': WHATEVER THE INPUT: true; the input reads as it did. -/
def stabEntropySpec : ChangeSpec := { name := "stabEntropy", fn := fun _ => fun
  | [d1, d2] => { results := [.lit (.bool true)], args := [d1, d2] }
  | _ => none }
def stabEntropyRow : OpenClaim := { program := "ytehjjpbpdfnnfaagreatdoor", sum := "d5c4e80fc456fd071c67335fcbc11f7b152c055f2a3b0e2467af4defb6742694", func := "spoondrift/spoondriftlaw14.StabEntropy", spec := "stabEntropy", inPlace := ["slices.overlaps[int]"], unfollowed := true, recurses := true, named := ["spoondrift/spoondriftkit.Clifford", "math/bits.deBruijn32tab", "math/bits.deBruijn64tab"], plainKeys := false, apart := false, laid := [("math/bits.deBruijn32tab", laid_math_bits_deBruijn32tab), ("math/bits.deBruijn64tab", laid_math_bits_deBruijn64tab), ("spoondrift/spoondriftkit.Clifford", laid_spoondrift_spoondriftkit_Clifford)] }
def StabEntropySaid : Prop := stabEntropyRow.holds Tryz.pinned (OpenSpec.ofChange stabEntropySpec)

/-- ITS FALSE NEIGHBOUR: 'it returns false'. Refute it at one input. -/
def stabEntropyWrong : ChangeSpec := { name := "stabEntropy", fn := fun _ => fun
  | [d1, d2] => { results := [.lit (.bool false)], args := [d1, d2] }
  | _ => none }
def StabEntropyWrongFalsely : Prop := stabEntropyRow.holds Tryz.pinned (OpenSpec.ofChange stabEntropyWrong)

/-- 'spoondriftlaw14.StabExpected': WHATEVER THE INPUT: true; the input reads as it did. -/
def stabExpectedSpec : ChangeSpec := { name := "stabExpected", fn := fun _ => fun
  | [d1, d2] => { results := [.lit (.bool true)], args := [d1, d2] }
  | _ => none }
def stabExpectedRow : OpenClaim := { program := "ytehjjpbpdfnnfaagreatdoor", sum := "d5c4e80fc456fd071c67335fcbc11f7b152c055f2a3b0e2467af4defb6742694", func := "spoondrift/spoondriftlaw14.StabExpected", spec := "stabExpected", inPlace := ["slices.overlaps[int]"], unfollowed := true, recurses := true, named := ["spoondrift/spoondriftkit.Clifford", "math/bits.deBruijn32tab", "math/bits.deBruijn64tab"], plainKeys := false, apart := false, laid := [("math/bits.deBruijn32tab", laid_math_bits_deBruijn32tab), ("math/bits.deBruijn64tab", laid_math_bits_deBruijn64tab), ("spoondrift/spoondriftkit.Clifford", laid_spoondrift_spoondriftkit_Clifford)] }
def StabExpectedSaid : Prop := stabExpectedRow.holds Tryz.pinned (OpenSpec.ofChange stabExpectedSpec)

/-- ITS FALSE NEIGHBOUR: 'it returns false'. Refute it at one input. -/
def stabExpectedWrong : ChangeSpec := { name := "stabExpected", fn := fun _ => fun
  | [d1, d2] => { results := [.lit (.bool false)], args := [d1, d2] }
  | _ => none }
def StabExpectedWrongFalsely : Prop := stabExpectedRow.holds Tryz.pinned (OpenSpec.ofChange stabExpectedWrong)

/-- 'spoondriftlaw14.StabCanon': WHATEVER THE INPUT: true; the input reads as it did. -/
def stabCanonSpec : ChangeSpec := { name := "stabCanon", fn := fun _ => fun
  | [d1, d2] => { results := [.lit (.bool true)], args := [d1, d2] }
  | _ => none }
def stabCanonRow : OpenClaim := { program := "ytehjjpbpdfnnfaagreatdoor", sum := "d5c4e80fc456fd071c67335fcbc11f7b152c055f2a3b0e2467af4defb6742694", func := "spoondrift/spoondriftlaw14.StabCanon", spec := "stabCanon", inPlace := ["slices.overlaps[int]"], unfollowed := true, recurses := true, named := ["spoondrift/spoondriftkit.Clifford", "math/bits.deBruijn32tab", "math/bits.deBruijn64tab"], plainKeys := false, apart := false, laid := [("math/bits.deBruijn32tab", laid_math_bits_deBruijn32tab), ("math/bits.deBruijn64tab", laid_math_bits_deBruijn64tab), ("spoondrift/spoondriftkit.Clifford", laid_spoondrift_spoondriftkit_Clifford)] }
def StabCanonSaid : Prop := stabCanonRow.holds Tryz.pinned (OpenSpec.ofChange stabCanonSpec)

/-- ITS FALSE NEIGHBOUR: 'it returns false'. Refute it at one input. -/
def stabCanonWrong : ChangeSpec := { name := "stabCanon", fn := fun _ => fun
  | [d1, d2] => { results := [.lit (.bool false)], args := [d1, d2] }
  | _ => none }
def StabCanonWrongFalsely : Prop := stabCanonRow.holds Tryz.pinned (OpenSpec.ofChange stabCanonWrong)

/-- 'spoondriftlaw14.StabOverlapped': WHATEVER THE INPUT: true; the input reads as it did. -/
def stabOverlappedSpec : ChangeSpec := { name := "stabOverlapped", fn := fun _ => fun
  | [d1, d2, d3] => { results := [.lit (.bool true)], args := [d1, d2, d3] }
  | _ => none }
def stabOverlappedRow : OpenClaim := { program := "ytehjjpbpdfnnfaagreatdoor", sum := "d5c4e80fc456fd071c67335fcbc11f7b152c055f2a3b0e2467af4defb6742694", func := "spoondrift/spoondriftlaw14.StabOverlapped", spec := "stabOverlapped", inPlace := ["slices.overlaps[int]"], unfollowed := true, recurses := true, named := ["spoondrift/spoondriftkit.Clifford", "math/bits.deBruijn32tab", "math/bits.deBruijn64tab"], plainKeys := false, apart := false, laid := [("math/bits.deBruijn32tab", laid_math_bits_deBruijn32tab), ("math/bits.deBruijn64tab", laid_math_bits_deBruijn64tab), ("spoondrift/spoondriftkit.Clifford", laid_spoondrift_spoondriftkit_Clifford)] }
def StabOverlappedSaid : Prop := stabOverlappedRow.holds Tryz.pinned (OpenSpec.ofChange stabOverlappedSpec)

/-- ITS FALSE NEIGHBOUR: 'it returns false'. Refute it at one input. -/
def stabOverlappedWrong : ChangeSpec := { name := "stabOverlapped", fn := fun _ => fun
  | [d1, d2, d3] => { results := [.lit (.bool false)], args := [d1, d2, d3] }
  | _ => none }
def StabOverlappedWrongFalsely : Prop := stabOverlappedRow.holds Tryz.pinned (OpenSpec.ofChange stabOverlappedWrong)

/-- 'spoondriftlaw14.StabAmplitudes': WHATEVER THE INPUT: true; the input reads as it did. -/
def stabAmplitudesSpec : ChangeSpec := { name := "stabAmplitudes", fn := fun _ => fun
  | [d] => { results := [.lit (.bool true)], args := [d] }
  | _ => none }
def stabAmplitudesRow : OpenClaim := { program := "ytehjjpbpdfnnfaagreatdoor", sum := "d5c4e80fc456fd071c67335fcbc11f7b152c055f2a3b0e2467af4defb6742694", func := "spoondrift/spoondriftlaw14.StabAmplitudes", spec := "stabAmplitudes", inPlace := ["slices.overlaps[int]"], unfollowed := true, recurses := true, named := ["spoondrift/spoondriftkit.Clifford", "math/bits.deBruijn32tab", "math/bits.deBruijn64tab"], plainKeys := false, apart := false, laid := [("math/bits.deBruijn32tab", laid_math_bits_deBruijn32tab), ("math/bits.deBruijn64tab", laid_math_bits_deBruijn64tab), ("spoondrift/spoondriftkit.Clifford", laid_spoondrift_spoondriftkit_Clifford)] }
def StabAmplitudesSaid : Prop := stabAmplitudesRow.holds Tryz.pinned (OpenSpec.ofChange stabAmplitudesSpec)

/-- ITS FALSE NEIGHBOUR: 'it returns false'. Refute it at one input. -/
def stabAmplitudesWrong : ChangeSpec := { name := "stabAmplitudes", fn := fun _ => fun
  | [d] => { results := [.lit (.bool false)], args := [d] }
  | _ => none }
def StabAmplitudesWrongFalsely : Prop := stabAmplitudesRow.holds Tryz.pinned (OpenSpec.ofChange stabAmplitudesWrong)

/-- 'spoondriftlaw14.StabMeant': WHATEVER THE INPUT: true; the input reads as it did. -/
def stabMeantSpec : ChangeSpec := { name := "stabMeant", fn := fun _ => fun
  | [d1, d2] => { results := [.lit (.bool true)], args := [d1, d2] }
  | _ => none }
def stabMeantRow : OpenClaim := { program := "ytehjjpbpdfnnfaagreatdoor", sum := "d5c4e80fc456fd071c67335fcbc11f7b152c055f2a3b0e2467af4defb6742694", func := "spoondrift/spoondriftlaw14.StabMeant", spec := "stabMeant", inPlace := ["slices.overlaps[int]"], unfollowed := true, recurses := true, named := ["spoondrift/spoondriftkit.Clifford", "math/bits.deBruijn32tab", "math/bits.deBruijn64tab"], plainKeys := false, apart := false, laid := [("math/bits.deBruijn32tab", laid_math_bits_deBruijn32tab), ("math/bits.deBruijn64tab", laid_math_bits_deBruijn64tab), ("spoondrift/spoondriftkit.Clifford", laid_spoondrift_spoondriftkit_Clifford)] }
def StabMeantSaid : Prop := stabMeantRow.holds Tryz.pinned (OpenSpec.ofChange stabMeantSpec)

/-- ITS FALSE NEIGHBOUR: 'it returns false'. Refute it at one input. -/
def stabMeantWrong : ChangeSpec := { name := "stabMeant", fn := fun _ => fun
  | [d1, d2] => { results := [.lit (.bool false)], args := [d1, d2] }
  | _ => none }
def StabMeantWrongFalsely : Prop := stabMeantRow.holds Tryz.pinned (OpenSpec.ofChange stabMeantWrong)

/- THE SECOND FORM. 'bulk': how many values and letters a reading holds, each counted each time it is reached (what is shared counts as often as it is met; a slice's spare places count too). A statement '..UptoSaid' is the law's where the arguments, and the package variables that the reading takes, are together of bulk at most 1048576: NARROWER than '..Said'. Prove '..Said' where nothing that the law and all that it calls make is longer than what came in: it says more and counts as full. Else prove '..UptoSaid'. A law counts once. -/
mutual
def uptoBulk {H : Type} : DataW H → Nat
  | .lit (.string bytes) => bytes.length + 1
  | .lit _ => 1
  | .nil => 1
  | .ptr d => uptoBulk d + 1
  | .slice elems spare => uptoBulkAll elems + uptoBulkAll spare + 1
  | .agg parts => uptoBulkAll parts + 1
  | .iface _ d => uptoBulk d + 1
  | .map entries => uptoBulkEntries entries + 1
  | .held _ => 1
def uptoBulkAll {H : Type} : List (DataW H) → Nat
  | [] => 0
  | d :: r => uptoBulk d + uptoBulkAll r
def uptoBulkEntries {H : Type} : List (Lit × DataW H) → Nat
  | [] => 0
  | x :: r => uptoBulkEntry x + uptoBulkEntries r
def uptoBulkEntry {H : Type} : Lit × DataW H → Nat
  | (.string bytes, d) => bytes.length + uptoBulk d + 1
  | (_, d) => uptoBulk d + 1
 end
def uptoSmall : (H : Type) → List (DataW H) → Bool := fun _ ds => decide (uptoBulkAll ds ≤ 1048576)
def OpenSpec.upto (s : _root_.Go.ChangeSpec) : _root_.Go.OpenSpec := { _root_.Go.OpenSpec.ofChange s with cond := some uptoSmall }

/-- 'spoondriftlaw14.StabVectors', WHERE WHAT IT READS IS OF BULK AT MOST 1048576: true; the input reads as it did. -/
def stabVectorsUptoRow : OpenClaim := { program := "ytehjjpbpdfnnfaagreatdoor", sum := "d5c4e80fc456fd071c67335fcbc11f7b152c055f2a3b0e2467af4defb6742694", func := "spoondrift/spoondriftlaw14.StabVectors", spec := "stabVectors", unfollowed := true, recurses := true, named := ["math/bits.deBruijn32tab", "math/bits.deBruijn64tab"], plainKeys := false, apart := false, laid := [("math/bits.deBruijn32tab", laid_math_bits_deBruijn32tab), ("math/bits.deBruijn64tab", laid_math_bits_deBruijn64tab)], narrowed := true }
def StabVectorsUptoSaid : Prop := stabVectorsUptoRow.holds Tryz.pinned (OpenSpec.upto stabVectorsSpec)

/-- 'spoondriftlaw14.StabChecks', WHERE WHAT IT READS IS OF BULK AT MOST 1048576: true; the input reads as it did. -/
def stabChecksUptoRow : OpenClaim := { program := "ytehjjpbpdfnnfaagreatdoor", sum := "d5c4e80fc456fd071c67335fcbc11f7b152c055f2a3b0e2467af4defb6742694", func := "spoondrift/spoondriftlaw14.StabChecks", spec := "stabChecks", unfollowed := true, recurses := true, named := ["math/bits.deBruijn32tab", "math/bits.deBruijn64tab"], plainKeys := false, apart := false, laid := [("math/bits.deBruijn32tab", laid_math_bits_deBruijn32tab), ("math/bits.deBruijn64tab", laid_math_bits_deBruijn64tab)], narrowed := true }
def StabChecksUptoSaid : Prop := stabChecksUptoRow.holds Tryz.pinned (OpenSpec.upto stabChecksSpec)

/-- 'spoondriftlaw14.StabGates', WHERE WHAT IT READS IS OF BULK AT MOST 1048576: true; the input reads as it did. -/
def stabGatesUptoRow : OpenClaim := { program := "ytehjjpbpdfnnfaagreatdoor", sum := "d5c4e80fc456fd071c67335fcbc11f7b152c055f2a3b0e2467af4defb6742694", func := "spoondrift/spoondriftlaw14.StabGates", spec := "stabGates", unfollowed := true, recurses := true, named := ["math/bits.deBruijn32tab", "math/bits.deBruijn64tab"], plainKeys := false, apart := false, laid := [("math/bits.deBruijn32tab", laid_math_bits_deBruijn32tab), ("math/bits.deBruijn64tab", laid_math_bits_deBruijn64tab)], narrowed := true }
def StabGatesUptoSaid : Prop := stabGatesUptoRow.holds Tryz.pinned (OpenSpec.upto stabGatesSpec)

/-- 'spoondriftlaw14.StabMeasures', WHERE WHAT IT READS IS OF BULK AT MOST 1048576: true; the input reads as it did. -/
def stabMeasuresUptoRow : OpenClaim := { program := "ytehjjpbpdfnnfaagreatdoor", sum := "d5c4e80fc456fd071c67335fcbc11f7b152c055f2a3b0e2467af4defb6742694", func := "spoondrift/spoondriftlaw14.StabMeasures", spec := "stabMeasures", unfollowed := true, recurses := true, named := ["math/bits.deBruijn32tab", "math/bits.deBruijn64tab"], plainKeys := false, apart := false, laid := [("math/bits.deBruijn32tab", laid_math_bits_deBruijn32tab), ("math/bits.deBruijn64tab", laid_math_bits_deBruijn64tab)], narrowed := true }
def StabMeasuresUptoSaid : Prop := stabMeasuresUptoRow.holds Tryz.pinned (OpenSpec.upto stabMeasuresSpec)

/-- 'spoondriftlaw14.StabSmall', WHERE WHAT IT READS IS OF BULK AT MOST 1048576: true; the input reads as it did. -/
def stabSmallUptoRow : OpenClaim := { program := "ytehjjpbpdfnnfaagreatdoor", sum := "d5c4e80fc456fd071c67335fcbc11f7b152c055f2a3b0e2467af4defb6742694", func := "spoondrift/spoondriftlaw14.StabSmall", spec := "stabSmall", unfollowed := true, recurses := true, named := ["math/bits.deBruijn32tab", "math/bits.deBruijn64tab"], plainKeys := false, apart := false, laid := [("math/bits.deBruijn32tab", laid_math_bits_deBruijn32tab), ("math/bits.deBruijn64tab", laid_math_bits_deBruijn64tab)], narrowed := true }
def StabSmallUptoSaid : Prop := stabSmallUptoRow.holds Tryz.pinned (OpenSpec.upto stabSmallSpec)

/-- 'spoondriftlaw14.StabLooked', WHERE WHAT IT READS IS OF BULK AT MOST 1048576: true; the input reads as it did. -/
def stabLookedUptoRow : OpenClaim := { program := "ytehjjpbpdfnnfaagreatdoor", sum := "d5c4e80fc456fd071c67335fcbc11f7b152c055f2a3b0e2467af4defb6742694", func := "spoondrift/spoondriftlaw14.StabLooked", spec := "stabLooked", inPlace := ["slices.overlaps[int]"], unfollowed := true, recurses := true, named := ["spoondrift/spoondriftkit.Clifford", "math/bits.deBruijn32tab", "math/bits.deBruijn64tab"], plainKeys := false, apart := false, laid := [("math/bits.deBruijn32tab", laid_math_bits_deBruijn32tab), ("math/bits.deBruijn64tab", laid_math_bits_deBruijn64tab), ("spoondrift/spoondriftkit.Clifford", laid_spoondrift_spoondriftkit_Clifford)], narrowed := true }
def StabLookedUptoSaid : Prop := stabLookedUptoRow.holds Tryz.pinned (OpenSpec.upto stabLookedSpec)

/-- 'spoondriftlaw14.StabEntropy', WHERE WHAT IT READS IS OF BULK AT MOST 1048576: true; the input reads as it did. -/
def stabEntropyUptoRow : OpenClaim := { program := "ytehjjpbpdfnnfaagreatdoor", sum := "d5c4e80fc456fd071c67335fcbc11f7b152c055f2a3b0e2467af4defb6742694", func := "spoondrift/spoondriftlaw14.StabEntropy", spec := "stabEntropy", inPlace := ["slices.overlaps[int]"], unfollowed := true, recurses := true, named := ["spoondrift/spoondriftkit.Clifford", "math/bits.deBruijn32tab", "math/bits.deBruijn64tab"], plainKeys := false, apart := false, laid := [("math/bits.deBruijn32tab", laid_math_bits_deBruijn32tab), ("math/bits.deBruijn64tab", laid_math_bits_deBruijn64tab), ("spoondrift/spoondriftkit.Clifford", laid_spoondrift_spoondriftkit_Clifford)], narrowed := true }
def StabEntropyUptoSaid : Prop := stabEntropyUptoRow.holds Tryz.pinned (OpenSpec.upto stabEntropySpec)

/-- 'spoondriftlaw14.StabExpected', WHERE WHAT IT READS IS OF BULK AT MOST 1048576: true; the input reads as it did. -/
def stabExpectedUptoRow : OpenClaim := { program := "ytehjjpbpdfnnfaagreatdoor", sum := "d5c4e80fc456fd071c67335fcbc11f7b152c055f2a3b0e2467af4defb6742694", func := "spoondrift/spoondriftlaw14.StabExpected", spec := "stabExpected", inPlace := ["slices.overlaps[int]"], unfollowed := true, recurses := true, named := ["spoondrift/spoondriftkit.Clifford", "math/bits.deBruijn32tab", "math/bits.deBruijn64tab"], plainKeys := false, apart := false, laid := [("math/bits.deBruijn32tab", laid_math_bits_deBruijn32tab), ("math/bits.deBruijn64tab", laid_math_bits_deBruijn64tab), ("spoondrift/spoondriftkit.Clifford", laid_spoondrift_spoondriftkit_Clifford)], narrowed := true }
def StabExpectedUptoSaid : Prop := stabExpectedUptoRow.holds Tryz.pinned (OpenSpec.upto stabExpectedSpec)

/-- 'spoondriftlaw14.StabCanon', WHERE WHAT IT READS IS OF BULK AT MOST 1048576: true; the input reads as it did. -/
def stabCanonUptoRow : OpenClaim := { program := "ytehjjpbpdfnnfaagreatdoor", sum := "d5c4e80fc456fd071c67335fcbc11f7b152c055f2a3b0e2467af4defb6742694", func := "spoondrift/spoondriftlaw14.StabCanon", spec := "stabCanon", inPlace := ["slices.overlaps[int]"], unfollowed := true, recurses := true, named := ["spoondrift/spoondriftkit.Clifford", "math/bits.deBruijn32tab", "math/bits.deBruijn64tab"], plainKeys := false, apart := false, laid := [("math/bits.deBruijn32tab", laid_math_bits_deBruijn32tab), ("math/bits.deBruijn64tab", laid_math_bits_deBruijn64tab), ("spoondrift/spoondriftkit.Clifford", laid_spoondrift_spoondriftkit_Clifford)], narrowed := true }
def StabCanonUptoSaid : Prop := stabCanonUptoRow.holds Tryz.pinned (OpenSpec.upto stabCanonSpec)

/-- 'spoondriftlaw14.StabOverlapped', WHERE WHAT IT READS IS OF BULK AT MOST 1048576: true; the input reads as it did. -/
def stabOverlappedUptoRow : OpenClaim := { program := "ytehjjpbpdfnnfaagreatdoor", sum := "d5c4e80fc456fd071c67335fcbc11f7b152c055f2a3b0e2467af4defb6742694", func := "spoondrift/spoondriftlaw14.StabOverlapped", spec := "stabOverlapped", inPlace := ["slices.overlaps[int]"], unfollowed := true, recurses := true, named := ["spoondrift/spoondriftkit.Clifford", "math/bits.deBruijn32tab", "math/bits.deBruijn64tab"], plainKeys := false, apart := false, laid := [("math/bits.deBruijn32tab", laid_math_bits_deBruijn32tab), ("math/bits.deBruijn64tab", laid_math_bits_deBruijn64tab), ("spoondrift/spoondriftkit.Clifford", laid_spoondrift_spoondriftkit_Clifford)], narrowed := true }
def StabOverlappedUptoSaid : Prop := stabOverlappedUptoRow.holds Tryz.pinned (OpenSpec.upto stabOverlappedSpec)

/-- 'spoondriftlaw14.StabAmplitudes', WHERE WHAT IT READS IS OF BULK AT MOST 1048576: true; the input reads as it did. -/
def stabAmplitudesUptoRow : OpenClaim := { program := "ytehjjpbpdfnnfaagreatdoor", sum := "d5c4e80fc456fd071c67335fcbc11f7b152c055f2a3b0e2467af4defb6742694", func := "spoondrift/spoondriftlaw14.StabAmplitudes", spec := "stabAmplitudes", inPlace := ["slices.overlaps[int]"], unfollowed := true, recurses := true, named := ["spoondrift/spoondriftkit.Clifford", "math/bits.deBruijn32tab", "math/bits.deBruijn64tab"], plainKeys := false, apart := false, laid := [("math/bits.deBruijn32tab", laid_math_bits_deBruijn32tab), ("math/bits.deBruijn64tab", laid_math_bits_deBruijn64tab), ("spoondrift/spoondriftkit.Clifford", laid_spoondrift_spoondriftkit_Clifford)], narrowed := true }
def StabAmplitudesUptoSaid : Prop := stabAmplitudesUptoRow.holds Tryz.pinned (OpenSpec.upto stabAmplitudesSpec)

/-- 'spoondriftlaw14.StabMeant', WHERE WHAT IT READS IS OF BULK AT MOST 1048576: true; the input reads as it did. -/
def stabMeantUptoRow : OpenClaim := { program := "ytehjjpbpdfnnfaagreatdoor", sum := "d5c4e80fc456fd071c67335fcbc11f7b152c055f2a3b0e2467af4defb6742694", func := "spoondrift/spoondriftlaw14.StabMeant", spec := "stabMeant", inPlace := ["slices.overlaps[int]"], unfollowed := true, recurses := true, named := ["spoondrift/spoondriftkit.Clifford", "math/bits.deBruijn32tab", "math/bits.deBruijn64tab"], plainKeys := false, apart := false, laid := [("math/bits.deBruijn32tab", laid_math_bits_deBruijn32tab), ("math/bits.deBruijn64tab", laid_math_bits_deBruijn64tab), ("spoondrift/spoondriftkit.Clifford", laid_spoondrift_spoondriftkit_Clifford)], narrowed := true }
def StabMeantUptoSaid : Prop := stabMeantUptoRow.holds Tryz.pinned (OpenSpec.upto stabMeantSpec)

end Rows
end Go.Proofs.YtehjjpbpdfnnfaaGreatDoor
