import Derived.Test.YtehjjpbpdfnnfaaGreatDoorM09
namespace Go.Proofs.YtehjjpbpdfnnfaaGreatDoor
open Go Go.AL Go.Tz Go.Proofs Go.ChangeShapes Go.WideShapes Go.ChangeAt Go.RowKit Go.Deep
noncomputable abbrev cP := Tryz.pinned.checked.prog
theorem own : ownKnob Tryz.prog.godebug = none := by kernel_rfl
theorem laidOut : laidOutB Tryz.prog = true := by kernel_rfl
theorem cj2 : laidOutB cP = true := by kernel_rfl
theorem cj3 : mapsRowed cP = true := by kernel_rfl
theorem cj7 : (Program.stops cP == []) = true := by kernel_rfl
theorem cj9 : (Program.stopKnobs cP == []) = true := by kernel_rfl
theorem cj20 : (OpenClaim.plainKeys Rows.stabChecksRow == Program.plainKeys cP) = true := by kernel_rfl
theorem cj22 : Program.stopsHeard cP = true := by kernel_rfl
theorem cj23 : Program.mayEnter cP = true := by kernel_rfl
theorem cj24 : (OpenClaim.lifted Rows.stabChecksRow == Program.liftsFinal cP) = true := by kernel_rfl
theorem cj25 : (Program.make cP == some (OpenClaim.make Rows.stabChecksRow)) = true := by kernel_rfl
theorem cjM : Program.mainIs cP = some (true, String.toList "8b097af312537285be51cb7f5f4f0726b8661743bb377639627160fb316d0ecd") := by kernel_rfl
theorem cjL : false = Program.looks cP [] := by kernel_rfl
end Go.Proofs.YtehjjpbpdfnnfaaGreatDoor
