/- Proved: closed facts of the row of UndoNone (which functions its call can come to, and what the row says of them); no condition. -/
import Derived.Test.YtocjmknmilihgaaGreatDoorCards
import Derived.Test.YtocjmknmilihgaaGreatDoorEvD
import Derived.JoinedCond
import Derived.KernelRfl
namespace Go.Proofs.YtocjmknmilihgaaGreatDoor.undoNone
open Go
set_option maxRecDepth 100000
theorem fClosure : Tryz.prog.closure 4 = [4, 5, 14, 50, 7, 24, 28, 58, 59, 94, 131, 61, 96, 60, 95, 132, 15, 12, 40, 56, 41, 81, 42, 86, 87, 43, 44, 45, 46, 33, 8, 29, 62, 97, 25, 98, 133, 167, 99, 134, 135, 136, 168, 130, 166, 192, 193, 194, 209, 101, 34, 80, 92, 122, 161, 180, 123, 100, 137, 169, 195, 196, 210, 138, 102, 112, 26, 57, 93, 139, 129, 165, 146, 140, 82, 124, 170, 198, 197, 83, 125, 141, 171, 172, 199, 211, 63, 103, 104, 142, 173, 105, 143, 174, 106, 144, 175, 107, 145, 176, 108, 109, 147, 64, 110, 111, 65, 66, 35, 67, 113, 148, 149, 68, 114, 69, 115, 116, 150, 151, 177, 200, 70, 117, 152, 153, 178, 201, 71, 118, 154, 27, 37, 119, 155, 156, 179, 202, 72, 120, 157, 158, 159, 73, 74, 75, 121, 160, 51, 16, 52, 17, 18, 19, 10, 36, 38, 85, 128, 84, 126, 162, 127, 164, 190, 191, 163, 181, 187, 208, 182, 203, 183, 204, 205, 184, 206, 207, 212, 185, 186, 188, 189, 39, 9, 30, 31, 76, 32, 77, 78, 79, 20, 21, 22, 23, 53, 47, 88, 89, 90, 91, 54, 55] := by rw [Ev.closure_fast]; kernel_rfl
theorem fInPlace : Tryz.prog.inPlace 4 = Rows.undoNoneRow.inPlace := by unfold Program.inPlace; rw [fClosure]; kernel_rfl
theorem fUnfollowed : Tryz.prog.unfollowed 4 = true := by unfold Program.unfollowed; rw [fClosure]; kernel_rfl
theorem fRecurses : Tryz.prog.recurses 4 = true := by unfold Program.recurses; rw [fUnfollowed]; rfl
theorem fNamed : Tryz.prog.varsNamed 4 = Rows.undoNoneRow.named := by unfold Program.varsNamed; rw [fClosure]; kernel_rfl
theorem fLaid : laidOutB Tryz.prog = true := by kernel_rfl
theorem fMaps : mapsRowed Tryz.prog = true := by kernel_rfl
theorem fKeys : Tryz.prog.plainKeys = Rows.undoNoneRow.plainKeys := by kernel_rfl
theorem fLifts : Tryz.prog.liftsFinal = Rows.undoNoneRow.lifted := by kernel_rfl
theorem fMake : Tryz.prog.make = some Rows.undoNoneRow.make := by kernel_rfl
theorem fHeard : Tryz.prog.stopsHeard = true := by kernel_rfl
theorem facts : joinedFacts Tryz.prog 4 Tryz.f4 (OpenSpec.ofChange Rows.undoNoneSpec).bare Rows.undoNoneRow = true := by unfold joinedFacts; rw [fLaid, fMaps, fInPlace, fUnfollowed, fRecurses, fNamed, fKeys, fHeard, fLifts, fMake]; kernel_rfl
end Go.Proofs.YtocjmknmilihgaaGreatDoor.undoNone
