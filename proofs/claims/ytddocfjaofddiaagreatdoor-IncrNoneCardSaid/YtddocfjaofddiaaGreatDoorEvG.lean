/- Proved: closed facts of the program, which the rows share (the types' layout, piece by piece); no condition. -/
import Derived.Test.YtddocfjaofddiaaGreatDoorCards
import Derived.JoinedCond
import Derived.KernelRfl
namespace Go.Proofs.YtddocfjaofddiaaGreatDoor.Facts
open Go
set_option maxRecDepth 100000
theorem tsz : Tryz.prog.types.size = 774 := by kernel_rfl
theorem all_add {p : Nat → Bool} {a k m : Nat} (h1 : (List.range' a k).all p = true) (h2 : (List.range' (a + k) m).all p = true) : (List.range' a (k + m)).all p = true := by
  rw [← List.range'_append_1, List.all_append, h1, h2]; rfl
theorem q0 : (List.range' 0 40).all (rowFine Tryz.prog) = true := by kernel_rfl
theorem q40 : (List.range' 40 40).all (rowFine Tryz.prog) = true := by kernel_rfl
theorem q80 : (List.range' 80 40).all (rowFine Tryz.prog) = true := by kernel_rfl
theorem q120 : (List.range' 120 40).all (rowFine Tryz.prog) = true := by kernel_rfl
theorem q160 : (List.range' 160 40).all (rowFine Tryz.prog) = true := by kernel_rfl
theorem q200 : (List.range' 200 40).all (rowFine Tryz.prog) = true := by kernel_rfl
theorem q240 : (List.range' 240 40).all (rowFine Tryz.prog) = true := by kernel_rfl
theorem q280 : (List.range' 280 40).all (rowFine Tryz.prog) = true := by kernel_rfl
theorem q320 : (List.range' 320 40).all (rowFine Tryz.prog) = true := by kernel_rfl
theorem q360 : (List.range' 360 40).all (rowFine Tryz.prog) = true := by kernel_rfl
theorem q400 : (List.range' 400 40).all (rowFine Tryz.prog) = true := by kernel_rfl
theorem q440 : (List.range' 440 40).all (rowFine Tryz.prog) = true := by kernel_rfl
theorem q480 : (List.range' 480 40).all (rowFine Tryz.prog) = true := by kernel_rfl
theorem q520 : (List.range' 520 40).all (rowFine Tryz.prog) = true := by kernel_rfl
theorem q560 : (List.range' 560 40).all (rowFine Tryz.prog) = true := by kernel_rfl
theorem q600 : (List.range' 600 40).all (rowFine Tryz.prog) = true := by kernel_rfl
theorem q640 : (List.range' 640 40).all (rowFine Tryz.prog) = true := by kernel_rfl
theorem q680 : (List.range' 680 40).all (rowFine Tryz.prog) = true := by kernel_rfl
theorem q720 : (List.range' 720 40).all (rowFine Tryz.prog) = true := by kernel_rfl
theorem q760 : (List.range' 760 14).all (rowFine Tryz.prog) = true := by kernel_rfl
theorem s720 : (List.range' 720 54).all (rowFine Tryz.prog) = true := all_add (a := 720) (k := 40) (m := 14) q720 q760
theorem s680 : (List.range' 680 94).all (rowFine Tryz.prog) = true := all_add (a := 680) (k := 40) (m := 54) q680 s720
theorem s640 : (List.range' 640 134).all (rowFine Tryz.prog) = true := all_add (a := 640) (k := 40) (m := 94) q640 s680
theorem s600 : (List.range' 600 174).all (rowFine Tryz.prog) = true := all_add (a := 600) (k := 40) (m := 134) q600 s640
theorem s560 : (List.range' 560 214).all (rowFine Tryz.prog) = true := all_add (a := 560) (k := 40) (m := 174) q560 s600
theorem s520 : (List.range' 520 254).all (rowFine Tryz.prog) = true := all_add (a := 520) (k := 40) (m := 214) q520 s560
theorem s480 : (List.range' 480 294).all (rowFine Tryz.prog) = true := all_add (a := 480) (k := 40) (m := 254) q480 s520
theorem s440 : (List.range' 440 334).all (rowFine Tryz.prog) = true := all_add (a := 440) (k := 40) (m := 294) q440 s480
theorem s400 : (List.range' 400 374).all (rowFine Tryz.prog) = true := all_add (a := 400) (k := 40) (m := 334) q400 s440
theorem s360 : (List.range' 360 414).all (rowFine Tryz.prog) = true := all_add (a := 360) (k := 40) (m := 374) q360 s400
theorem s320 : (List.range' 320 454).all (rowFine Tryz.prog) = true := all_add (a := 320) (k := 40) (m := 414) q320 s360
theorem s280 : (List.range' 280 494).all (rowFine Tryz.prog) = true := all_add (a := 280) (k := 40) (m := 454) q280 s320
theorem s240 : (List.range' 240 534).all (rowFine Tryz.prog) = true := all_add (a := 240) (k := 40) (m := 494) q240 s280
theorem s200 : (List.range' 200 574).all (rowFine Tryz.prog) = true := all_add (a := 200) (k := 40) (m := 534) q200 s240
theorem s160 : (List.range' 160 614).all (rowFine Tryz.prog) = true := all_add (a := 160) (k := 40) (m := 574) q160 s200
theorem s120 : (List.range' 120 654).all (rowFine Tryz.prog) = true := all_add (a := 120) (k := 40) (m := 614) q120 s160
theorem s80 : (List.range' 80 694).all (rowFine Tryz.prog) = true := all_add (a := 80) (k := 40) (m := 654) q80 s120
theorem s40 : (List.range' 40 734).all (rowFine Tryz.prog) = true := all_add (a := 40) (k := 40) (m := 694) q40 s80
theorem s0 : (List.range' 0 774).all (rowFine Tryz.prog) = true := all_add (a := 0) (k := 40) (m := 734) q0 s40
theorem types : (List.range' 0 774).all (rowFine Tryz.prog) = true := s0
theorem gl : Tryz.prog.globals.all (fun g => decide (g.type < Tryz.prog.types.size)) = true := by kernel_rfl
theorem fu : Tryz.prog.funcs.all (fun f => f.params.all fun t => decide (t < Tryz.prog.types.size)) = true := by kernel_rfl
theorem fLaid : laidOutB Tryz.prog = true := by
  unfold laidOutB
  rw [gl, fu, tsz, List.range_eq_range', types]; rfl
theorem fMaps : mapsRowed Tryz.prog = true := by kernel_rfl
theorem fHeard : Tryz.prog.stopsHeard = true := by kernel_rfl
end Go.Proofs.YtddocfjaofddiaaGreatDoor.Facts
