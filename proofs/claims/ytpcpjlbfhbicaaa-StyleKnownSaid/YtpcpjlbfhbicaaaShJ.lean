/- quirelaw03.awake over this program: its contract. No condition. -/
import Derived.Test.YtpcpjlbfhbicaaaShI
set_option linter.unusedVariables false
set_option linter.unusedSimpArgs false
namespace Go.Proofs.Ytpcpjlbfhbicaaa.Sh
open Go Go.RowKit Go.Proofs.YtpcpjlbfhbicaaaW.PrintWords Go.Proofs.YtpcpjlbfhbicaaaW.PrintLast Go.Proofs.YtpcpjlbfhbicaaaW.PrintMore Go.Proofs.Ytpcpjlbfhbicaaa.PStyleProps
open Go.Proofs.Ytpcpjlbfhbicaaa.PStyleNearest (S37 k37 z37 rd_T37 at_T37 k37_open k37_openM k37_mk k37_mkM info37)
def fb : Int → Int := withF (withF base la) lb
theorem makes_b : makesF L2 4 ⟨#[98]⟩ = some fb := rfl
theorem fits_L2 : Fits L2 := by
  intro s hs
  rcases List.mem_cons.1 hs with rfl | hs
  · exact allFit_iff.1 (by decide +kernel)
  · rcases List.mem_cons.1 hs with rfl | hs
    · exact allFit_iff.1 (by decide +kernel)
    · cases hs
theorem res_b (gs gm : Nat) (v : Value) (own : List S37) (w : World) (hs : Sheet w gs gm L2) (hv : Sl w v own) (he : setE own = 0) :
    Calls Try.prog 24 #[.pointer (some ⟨gs, 0, none⟩), .string ⟨#[98]⟩, v] w fun x w' => x = .returned (.tuple #[.agg (row (withF fb own)), .int .i64 0]) ∧ Below w.heap.size w w' := by
  obtain ⟨ks, hks⟩ := settings_total own
  rw [he] at hks
  exact resolve_calls gs gm L2 ⟨#[98]⟩ v own w hs hv ks 4 0 fb fits_L2 hks (fun _ => (setE_zero he).1) makes_b
set_option maxHeartbeats 4000000 in
set_option maxRecDepth 100000 in
theorem awake_calls (w : World) : Calls Try.prog 21 #[] w fun e w' => e = .returned (.bool true) ∧ Below w.heap.size w w' := by
  have hu43 := Try.underlying43
  have hu23 := Try.underlying23
  have HR1 : Aside0 (∀ gs gm w' A c, Sheet w' gs gm L2 → Sl w' (.slice A 1 c) [⟨1, 20⟩] → Calls Try.prog 24 #[.pointer (some ⟨gs, 0, none⟩), .string ⟨#[98]⟩, .slice A 1 c] w' fun x w'' => x = .returned (.tuple #[.agg (row (withF fb [⟨1, 20⟩])), .int .i64 0]) ∧ Below w'.heap.size w' w'') := ⟨fun gs gm w' A c hs hv => res_b gs gm _ _ w' hs hv (by decide +kernel)⟩
  have HR2 : Aside0 (∀ gs gm w', Sheet w' gs gm L2 → Calls Try.prog 24 #[.pointer (some ⟨gs, 0, none⟩), .string ⟨#[98]⟩, .slice none 0 0] w' fun x w'' => x = .returned (.tuple #[.agg (row (withF fb [])), .int .i64 0]) ∧ Below w'.heap.size w' w'') := ⟨fun gs gm w' hs => res_b gs gm _ [] w' hs (Sl.nil w') (by decide +kernel)⟩
  have Z1 : Aside0 ((row (withF fb [⟨1, 20⟩])).size = 17) := ⟨rfl⟩
  have O1 : Aside0 ((row (withF fb [⟨1, 20⟩])).all (·.oneCell') = true) := ⟨row_all _⟩
  have V1 : Aside0 ((row (withF fb [⟨1, 20⟩]))[0]? = some (.int .i64 20)) := ⟨rfl⟩
  have V2 : Aside0 ((row (withF fb [⟨1, 20⟩]))[4]? = some (.int .i64 5)) := ⟨rfl⟩
  have Z2 : Aside0 ((row (withF fb [])).size = 17) := ⟨rfl⟩
  have O2 : Aside0 ((row (withF fb [])).all (·.oneCell') = true) := ⟨row_all _⟩
  have V3 : Aside0 ((row (withF fb []))[0]? = some (.int .i64 14)) := ⟨rfl⟩
  have V4 : Aside0 ((row (withF fb []))[1]? = some (.int .i64 12)) := ⟨rfl⟩
  generalize row (withF fb [⟨1, 20⟩]) = R1 at HR1 Z1 O1 V1 V2
  generalize row (withF fb []) = R2 at HR2 Z2 O2 V3 V4
  go_enter Try.func21, Try.ntmps21
  go_wp2_with (first | (go_at_call 28; refine (two_calls _).mono ?_; rintro e w2 ⟨gs, gm, rfl, hs, hb⟩; have HS := Aside0.mk hs; have HB := Aside0.mk hb; clear hs hb) | (go_at_call 31; refine (set_calls 1 20 _).mono ?_; rintro e w4 ⟨A, c, rfl, hr, hb⟩; have HSl := Aside0.mk (sl_of_R hr); have HS4 := Aside0.mk (HS.out.below hb); have HB4 := Aside0.mk (below_step HB.out hb); clear HS HB hr hb) | (go_at_call 24; refine (HR1.out gs gm _ A c HS4.out HSl.out).mono ?_; rintro e w5 ⟨rfl, hb⟩; have HS5 := Aside0.mk (HS4.out.below hb); have HB5 := Aside0.mk (below_step HB4.out hb); clear HS4 HB4 HSl hb) | ((with_reducible refine gate_dst (N := 3) rfl ?_); refine box_event ?hg (N := 3) ?hd (cs := #[.int .i64 0, .int .i64 0, .int .i64 0, .int .i64 0, .int .i64 0, .int .i64 0, .int .i64 0, .int .i64 0, .int .i64 0, .int .i64 0, .int .i64 0, .int .i64 0, .int .i64 0, .int .i64 0, .int .i64 0, .int .i64 0, .int .i64 0]) (t := 23) ?hr ?_; (case hd => rfl); (case hg => rfl); (case hr => first | (go_simp; done) | (go_simp; rfl)); intro g3 hg w6 hbox hb; have HB6 := Aside0.mk (below_step HB5.out hb); have BK3 := Aside0.mk hbox; have HBx := Aside0.mk hb; have GX : Aside0 (w5.heap.size ≤ g3) := ⟨by rw [hg]; exact Nat.le_refl _⟩; have GE3 : Aside0 (w.heap.size ≤ g3) := ⟨by rw [hg]; exact below_size HB5.out⟩; clear HB5; clear hb hbox hg) | ((with_reducible refine gate_store (t := 23) (p := 3) rfl ?_); refine wpList_store_row rfl 23 (.tmp 3) (.tmp 17) rfl g3 R1 rfl rfl 23 #[.int .i64 0, .int .i64 0, .int .i64 0, .int .i64 0, .int .i64 0, .int .i64 0, .int .i64 0, .int .i64 0, .int .i64 0, .int .i64 0, .int .i64 0, .int .i64 0, .int .i64 0, .int .i64 0, .int .i64 0, .int .i64 0, .int .i64 0] BK3.out (by rw [Z1.out]; exact info23) (by rw [Z1.out]; rfl) O1.out ?_; have HB7 := Aside0.mk (below_setRow HB6.out GE3.out R1); have BK3b := Aside0.mk (setRow_heap _ g3 _ R1 23 (0, 0) BK3.out); have HS7 := Aside0.mk (HS5.out.below (below_setRow HBx.out GX.out R1)); clear HB6 BK3 HS5 HBx; generalize World.setRow _ g3 R1 = w7 at HB7 BK3b HS7 ⊢) | (go_at_call 24; refine (HR2.out gs gm _ HS7.out).mono ?_; rintro e w8 ⟨rfl, hb⟩; have HB8 := Aside0.mk (below_step HB7.out hb); have BK3c := Aside0.mk (blk_below BK3b.out hb); clear HS7 HB7 BK3b hb) | ((with_reducible refine gate_dst (N := 5) rfl ?_); refine box_event ?hg (N := 5) ?hd (cs := #[.int .i64 0, .int .i64 0, .int .i64 0, .int .i64 0, .int .i64 0, .int .i64 0, .int .i64 0, .int .i64 0, .int .i64 0, .int .i64 0, .int .i64 0, .int .i64 0, .int .i64 0, .int .i64 0, .int .i64 0, .int .i64 0, .int .i64 0]) (t := 23) ?hr ?_; (case hd => rfl); (case hg => rfl); (case hr => first | (go_simp; done) | (go_simp; rfl)); intro g5 hg w9 hbox hb; have HB9 := Aside0.mk (below_step HB8.out hb); have BK5 := Aside0.mk hbox; have BK3d := Aside0.mk (blk_below BK3c.out hb); have GE5 : Aside0 (w.heap.size ≤ g5) := ⟨by rw [hg]; exact below_size HB8.out⟩; have N5 : Aside0 (g3 ≠ g5) := ⟨by rw [hg]; exact Nat.ne_of_lt (blk_lt BK3c.out)⟩; clear HB8 BK3c; clear hb hbox hg) | ((with_reducible refine gate_store (t := 23) (p := 5) rfl ?_); refine wpList_store_row rfl 23 (.tmp 5) (.tmp 22) rfl g5 R2 rfl rfl 23 #[.int .i64 0, .int .i64 0, .int .i64 0, .int .i64 0, .int .i64 0, .int .i64 0, .int .i64 0, .int .i64 0, .int .i64 0, .int .i64 0, .int .i64 0, .int .i64 0, .int .i64 0, .int .i64 0, .int .i64 0, .int .i64 0, .int .i64 0] BK5.out (by rw [Z2.out]; exact info23) (by rw [Z2.out]; rfl) O2.out ?_; have HB10 := Aside0.mk (below_setRow HB9.out GE5.out R2); have BK5b := Aside0.mk (setRow_heap _ g5 _ R2 23 (0, 0) BK5.out); have BK3e := Aside0.mk ((setRow_other _ g5 g3 R2 N5.out).trans BK3d.out); clear HB9 BK5 BK3d; generalize World.setRow _ g5 R2 = w10 at HB10 BK5b BK3e ⊢; have y0 : w10.cell? ⟨g3, 0, none⟩ = some (.int .i64 20) := (blk_cell BK3e.out 0).trans V1.out; have y1 : w10.cell? ⟨g3, 4, none⟩ = some (.int .i64 5) := (blk_cell BK3e.out 4).trans V2.out; have y2 : w10.cell? ⟨g5, 0, none⟩ = some (.int .i64 14) := (blk_cell BK5b.out 0).trans V3.out; have y3 : w10.cell? ⟨g5, 1, none⟩ = some (.int .i64 12) := (blk_cell BK5b.out 1).trans V4.out))
  go_ret
  exact ⟨rfl, HB10.out⟩
end Go.Proofs.Ytpcpjlbfhbicaaa.Sh
