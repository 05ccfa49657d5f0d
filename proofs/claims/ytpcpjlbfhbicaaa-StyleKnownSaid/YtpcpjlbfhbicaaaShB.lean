/- (*style.Sheet).above over this program: its contract. Conditions: the Sheet's block and its map stand in memory. -/
import Derived.Test.YtpcpjlbfhbicaaaShA
import Derived.WalkMore
set_option linter.unusedVariables false
set_option linter.unusedSimpArgs false
namespace Go.Proofs.Ytpcpjlbfhbicaaa.Sh
open Go Go.RowKit Go.Proofs.YtpcpjlbfhbicaaaW.PrintWords Go.Proofs.YtpcpjlbfhbicaaaW.PrintLast Go.Proofs.YtpcpjlbfhbicaaaW.PrintMore Go.Proofs.Ytpcpjlbfhbicaaa.PStyleProps
open Go.Proofs.Ytpcpjlbfhbicaaa.PStyleNearest (S37 k37 z37 rd_T37 at_T37 k37_open k37_openM k37_mk k37_mkM info37)
theorem list_ne {o : ByteArray} (h : ¬ o = ⟨#[]⟩) : o.toList.isEmpty = false := by
  cases c : o.toList.isEmpty with
  | false => rfl
  | true =>
    exfalso; apply h
    rw [Go.ByteArray.toList_eq] at c
    apply ByteArray.ext
    apply Array.toList_inj.1
    simpa using c
theorem list_neq {o p : ByteArray} (h : ¬ o = p) : (o.toList == p.toList) = false := by
  have := ba_ne h
  rwa [beq_toListBytes] at this
def up (M : List Ent) (n : ByteArray) : ByteArray := ((found M n).map (·.2.1)).getD ⟨#[]⟩
def sets (M : List Ent) (n : ByteArray) : Value := ((found M n).map (·.2.2)).getD (.slice none 0 0)
theorem ent_val (M : List Ent) (n : ByteArray) : ((found M n).map Ent.val).getD zeroEnt = .agg #[.string (up M n), sets M n] := by
  unfold up sets
  cases found M n with
  | none => rfl
  | some m => rfl
theorem look {w : World} {gm : Nat} {M : List Ent} (h : MapAt w gm M) (n : ByteArray) :
    (Instr.lookup 75 (.map (some gm)) (.string n) false).run Try.prog w = .ok (.agg #[.string (up M n), sets M n]) w := by
  rw [run_lookup_false h, ent_val]
theorem look2 {w : World} {gm : Nat} {M : List Ent} (h : MapAt w gm M) (n : ByteArray) :
    (Instr.lookup 75 (.map (some gm)) (.string n) true).run Try.prog w = .ok (.tuple #[.agg #[.string (up M n), sets M n], .bool (found M n).isSome]) w := by
  rw [run_lookup_true h, ent_val]
def aboveF (M : List Ent) (who : ByteArray) : Nat → ByteArray → Option Bool
  | 0, _ => none
  | k + 1, o => if o = ⟨#[]⟩ then some false else if o = who then some true else aboveF M who k (up M o)
theorem field0 (p : ByteArray) (v : Value) (w : World) : (Instr.field 85 (.agg #[.string p, v]) 0).run Try.prog w = .ok (.string p) w := by
  have h8 := run_underlying Try.underlying85
  have h9 := run_underlying Try.underlying9
  simp [Instr.field, h8, part, h9, asAgg, Result.andThen]
set_option maxHeartbeats 4000000 in
set_option maxRecDepth 100000 in
theorem above_calls (gs gm : Nat) (M : List Ent) (k : Nat) (who ofn : ByteArray) (b : Bool) (w : World) (h0 : w.heap[gs]? = some (.cells #[.map (some gm)] 77 (0, 0))) (hm : MapAt w gm M) (h : aboveF M who k ofn = some b) :
    Calls Try.prog 43 #[.pointer (some ⟨gs, 0, none⟩), .string who, .string ofn] w fun e w' => e = .returned (.bool b) ∧ w' = w := by
  have hu := Try.underlying77
  have hu5 := Try.underlying75
  have hu8 := Try.underlying85
  have e0 := (blk_cell h0 0).trans rfl
  have hl := look hm
  have hf0 := field0
  have H := Aside0.mk h
  clear h h0 hm
  go_enter Try.func43, Try.ntmps43
  go_wp2
  go_step3
  go_wp2
  go_step3
  go_wp2
  go_loopg [2] k (fun kq v2 w' => ∃ o, v2 = .string o ∧ Aside0 (aboveF M who kq o = some b) ∧ Aside0 (w' = w))
  case atStart => exact ⟨_, rfl, H, ⟨rfl⟩⟩
  case round =>
    clear H
    obtain ⟨o, rfl, HA, HW⟩ := hrel
    obtain rfl := HW.out
    cases gk with
    | zero => exact absurd HA.out (by simp [aboveF])
    | succ k1 =>
      have h := HA.out
      simp only [aboveF] at h
      by_cases c1 : o = ⟨#[]⟩
      · rw [if_pos c1] at h
        obtain rfl := Option.some.inj h
        subst c1
        go_wp2
        go_ret
        exact ⟨rfl, rfl⟩
      · rw [if_neg c1] at h
        have c1' := ba_ne c1
        have c1'' := list_ne c1
        by_cases c2 : o = who
        · rw [if_pos c2] at h
          obtain rfl := Option.some.inj h
          subst c2
          have c2' := ba_refl o
          have c2'' : (o.toList == o.toList) = true := beq_self_eq_true _
          go_wp2
          go_ret
          exact ⟨rfl, rfl⟩
        · rw [if_neg c2] at h
          have c2' := ba_ne c2
          have c2'' := list_neq c2
          have H' := Aside0.mk h
          clear h c2 c1
          go_wp2
          go_roundg k1
          case measure => omega
          case rel => exact ⟨_, rfl, H', ⟨rfl⟩⟩
end Go.Proofs.Ytpcpjlbfhbicaaa.Sh
