/- quirelaw03.StyleNearest over this program: for every input it returns true. Conditions: the arguments' rows read. -/
import Derived.Test.YtpcpjlbfhbicaaaShL
set_option linter.unusedVariables false
set_option linter.unusedSimpArgs false
namespace Go.Proofs.Ytpcpjlbfhbicaaa.Sh
open Go Go.RowKit Go.Proofs.YtpcpjlbfhbicaaaW.PrintWords Go.Proofs.YtpcpjlbfhbicaaaW.PrintLast Go.Proofs.YtpcpjlbfhbicaaaW.PrintMore Go.Proofs.Ytpcpjlbfhbicaaa.PStyleProps
open Go.Proofs.Ytpcpjlbfhbicaaa.PStyleNearest (S37 k37 z37 rd_T37 at_T37 k37_open k37_openM k37_mk k37_mkM info37)
theorem conv (x : Int) (w : World) : (convert 51 9 (.slice (some ⟨w.heap.size, 0, none⟩) 1 1)).run Try.prog (w.alloc (.cells #[.int .u8 x] 5)) = .ok (.string (strOfNums [x])) (w.alloc (.cells #[.int .u8 x] 5)) :=
  run_convert_bytes_arg _ 51 5 Try.underlying51 Try.underlying5 w.heap.size 0 1 1 [x] rfl (fun i hi => by
    obtain rfl : i = 0 := by omega
    exact (blk_cell (blk_new w (.cells #[.int .u8 x] 5 (0, 0))) 0).trans rfl) 9 Try.underlying9
theorem cat_nm (i : Nat) (h : i < 16) : (⟨#[115]⟩ : ByteArray) ++ strOfNums [(97 + (i : Int)) % 256] = nm (i + 1) := by
  have key : ∀ a : Fin 16, (⟨#[115]⟩ : ByteArray) ++ strOfNums [(97 + (a.1 : Int)) % 256] = nm (a.1 + 1) := by decide +kernel
  exact key ⟨i, h⟩
theorem setE_short {l : List S37} (h : l.length ≤ 20) (h0 : setE l ≠ 0) : setE l = 2 := by
  unfold setE at h0 ⊢
  rw [if_neg (by omega)] at h0 ⊢
  by_cases c : allFit l = true
  · rw [if_pos c] at h0; exact absurd rfl h0
  · rw [if_neg c]
set_option maxHeartbeats 4000000 in
set_option maxRecDepth 100000 in
theorem nearest_long0 (A0 A1 : Option Addr) (c0 c1 : Nat) (ls : List (List S37)) (own : List S37) (w : World) (v0 : Kd.C (Kd.slice 37 k37) w A0 ls.length ls) (v1 : Sl w (.slice A1 own.length c1) own) (h0 : 16 < ls.length) : Calls Try.prog 5 #[.slice A0 ls.length c0, .slice A1 own.length c1] w fun e w' => e = .returned (.bool true) ∧ Below w.heap.size w w' := by
  have hu43 := Try.underlying43
  have hu23 := Try.underlying23
  have hu50 := Try.underlying50
  have hu51 := Try.underlying51
  have V0 := Aside0.mk v0
  have V1 := Aside0.mk v1
  clear v0 v1
  have da : decide ((16 : Int) < (ls.length : Int)) = true := decide_eq_true (by omega)
  have db : decide (16 < ls.length) = true := decide_eq_true (by omega)
  clear h0
  go_enter Try.func5, Try.ntmps5
  go_wp2_with (first | (go_at_call 21; refine (awake_calls _).mono ?_; rintro e w1 ⟨rfl, hb⟩; have HB := Aside0.mk hb; clear hb) | (go_at_call 22; refine (new_calls _).mono ?_; rintro e w2 ⟨gs, gm, rfl, hgs, hgm, hne, h1, h2, hb⟩; have HS := Aside0.mk (sheet_new h1 h2); have GM : Aside0 (w.heap.size ≤ gm) := ⟨Nat.le_trans (below_size HB.out) hgm⟩; have HBn := Aside0.mk (below_step HB.out hb); clear HB hgs hgm hne h1 h2 hb; have HB := HBn; clear HBn))
  go_ret
  exact ⟨rfl, HB.out⟩
set_option maxHeartbeats 4000000 in
set_option maxRecDepth 100000 in
theorem nearest_long1 (A0 A1 : Option Addr) (c0 c1 : Nat) (ls : List (List S37)) (own : List S37) (w : World) (v0 : Kd.C (Kd.slice 37 k37) w A0 ls.length ls) (v1 : Sl w (.slice A1 own.length c1) own) (h0 : ls.length ≤ 16) (h1 : 20 < own.length) : Calls Try.prog 5 #[.slice A0 ls.length c0, .slice A1 own.length c1] w fun e w' => e = .returned (.bool true) ∧ Below w.heap.size w w' := by
  have hu43 := Try.underlying43
  have hu23 := Try.underlying23
  have hu50 := Try.underlying50
  have hu51 := Try.underlying51
  have V0 := Aside0.mk v0
  have V1 := Aside0.mk v1
  clear v0 v1
  have da : decide ((16 : Int) < (ls.length : Int)) = false := decide_eq_false (by omega)
  have db : decide (16 < ls.length) = false := decide_eq_false (by omega)
  have ea : decide ((20 : Int) < (own.length : Int)) = true := decide_eq_true (by omega)
  have eb : decide (20 < own.length) = true := decide_eq_true (by omega)
  clear h0 h1
  go_enter Try.func5, Try.ntmps5
  go_wp2_with (first | (go_at_call 21; refine (awake_calls _).mono ?_; rintro e w1 ⟨rfl, hb⟩; have HB := Aside0.mk hb; clear hb) | (go_at_call 22; refine (new_calls _).mono ?_; rintro e w2 ⟨gs, gm, rfl, hgs, hgm, hne, h1, h2, hb⟩; have HS := Aside0.mk (sheet_new h1 h2); have GM : Aside0 (w.heap.size ≤ gm) := ⟨Nat.le_trans (below_size HB.out) hgm⟩; have HBn := Aside0.mk (below_step HB.out hb); clear HB hgs hgm hne h1 h2 hb; have HB := HBn; clear HBn))
  go_ret
  exact ⟨rfl, HB.out⟩
set_option maxHeartbeats 4000000 in
set_option maxRecDepth 100000 in
theorem nearest_main (A0 A1 : Option Addr) (c0 c1 : Nat) (ls : List (List S37)) (own : List S37) (w : World) (v0 : Kd.C (Kd.slice 37 k37) w A0 ls.length ls) (v1 : Sl w (.slice A1 own.length c1) own) (h0 : ls.length ≤ 16) (h1 : own.length ≤ 20) : Calls Try.prog 5 #[.slice A0 ls.length c0, .slice A1 own.length c1] w fun e w' => e = .returned (.bool true) ∧ Below w.heap.size w w' := by
  have hu43 := Try.underlying43
  have hu23 := Try.underlying23
  have hu50 := Try.underlying50
  have hu51 := Try.underlying51
  have V0 := Aside0.mk v0
  have V1 := Aside0.mk v1
  clear v0 v1
  have da : decide ((16 : Int) < (ls.length : Int)) = false := decide_eq_false (by omega)
  have db : decide (16 < ls.length) = false := decide_eq_false (by omega)
  have ea : decide ((20 : Int) < (own.length : Int)) = false := decide_eq_false (by omega)
  have eb : decide (20 < own.length) = false := decide_eq_false (by omega)
  have H0 := Aside0.mk h0
  have H1 := Aside0.mk h1
  clear h0 h1
  go_enter Try.func5, Try.ntmps5
  go_wp2_with (first | (go_at_call 21; refine (awake_calls _).mono ?_; rintro e w1 ⟨rfl, hb⟩; have HB := Aside0.mk hb; clear hb) | (go_at_call 22; refine (new_calls _).mono ?_; rintro e w2 ⟨gs, gm, rfl, hgs, hgm, hne, h1, h2, hb⟩; have HS := Aside0.mk (sheet_new h1 h2); have GM : Aside0 (w.heap.size ≤ gm) := ⟨Nat.le_trans (below_size HB.out) hgm⟩; have HBn := Aside0.mk (below_step HB.out hb); clear HB hgs hgm hne h1 h2 hb; have HB := HBn; clear HBn))
  go_loopg [7, 8] ls.length (fun kq v7 v8 w' => ∃ (i : Int) (L : List Sty), v7 = .string (nm i.toNat) ∧ v8 = .int .i64 i ∧ Aside0 (0 ≤ i ∧ i + kq = ls.length) ∧ Aside0 (NI ls L i.toNat) ∧ Aside0 (Sheet w' gs gm L) ∧ Aside0 (Below w.heap.size w w') ∧ Aside0 (∀ j, j < i.toNat → (ls.getD j []).length ≤ 20 ∧ fitsAll (ls.getD j [])))
  case atStart => exact ⟨0, [], rfl, rfl, ⟨by omega, by omega⟩, ⟨NI.nil ls⟩, HS, HB, ⟨fun j hj => absurd hj (by simp)⟩⟩
  case round =>
    clear HS HB
    obtain ⟨i, L, rfl, rfl, HK, HN, HS, HB, HA⟩ := hrel
    cases gk with
    | zero =>
      have hk := HK.out
      have q109 : decide (i < (ls.length : Int)) = false := decide_eq_false (by omega)
      have HRes : Aside0 (∀ w', Sheet w' gs gm L → Sl w' (.slice A1 own.length c1) own → Calls Try.prog 24 #[.pointer (some ⟨gs, 0, none⟩), .string (nm i.toNat), .slice A1 own.length c1] w' fun x w'' => x = .returned (.tuple #[.agg (row (if setE own = 0 then withF (FN ls i.toNat) own else zero)), .int .i64 (setE own)]) ∧ Below w'.heap.size w' w'') := ⟨fun w' hs hv => HN.out.resolve gs gm _ own w' hs hv⟩
      by_cases c0 : setE own = 0
      · rw [if_pos c0, c0] at HRes
        have hil : i.toNat = ls.length := by omega
        have hFN : FN ls i.toNat = FN ls ls.length := by rw [hil]
        rw [hFN] at HRes
        rw [hil] at HA
        have HOk : Okay (withF (FN ls ls.length) own) := by
          have key : ∀ m, m ≤ ls.length → Okay (FN ls m) := by
            intro m
            induction m with
            | zero => exact fun _ => Okay.base
            | succ m ih => exact fun h => (ih (by omega)).with (HA.out m (by omega)).2
          exact (key _ (Nat.le_refl _)).with (setE_zero c0).1
        have HMay : Aside0 (∀ w', Calls Try.prog 12 #[.agg (row (withF (FN ls ls.length) own))] w' fun x w'' => x = .returned (.bool true) ∧ Below w'.heap.size w' w'') := ⟨fun w' => may_calls _ w' HOk⟩
        have HGet : Aside0 (∀ n w', 1 ≤ n → n ≤ 17 → Calls Try.prog 16 #[.agg (row (withF (FN ls ls.length) own)), .int .i64 n] w' fun x w'' => x = .returned (.tuple #[.int .i64 (withF (FN ls ls.length) own n), .int .i64 0]) ∧ Below w'.heap.size w' w'') := ⟨fun n w' a b => get_calls _ n w' a b⟩
        have HGetB0 : Aside0 (∀ n w', 1 ≤ n → n ≤ 17 → Calls Try.prog 16 #[.agg (row base), .int .i64 n] w' fun x w'' => x = .returned (.tuple #[.int .i64 (base n), .int .i64 0]) ∧ Below w'.heap.size w' w'') := ⟨fun n w' a b => get_calls _ n w' a b⟩
        have HBase : Aside0 (∀ w', Calls Try.prog 14 #[] w' fun x w'' => x = .returned (.agg (row base)) ∧ Below w'.heap.size w' w'') := ⟨base_calls⟩
        have ZR : Aside0 ((row (withF (FN ls ls.length) own)).size = 17) := ⟨rfl⟩
        have OR : Aside0 ((row (withF (FN ls ls.length) own)).all (·.oneCell') = true) := ⟨row_all _⟩
        generalize row (withF (FN ls ls.length) own) = R at HRes HMay HGet ZR OR
        generalize row base = Rb at HGetB0 HBase
        clear HOk c0 hil hk HN hFN
        go_wp2_with (first | (go_at_call 24; with_reducible refine (HRes.out _ HS.out (V1.out.below HB.out)).mono ?_; rintro x wz ⟨rfl, hb⟩; have HBn := Aside0.mk (below_step HB.out hb); clear HB hb; have HB := HBn; clear HBn) | ((with_reducible refine gate_dst (N := 10) rfl ?_); refine box_event ?hg (N := 10) ?hd (cs := #[.int .i64 0, .int .i64 0, .int .i64 0, .int .i64 0, .int .i64 0, .int .i64 0, .int .i64 0, .int .i64 0, .int .i64 0, .int .i64 0, .int .i64 0, .int .i64 0, .int .i64 0, .int .i64 0, .int .i64 0, .int .i64 0, .int .i64 0]) (t := 23) ?hr ?_; (case hd => rfl); (case hg => rfl); (case hr => first | (go_simp; done) | (go_simp; rfl)); intro g10 hg wb hbox hb; have HBn := Aside0.mk (below_step HB.out hb); have BK10 := Aside0.mk hbox; have GE10 : Aside0 (w.heap.size ≤ g10) := ⟨by rw [hg]; exact below_size HB.out⟩; clear HB; have HB := HBn; clear HBn; clear hb hbox hg) | ((with_reducible refine gate_store (t := 23) (p := 10) rfl ?_); refine wpList_store_row rfl 23 (.tmp 10) (.tmp 77) rfl g10 R rfl rfl 23 #[.int .i64 0, .int .i64 0, .int .i64 0, .int .i64 0, .int .i64 0, .int .i64 0, .int .i64 0, .int .i64 0, .int .i64 0, .int .i64 0, .int .i64 0, .int .i64 0, .int .i64 0, .int .i64 0, .int .i64 0, .int .i64 0, .int .i64 0] BK10.out (by rw [ZR.out]; exact info23) (by rw [ZR.out]; rfl) OR.out ?_; have HBn := Aside0.mk (below_setRow HB.out GE10.out R); have BKn := Aside0.mk (setRow_heap _ g10 _ R 23 (0, 0) BK10.out); clear HB BK10; have HB := HBn; have BK10 := BKn; clear HBn BKn; generalize World.setRow _ g10 R = wy at *))
        clear HS HRes HK q109
        go_loopg [12] 17 (fun kq v12 w' => ∃ n : Int, v12 = .int .i64 n ∧ Aside0 (1 ≤ n ∧ n + kq = 18) ∧ Aside0 (w'.heap[g10]? = some (.cells R 23 (0, 0))) ∧ Aside0 (Below w.heap.size w w'))
        case atStart => exact ⟨1, rfl, ⟨by omega, by omega⟩, BK10, HB⟩
        case round =>
          clear BK10 HB
          obtain ⟨n, rfl, HK, BK10, HB⟩ := hrel
          cases gk with
          | zero =>
            have hk := HK.out
            obtain rfl : n = 18 := by omega
            clear hk HK
            go_wp2_with (first | ((with_reducible refine gate_dst (N := 140) rfl ?_); refine gate_guard (by first | rfl | kernel_rfl) ?_; dsimp only; refine wpList_load_row rfl 23 (.tmp 10) rfl g10 rfl 23 R (0, 0) _ BK10.out hu23 rfl (by rw [ZR.out]; exact info23) ?_) | (go_at_call 12; with_reducible refine (HMay.out _).mono ?_; rintro x wz ⟨rfl, hb⟩; have HBn := Aside0.mk (below_step HB.out hb); have BKn := Aside0.mk (blk_below BK10.out hb); clear HB BK10 hb; have HB := HBn; have BK10 := BKn; clear HBn BKn))
            go_ret
            exact ⟨rfl, HB.out⟩
          | succ k1 =>
            have hk := HK.out
            have n1 : 1 ≤ n := hk.1
            have n17 : n ≤ 17 := by omega
            have hle : decide (n ≤ 17) = true := decide_eq_true n17
            have HGetP : Aside0 (∀ w', Calls Try.prog 16 #[.agg R, .int .i64 n] w' fun x w'' => x = .returned (.tuple #[.int .i64 (withF (FN ls ls.length) own n), .int .i64 0]) ∧ Below w'.heap.size w' w'') := ⟨fun w' => HGet.out n w' n1 n17⟩
            have HGetB : Aside0 (∀ w', Calls Try.prog 16 #[.agg Rb, .int .i64 n] w' fun x w'' => x = .returned (.tuple #[.int .i64 (base n), .int .i64 0]) ∧ Below w'.heap.size w' w'') := ⟨fun w' => HGetB0.out n w' n1 n17⟩
            have HLastO : Aside0 (∀ w', Sl w' (.slice A1 own.length c1) own → Calls Try.prog 25 #[.slice A1 own.length c1, .int .i64 n] w' fun e w'' => e = .returned (.tuple #[.int .i64 ((lastV own n).getD 0), .bool (lastV own n).isSome]) ∧ Below w'.heap.size w' w'') := ⟨fun w' h => last_calls _ own n w' h (by have := H1.out; omega)⟩
            have hW := withF_last n own (FN ls ls.length)
            obtain ⟨X, hX⟩ : ∃ X, X = withF (FN ls ls.length) own n := ⟨_, rfl⟩
            rw [← hX] at HGetP hW
            have HW := Aside0.mk hW
            obtain ⟨bn, hbn⟩ : ∃ bn, Aside0 (bn = FN ls (0 : Int).toNat n) := ⟨_, ⟨rfl⟩⟩
            have hb0 : base n = bn := hbn.out.symm
            rw [hb0] at HGetB
            clear hk n1 n17 hW hX hb0
            go_wp2_with (first | (go_at_call 14; with_reducible refine (HBase.out _).mono ?_; rintro x wz ⟨rfl, hb⟩; have HBn := Aside0.mk (below_step HB.out hb); have BKn := Aside0.mk (blk_below BK10.out hb); clear HB BK10 hb; have HB := HBn; have BK10 := BKn; clear HBn BKn) | (go_at_call 16; with_reducible refine (HGetB.out _).mono ?_; rintro x wz ⟨rfl, hb⟩; have HBn := Aside0.mk (below_step HB.out hb); have BKn := Aside0.mk (blk_below BK10.out hb); clear HB BK10 hb; have HB := HBn; have BK10 := BKn; clear HBn BKn))
            go_loopg [13, 15] ls.length (fun kq v13 v15 w' => ∃ i : Int, v13 = .int .i64 (FN ls i.toNat n) ∧ v15 = .int .i64 i ∧ Aside0 (0 ≤ i ∧ i + kq = ls.length) ∧ Aside0 (w'.heap[g10]? = some (.cells R 23 (0, 0))) ∧ Aside0 (Below w.heap.size w w'))
            case atStart => exact ⟨0, by rw [hbn.out], rfl, ⟨by omega, by omega⟩, BK10, HB⟩
            case round =>
              clear BK10 HB HGetB hbn
              obtain ⟨i, rfl, rfl, HI, BK10, HB⟩ := hrel
              cases gk with
              | zero =>
                have hi := HI.out
                have hil : i.toNat = ls.length := by omega
                rw [hil]
                have q109 : decide (i < (ls.length : Int)) = false := decide_eq_false (by omega)
                have hW := HW.out
                clear hi hil HW
                have hadd : wrap64 (n + 1) = n + 1 := by have := HK.out; unfold wrap64; omega
                cases hlo : lastV own n with
                | some v =>
                  rw [hlo] at HLastO hW
                  simp only [Option.getD_some, Option.isSome_some] at HLastO hW
                  subst hW
                  clear hlo
                  go_wp2_with (first | (go_at_call 25; with_reducible refine (HLastO.out _ (V1.out.below HB.out)).mono ?_; rintro x wz ⟨rfl, hb⟩; have HBn := Aside0.mk (below_step HB.out hb); have BKn := Aside0.mk (blk_below BK10.out hb); clear HB BK10 hb; have HB := HBn; have BK10 := BKn; clear HBn BKn) | ((with_reducible refine gate_dst (N := 122) rfl ?_); refine wpList_load_row rfl 23 (.tmp 10) rfl g10 rfl 23 R (0, 0) _ BK10.out hu23 rfl (by rw [ZR.out]; exact info23) ?_) | (go_at_call 16; with_reducible refine (HGetP.out _).mono ?_; rintro x wz ⟨rfl, hb⟩; have HBn := Aside0.mk (below_step HB.out hb); have BKn := Aside0.mk (blk_below BK10.out hb); clear HB BK10 hb; have HB := HBn; have BK10 := BKn; clear HBn BKn))
                  go_roundg k1
                  case measure => omega
                  case rel => exact ⟨n + 1, by rw [hadd], ⟨by have := HK.out; omega, by have := HK.out; omega⟩, BK10, HB⟩
                | none =>
                  rw [hlo] at HLastO hW
                  simp only [Option.getD_none, Option.isSome_none] at HLastO hW
                  rw [← hW]
                  clear hlo hW
                  go_wp2_with (first | (go_at_call 25; with_reducible refine (HLastO.out _ (V1.out.below HB.out)).mono ?_; rintro x wz ⟨rfl, hb⟩; have HBn := Aside0.mk (below_step HB.out hb); have BKn := Aside0.mk (blk_below BK10.out hb); clear HB BK10 hb; have HB := HBn; have BK10 := BKn; clear HBn BKn) | ((with_reducible refine gate_dst (N := 122) rfl ?_); refine wpList_load_row rfl 23 (.tmp 10) rfl g10 rfl 23 R (0, 0) _ BK10.out hu23 rfl (by rw [ZR.out]; exact info23) ?_) | (go_at_call 16; with_reducible refine (HGetP.out _).mono ?_; rintro x wz ⟨rfl, hb⟩; have HBn := Aside0.mk (below_step HB.out hb); have BKn := Aside0.mk (blk_below BK10.out hb); clear HB BK10 hb; have HB := HBn; have BK10 := BKn; clear HBn BKn))
                  go_roundg k1
                  case measure => omega
                  case rel => exact ⟨n + 1, by rw [hadd], ⟨by have := HK.out; omega, by have := HK.out; omega⟩, BK10, HB⟩
              | succ k2 =>
                have hi := HI.out
                have p108 : 0 ≤ i := hi.1
                have q108 : i < (ls.length : Int) := by omega
                have cb1 : decide (i < (ls.length : Int)) = true := decide_eq_true q108
                have hadd : wrap64 (i + 1) = i + 1 := by have := H0.out; unfold wrap64; omega
                obtain ⟨ad, v, e108, hx, hv⟩ := at_lists V0.out i p108 q108
                cases e108
                obtain ⟨A, c, rfl, hc, hr⟩ := hv
                rw [Nat.mul_one] at hx
                replace hx : wr.cell? (ad.add i.toNat) = some (.slice A (ls.getD i.toNat []).length c) := (HB.out.cell (World.block_lt_of_cell? w _ hx)).trans hx
                have HV : Aside0 (Sl w (.slice A (ls.getD i.toNat []).length c) (ls.getD i.toNat [])) := ⟨⟨A, c, rfl, hc, hr⟩⟩
                obtain ⟨l, hl⟩ : ∃ l, Aside0 (l = ls.getD i.toNat []) := ⟨_, ⟨rfl⟩⟩
                rw [← hl.out] at hx HV
                clear hc hr
                have hlen : l.length ≤ 20 := by rw [hl.out]; exact (HA.out i.toNat (by omega)).1
                have HLast : Aside0 (∀ w', Sl w' (.slice A l.length c) l → Calls Try.prog 25 #[.slice A l.length c, .int .i64 n] w' fun e w'' => e = .returned (.tuple #[.int .i64 ((lastV l n).getD 0), .bool (lastV l n).isSome]) ∧ Below w'.heap.size w' w'') := ⟨fun w' h => last_calls _ l n w' h (by omega)⟩
                have hF : FN ls (i + 1).toNat n = (lastV l n).getD (FN ls i.toNat n) := by
                  rw [show (i + 1).toNat = i.toNat + 1 by omega]
                  show withF (FN ls i.toNat) (ls.getD i.toNat []) n = _
                  rw [withF_last, ← hl.out]
                clear hi hlen
                replace p108 := eq_true p108
                replace q108 := eq_true q108
                have HF := Aside0.mk hF
                clear hF
                cases hlo : lastV l n with
                | some v =>
                  rw [hlo] at HLast HF
                  simp only [Option.getD_some, Option.isSome_some] at HLast HF
                  clear hlo
                  go_wp2_with (first | (go_at_call 25; with_reducible refine (HLast.out _ (HV.out.below HB.out)).mono ?_; rintro x wz ⟨rfl, hb⟩; have HBn := Aside0.mk (below_step HB.out hb); have BKn := Aside0.mk (blk_below BK10.out hb); clear HB BK10 hb; have HB := HBn; have BK10 := BKn; clear HBn BKn))
                  go_roundg k2
                  case measure => omega
                  case rel => exact ⟨i + 1, by rw [HF.out], by rw [hadd], ⟨by have := HI.out; omega, by have := HI.out; omega⟩, BK10, HB⟩
                | none =>
                  rw [hlo] at HLast HF
                  simp only [Option.getD_none, Option.isSome_none] at HLast HF
                  clear hlo
                  go_wp2_with (first | (go_at_call 25; with_reducible refine (HLast.out _ (HV.out.below HB.out)).mono ?_; rintro x wz ⟨rfl, hb⟩; have HBn := Aside0.mk (below_step HB.out hb); have BKn := Aside0.mk (blk_below BK10.out hb); clear HB BK10 hb; have HB := HBn; have BK10 := BKn; clear HBn BKn))
                  go_roundg k2
                  case measure => omega
                  case rel => exact ⟨i + 1, by rw [HF.out], by rw [hadd], ⟨by have := HI.out; omega, by have := HI.out; omega⟩, BK10, HB⟩
      · have h2 := setE_short H1.out c0
        rw [if_neg c0, h2] at HRes
        have ZR : Aside0 ((row zero).size = 17) := ⟨rfl⟩
        have OR : Aside0 ((row zero).all (·.oneCell') = true) := ⟨row_all _⟩
        generalize row zero = R at HRes ZR OR
        clear c0 h2 hk HN
        go_wp2_with (first | (go_at_call 24; with_reducible refine (HRes.out _ HS.out (V1.out.below HB.out)).mono ?_; rintro x wz ⟨rfl, hb⟩; have HBn := Aside0.mk (below_step HB.out hb); clear HB hb; have HB := HBn; clear HBn) | ((with_reducible refine gate_dst (N := 10) rfl ?_); refine box_event ?hg (N := 10) ?hd (cs := #[.int .i64 0, .int .i64 0, .int .i64 0, .int .i64 0, .int .i64 0, .int .i64 0, .int .i64 0, .int .i64 0, .int .i64 0, .int .i64 0, .int .i64 0, .int .i64 0, .int .i64 0, .int .i64 0, .int .i64 0, .int .i64 0, .int .i64 0]) (t := 23) ?hr ?_; (case hd => rfl); (case hg => rfl); (case hr => first | (go_simp; done) | (go_simp; rfl)); intro g10 hg wb hbox hb; have HBn := Aside0.mk (below_step HB.out hb); have BK10 := Aside0.mk hbox; have GE10 : Aside0 (w.heap.size ≤ g10) := ⟨by rw [hg]; exact below_size HB.out⟩; clear HB; have HB := HBn; clear HBn; clear hb hbox hg) | ((with_reducible refine gate_store (t := 23) (p := 10) rfl ?_); refine wpList_store_row rfl 23 (.tmp 10) (.tmp 77) rfl g10 R rfl rfl 23 #[.int .i64 0, .int .i64 0, .int .i64 0, .int .i64 0, .int .i64 0, .int .i64 0, .int .i64 0, .int .i64 0, .int .i64 0, .int .i64 0, .int .i64 0, .int .i64 0, .int .i64 0, .int .i64 0, .int .i64 0, .int .i64 0, .int .i64 0] BK10.out (by rw [ZR.out]; exact info23) (by rw [ZR.out]; rfl) OR.out ?_; have HBn := Aside0.mk (below_setRow HB.out GE10.out R); have BKn := Aside0.mk (setRow_heap _ g10 _ R 23 (0, 0) BK10.out); clear HB BK10; have HB := HBn; have BK10 := BKn; clear HBn BKn; generalize World.setRow _ g10 R = wy at *))
        go_ret
        exact ⟨rfl, HB.out⟩
    | succ k1 =>
      have hk := HK.out
      have p108 : 0 ≤ i := hk.1
      have q108 : i < (ls.length : Int) := by omega
      have i16 : i.toNat < 16 := by have := H0.out; omega
      have cb1 : decide (i < (ls.length : Int)) = true := decide_eq_true q108
      obtain ⟨ad, v, e108, hx, hv⟩ := at_lists V0.out i p108 q108
      cases e108
      obtain ⟨A, c, rfl, hc, hr⟩ := hv
      rw [Nat.mul_one] at hx
      replace hx : wr.cell? (ad.add i.toNat) = some (.slice A (ls.getD i.toNat []).length c) := (HB.out.cell (World.block_lt_of_cell? w _ hx)).trans hx
      have HV : Aside0 (Sl w (.slice A (ls.getD i.toNat []).length c) (ls.getD i.toNat [])) := ⟨⟨A, c, rfl, hc, hr⟩⟩
      obtain ⟨l, hl⟩ : ∃ l, Aside0 (l = ls.getD i.toNat []) := ⟨_, ⟨rfl⟩⟩
      rw [← hl.out] at hx HV
      clear hc hr
      have hw97 : wrap64 (97 + i) = 97 + i := by unfold wrap64; omega
      have hadd : wrap64 (i + 1) = i + 1 := by unfold wrap64; omega
      have hii : ((i.toNat : Nat) : Int) = i := by omega
      have hcat := cat_nm i.toNat i16
      rw [hii] at hcat
      have hcv : ∀ w : World, (convert 51 9 (.slice (some ⟨w.heap.size, 0, none⟩) 1 1)).run Try.prog (w.alloc (.cells #[.int .u8 ((97 + i) % 256)] 5)) = .ok (.string (strOfNums [(97 + i) % 256])) (w.alloc (.cells #[.int .u8 ((97 + i) % 256)] 5)) := conv _
      have hTs : (strOfNums [(97 + i) % 256]).size = 1 := by simp [strOfNums, ByteArray.size]
      generalize strOfNums [(97 + i) % 256] = T at hcat hcv hTs
      have HDef : Aside0 (∀ w', Sheet w' gs gm L → Sl w' (.slice A l.length c) l → Calls Try.prog 23 #[.pointer (some ⟨gs, 0, none⟩), .string (nm (i.toNat + 1)), .string (nm i.toNat), .slice A l.length c] w' fun x w'' => x = .returned (.int .i64 (setE l)) ∧ (setE l = 0 → Sheet w'' gs gm (putL L (nm (i.toNat + 1)) (nm i.toNat) l)) ∧ (setE l ≠ 0 → Sheet w'' gs gm L) ∧ w'.grownBy w'' (some gm)) := ⟨fun w' hs hv => HN.out.define i16 gs gm _ l w' hs hv⟩
      have HNil : Aside0 (∀ w', Sheet w' gs gm L → Calls Try.prog 23 #[.pointer (some ⟨gs, 0, none⟩), .string (nm (i.toNat + 1)), .string (nm i.toNat), .slice none 0 0] w' fun x w'' => x = .returned (.int .i64 0) ∧ w'.grownBy w'' (some gm)) := ⟨fun w' hs => (HN.out.define i16 gs gm _ [] w' hs (Sl.nil w')).mono (fun x w'' h => ⟨h.1, h.2.2.2⟩)⟩
      have HNext : Aside0 (setE l = 0 → NI ls (putL L (nm (i.toNat + 1)) (nm i.toNat) l) (i + 1).toNat) := ⟨fun h => by rw [show (i + 1).toNat = i.toNat + 1 by omega, hl.out]; exact HN.out.put i16 (by rw [← hl.out]; exact (setE_zero h).1)⟩
      have hnm : nm (i.toNat + 1) = nm (i + 1).toNat := by rw [show (i + 1).toNat = i.toNat + 1 by omega]
      have HNM := Aside0.mk hnm
      generalize nm (i.toNat + 1) = N1 at hcat HDef HNil HNext HNM
      clear hk i16 hii hnm
      replace p108 := eq_true p108
      replace q108 := eq_true q108
      by_cases h20 : 20 < l.length
      · have l20a : decide ((20 : Int) < (l.length : Int)) = true := decide_eq_true (by omega)
        have l20b : decide (20 < l.length) = true := decide_eq_true h20
        clear h20
        go_wp2
        go_ret
        exact ⟨rfl, HB.out⟩
      · have l20a : decide ((20 : Int) < (l.length : Int)) = false := decide_eq_false (by omega)
        have l20b : decide (20 < l.length) = false := decide_eq_false h20
        have L20 : Aside0 (l.length ≤ 20) := ⟨by omega⟩
        clear h20
        by_cases c0 : setE l = 0
        · have C0 := Aside0.mk c0
          have HFit := Aside0.mk (setE_zero c0).1
          rw [c0] at HDef
          clear c0
          go_upto_region 14 with fail
          have HBn := Aside0.mk (below_alloc HB.out (.cells #[.int .u8 ((97 + i) % 256)] 5))
          have HSn := Aside0.mk (HS.out.below (below_alloc (Below.refl _ wr) (.cells #[.int .u8 ((97 + i) % 256)] 5)))
          have hxn : (wr.alloc (.cells #[.int .u8 ((97 + i) % 256)] 5)).cell? (ad.add i.toNat) = some (.slice A l.length c) := ((below_alloc (Below.refl _ wr) _).cell (World.block_lt_of_cell? wr _ hx)).trans hx
          clear HB HS hx hcv
          have HB := HBn
          have HS := HSn
          clear HBn HSn
          generalize wr.alloc (.cells #[.int .u8 ((97 + i) % 256)] 5) = wq at hxn HB HS ⊢
          go_wp2_with (first | (go_at_call 23; with_reducible refine (HDef.out _ HS.out (HV.out.below HB.out)).mono ?_; rintro x wz ⟨rfl, hs, hn, hg⟩; have HBn := Aside0.mk (pw_below_grown HB.out (some gm) (below_size HB.out) hg (fun k_ hk => by cases hk; exact GM.out)); clear HB; have HB := HBn; clear HBn; have HS2 := Aside0.mk (hs rfl); clear HS hs hn hg))
          go_roundg k1
          case measure => omega
          case rel => exact ⟨i + 1, _, by rw [HNM.out], by rw [hadd], ⟨by have := HK.out; omega, by have := HK.out; omega⟩, ⟨HNext.out C0.out⟩, HS2, HB, ⟨fun j hj => by
            rcases Nat.lt_or_ge j i.toNat with h | h
            · exact HA.out j h
            · obtain rfl : j = i.toNat := by have := HK.out; omega
              rw [← hl.out]; exact ⟨L20.out, HFit.out⟩⟩⟩
        · have C0 := Aside0.mk c0
          have ce0 : (setE l == 0) = false := beq_eq_false_iff_ne.mpr c0
          have ce1 : (setE l != 0) = true := bne_iff_ne.mpr c0
          clear c0
          go_upto_region 14 with fail
          have HBn := Aside0.mk (below_alloc HB.out (.cells #[.int .u8 ((97 + i) % 256)] 5))
          have HSn := Aside0.mk (HS.out.below (below_alloc (Below.refl _ wr) (.cells #[.int .u8 ((97 + i) % 256)] 5)))
          have hxn : (wr.alloc (.cells #[.int .u8 ((97 + i) % 256)] 5)).cell? (ad.add i.toNat) = some (.slice A l.length c) := ((below_alloc (Below.refl _ wr) _).cell (World.block_lt_of_cell? wr _ hx)).trans hx
          clear HB HS hx hcv
          have HB := HBn
          have HS := HSn
          clear HBn HSn
          generalize wr.alloc (.cells #[.int .u8 ((97 + i) % 256)] 5) = wq at hxn HB HS ⊢
          go_wp2_with (first | (go_at_call 23; with_reducible refine (HDef.out _ HS.out (HV.out.below HB.out)).mono ?_; rintro x wz ⟨rfl, hs, hn, hg⟩; have HBn := Aside0.mk (pw_below_grown HB.out (some gm) (below_size HB.out) hg (fun k_ hk => by cases hk; exact GM.out)); clear HB; have HB := HBn; clear HBn; have HS2 := Aside0.mk (hn C0.out); clear HS hs hn hg) | (go_at_call 23; with_reducible refine (HNil.out _ HS2.out).mono ?_; rintro x wz2 ⟨rfl, hg⟩; have HBn := Aside0.mk (pw_below_grown HB.out (some gm) (below_size HB.out) hg (fun k_ hk => by cases hk; exact GM.out)); clear HB; have HB := HBn; clear HBn; clear hg))
          go_ret
          exact ⟨rfl, HB.out⟩
theorem nearest_law (A0 A1 : Option Addr) (c0 c1 : Nat) (ls : List (List S37)) (own : List S37) (w : World) (v0 : Kd.C (Kd.slice 37 k37) w A0 ls.length ls) (v1 : Sl w (.slice A1 own.length c1) own) : Calls Try.prog 5 #[.slice A0 ls.length c0, .slice A1 own.length c1] w fun e w' => e = .returned (.bool true) ∧ Below w.heap.size w w' := by
  rcases Nat.lt_or_ge 16 ls.length with h0 | h0
  · exact nearest_long0 A0 A1 c0 c1 ls own w v0 v1 h0
  rcases Nat.lt_or_ge 20 own.length with h1 | h1
  · exact nearest_long1 A0 A1 c0 c1 ls own w v0 v1 h0 h1
  exact nearest_main A0 A1 c0 c1 ls own w v0 v1 h0 h1
end Go.Proofs.Ytpcpjlbfhbicaaa.Sh
