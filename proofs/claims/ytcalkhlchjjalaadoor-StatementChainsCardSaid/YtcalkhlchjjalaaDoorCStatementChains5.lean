/- StatementChainsCardSaid -/
import Derived.Test.YtcalkhlchjjalaaDoorCStatementChains3
import Derived.Test.YtcalkhlchjjalaaDoorCStatementChains4
import Derived.Deep.RegionHeld3
import Derived.Deep.DeepCutAuto
import Derived.IntWalk
import Derived.Test.YtcalkhlchjjalaaDoorRows
import Derived.Test.YtcalkhlchjjalaaDoorCards
import Derived.Test.YtcalkhlchjjalaaDoorTie
import Derived.WalkKit
import Derived.ProofKit
import Derived.OpenShut
import Derived.ChangeOld
import Derived.Below
import Derived.SizedLaws
import Derived.LaidMore
import Derived.Lay
import Derived.SevenTiedAt
import Derived.Stop.Joined
import Derived.Test.YtcalkhlchjjalaaDoorCStatementChains1
namespace Go.Proofs.YtcalkhlchjjalaaDoor.Q
open Go.RowKit Go.Proofs.YtcalkhlchjjalaaDoorW.PrintWords Go.Proofs.YtcalkhlchjjalaaDoorW.PrintLast Go.Proofs.YtcalkhlchjjalaaDoorW.PrintMore Go.Proofs.YtcalkhlchjjalaaDoor.Gput
attribute [local go_sem] max2_int min2_int max_two min_two max_three min_three max_four min_four   -- for this text's walks alone
set_option linter.unusedVariables false
set_option linter.unusedSimpArgs false
def statement_Contradict.f (a0_0 : Int) (a0_1 : Int) (a0_2 : Int) (a0_3 : Int) (a0_4 : Int) (a0_5 : Int) (a0_6 : Int) (a0_7 : Int) (a0_8 : Int) (a0_9 : Int) (a0_10 : Int) (a1_0 : Int) (a1_1 : Int) (a1_2 : Int) (a1_3 : Int) (a1_4 : Int) (a1_5 : Int) (a1_6 : Int) (a1_7 : Int) (a1_8 : Int) (a1_9 : Int) (a1_10 : Int) : Option (Bool) := (statement_Valid.f a0_0 a0_1 a0_2 a0_3 a0_4 a0_5 a0_6 a0_7 a0_8 a0_9 a0_10).bind fun t126 => (if t126 = true then ((statement_Valid.f a1_0 a1_1 a1_2 a1_3 a1_4 a1_5 a1_6 a1_7 a1_8 a1_9 a1_10).bind fun t127 => (if t127 = true then (if a0_0 = a1_0 then (if a0_1 = a1_1 then (if a0_2 = a1_2 then ((statement_Same.f a0_0 a0_1 a0_2 a0_3 a0_4 a0_5 a0_6 a0_7 a0_8 a0_9 a0_10 a1_0 a1_1 a1_2 a1_3 a1_4 a1_5 a1_6 a1_7 a1_8 a1_9 a1_10).bind fun t128 => (some (!t128))) else (some false)) else (some false)) else (some false)) else (some false))) else (some false))
set_option maxHeartbeats 8000000 in
set_option maxRecDepth 100000 in
theorem statement_Contradict.calls (a0_0 : Int) (a0_1 : Int) (a0_2 : Int) (a0_3 : Int) (a0_4 : Int) (a0_5 : Int) (a0_6 : Int) (a0_7 : Int) (a0_8 : Int) (a0_9 : Int) (a0_10 : Int) (a1_0 : Int) (a1_1 : Int) (a1_2 : Int) (a1_3 : Int) (a1_4 : Int) (a1_5 : Int) (a1_6 : Int) (a1_7 : Int) (a1_8 : Int) (a1_9 : Int) (a1_10 : Int) (r : Bool) (w : World) (h : statement_Contradict.f a0_0 a0_1 a0_2 a0_3 a0_4 a0_5 a0_6 a0_7 a0_8 a0_9 a0_10 a1_0 a1_1 a1_2 a1_3 a1_4 a1_5 a1_6 a1_7 a1_8 a1_9 a1_10 = some r) (hGL : GL w := by first | exact hGL | exact Aside0.out HGL | exact GL.step (Aside0.out HGL) (by repeat (first | (with_reducible first | exact HB.out | apply below_alloc | apply pw_below_drewN | apply below_drew1 | refine below_set ?_ (Aside0.out (by assumption))) | exact HB.out))) :
    Calls Tryd.prog 21 #[.agg #[.int .i64 a0_0, .int .i64 a0_1, .int .i64 a0_2, .int .i64 a0_3, .int .i64 a0_4, .int .i64 a0_5, .int .i64 a0_6, .int .i64 a0_7, .int .i64 a0_8, .int .i64 a0_9, .int .i64 a0_10], .agg #[.int .i64 a1_0, .int .i64 a1_1, .int .i64 a1_2, .int .i64 a1_3, .int .i64 a1_4, .int .i64 a1_5, .int .i64 a1_6, .int .i64 a1_7, .int .i64 a1_8, .int .i64 a1_9, .int .i64 a1_10]] w fun e w' => e = .returned (.bool r) ∧ Below w.heap.size w w' := by
  have HGL := Aside0.mk hGL
  clear hGL
  have hu39 := Tryd.underlying39
  have HB := Aside0.mk (Below.refl w.heap.size w)
  have H : ((statement_Valid.f a0_0 a0_1 a0_2 a0_3 a0_4 a0_5 a0_6 a0_7 a0_8 a0_9 a0_10).bind fun t126 => (if t126 = true then ((statement_Valid.f a1_0 a1_1 a1_2 a1_3 a1_4 a1_5 a1_6 a1_7 a1_8 a1_9 a1_10).bind fun t127 => (if t127 = true then (if a0_0 = a1_0 then (if a0_1 = a1_1 then (if a0_2 = a1_2 then ((statement_Same.f a0_0 a0_1 a0_2 a0_3 a0_4 a0_5 a0_6 a0_7 a0_8 a0_9 a0_10 a1_0 a1_1 a1_2 a1_3 a1_4 a1_5 a1_6 a1_7 a1_8 a1_9 a1_10).bind fun t128 => (some (!t128))) else (some false)) else (some false)) else (some false)) else (some false))) else (some false))) = some r := h
  clear h
  replace H := Option.bind_eq_some_iff.mp H
  obtain ⟨t126, A30, H⟩ := H
  replace H : (if t126 = true then ((statement_Valid.f a1_0 a1_1 a1_2 a1_3 a1_4 a1_5 a1_6 a1_7 a1_8 a1_9 a1_10).bind fun t127 => (if t127 = true then (if a0_0 = a1_0 then (if a0_1 = a1_1 then (if a0_2 = a1_2 then ((statement_Same.f a0_0 a0_1 a0_2 a0_3 a0_4 a0_5 a0_6 a0_7 a0_8 a0_9 a0_10 a1_0 a1_1 a1_2 a1_3 a1_4 a1_5 a1_6 a1_7 a1_8 a1_9 a1_10).bind fun t128 => (some (!t128))) else (some false)) else (some false)) else (some false)) else (some false))) else (some false)) = some r := H
  have A3 := Aside0.mk A30
  clear A30
  by_cases c4 : t126 = true
  · subst c4
    have H1 : ((statement_Valid.f a1_0 a1_1 a1_2 a1_3 a1_4 a1_5 a1_6 a1_7 a1_8 a1_9 a1_10).bind fun t127 => (if t127 = true then (if a0_0 = a1_0 then (if a0_1 = a1_1 then (if a0_2 = a1_2 then ((statement_Same.f a0_0 a0_1 a0_2 a0_3 a0_4 a0_5 a0_6 a0_7 a0_8 a0_9 a0_10 a1_0 a1_1 a1_2 a1_3 a1_4 a1_5 a1_6 a1_7 a1_8 a1_9 a1_10).bind fun t128 => (some (!t128))) else (some false)) else (some false)) else (some false)) else (some false))) = some r := by rw [if_pos rfl] at H; exact H
    clear H
    have H := H1
    clear H1
    replace H := Option.bind_eq_some_iff.mp H
    obtain ⟨t127, A50, H⟩ := H
    replace H : (if t127 = true then (if a0_0 = a1_0 then (if a0_1 = a1_1 then (if a0_2 = a1_2 then ((statement_Same.f a0_0 a0_1 a0_2 a0_3 a0_4 a0_5 a0_6 a0_7 a0_8 a0_9 a0_10 a1_0 a1_1 a1_2 a1_3 a1_4 a1_5 a1_6 a1_7 a1_8 a1_9 a1_10).bind fun t128 => (some (!t128))) else (some false)) else (some false)) else (some false)) else (some false)) = some r := H
    have A5 := Aside0.mk A50
    clear A50
    by_cases c6 : t127 = true
    · subst c6
      have H1 : (if a0_0 = a1_0 then (if a0_1 = a1_1 then (if a0_2 = a1_2 then ((statement_Same.f a0_0 a0_1 a0_2 a0_3 a0_4 a0_5 a0_6 a0_7 a0_8 a0_9 a0_10 a1_0 a1_1 a1_2 a1_3 a1_4 a1_5 a1_6 a1_7 a1_8 a1_9 a1_10).bind fun t128 => (some (!t128))) else (some false)) else (some false)) else (some false)) = some r := by rw [if_pos rfl] at H; exact H
      clear H
      have H := H1
      clear H1
      by_cases c7 : a0_0 = a1_0
      · rw [if_pos c7] at H
        have c7b0 : (a0_0 == a1_0) = true := beq_iff_eq.mpr c7
        have c7b1 : (a0_0 != a1_0) = false := bne_eq_false_iff_eq.mpr c7
        clear c7
        by_cases c8 : a0_1 = a1_1
        · rw [if_pos c8] at H
          have c8b0 : (a0_1 == a1_1) = true := beq_iff_eq.mpr c8
          have c8b1 : (a0_1 != a1_1) = false := bne_eq_false_iff_eq.mpr c8
          clear c8
          by_cases c9 : a0_2 = a1_2
          · rw [if_pos c9] at H
            have c9b0 : (a0_2 == a1_2) = true := beq_iff_eq.mpr c9
            have c9b1 : (a0_2 != a1_2) = false := bne_eq_false_iff_eq.mpr c9
            clear c9
            replace H := Option.bind_eq_some_iff.mp H
            obtain ⟨t128, A100, H⟩ := H
            replace H : (some (!t128)) = some r := H
            have A10 := Aside0.mk A100
            clear A100
            obtain rfl := Option.some.inj H
            go_enter Tryd.func21, Tryd.ntmps21
            go_wp2_with (first | ((with_reducible refine gate_dst (N := 2) rfl ?_); refine box_event ?hg (N := 2) ?hd (cs := #[.int .i64 a0_0, .int .i64 a0_1, .int .i64 a0_2, .int .i64 a0_3, .int .i64 a0_4, .int .i64 a0_5, .int .i64 a0_6, .int .i64 a0_7, .int .i64 a0_8, .int .i64 a0_9, .int .i64 a0_10]) (t := 39) ?hr ?_; (case hd => rfl); (case hg => rfl); (case hr => first | (go_simp; done) | (go_simp; rfl)); intro gb124 hg w11 hbox hb; have n0_ := Aside0.mk (below_step (by repeat (first | (with_reducible first | exact HB.out | apply below_alloc | apply pw_below_drewN | apply below_drew1) | exact HB.out)) hb); have n1_ := Aside0.mk (hbox); have n2_ := Aside0.mk ((by rw [hg]; exact (below_size (by repeat (first | (with_reducible first | exact HB.out | apply below_alloc | apply pw_below_drewN | apply below_drew1) | exact HB.out))) : w.heap.size ≤ gb124)); have n3_ := Aside0.mk ((by rw [hg]; exact (below_size (by repeat (first | (with_reducible first | exact HB.out | apply below_alloc | apply pw_below_drewN | apply below_drew1) | exact HB.out))) : w.heap.size ≤ gb124)); clear HB; have HB := n0_; have BK124 := n1_; have GW124 := n2_; have GE124 := n3_; clear n0_ n1_ n2_ n3_; clear hb hbox hg) | ((with_reducible refine gate_dst (N := 3) rfl ?_); refine box_event ?hg (N := 3) ?hd (cs := #[.int .i64 a1_0, .int .i64 a1_1, .int .i64 a1_2, .int .i64 a1_3, .int .i64 a1_4, .int .i64 a1_5, .int .i64 a1_6, .int .i64 a1_7, .int .i64 a1_8, .int .i64 a1_9, .int .i64 a1_10]) (t := 39) ?hr ?_; (case hd => rfl); (case hg => rfl); (case hr => first | (go_simp; done) | (go_simp; rfl)); intro gb125 hg w12 hbox hb; have n0_ := Aside0.mk (blk_below (g := gb124) (o := .cells #[.int .i64 a0_0, .int .i64 a0_1, .int .i64 a0_2, .int .i64 a0_3, .int .i64 a0_4, .int .i64 a0_5, .int .i64 a0_6, .int .i64 a0_7, .int .i64 a0_8, .int .i64 a0_9, .int .i64 a0_10] 39 (0, 0)) (by (with_reducible repeat (first | refine blk_drewN ?_ _ | refine blk_drew ?_ | refine blk_alloc ?_ _)); exact BK124.out) hb); have n1_ := Aside0.mk (below_step (by repeat (first | (with_reducible first | exact HB.out | apply below_alloc | apply pw_below_drewN | apply below_drew1 | refine below_set ?_ GE124.out) | exact HB.out)) hb); have n2_ := Aside0.mk (hbox); have n3_ := Aside0.mk ((by rw [hg]; exact (below_size (by repeat (first | (with_reducible first | exact HB.out | apply below_alloc | apply pw_below_drewN | apply below_drew1 | refine below_set ?_ GE124.out) | exact HB.out))) : w.heap.size ≤ gb125)); have n4_ := Aside0.mk ((by rw [hg]; exact (below_size (by repeat (first | (with_reducible first | exact HB.out | apply below_alloc | apply pw_below_drewN | apply below_drew1 | refine below_set ?_ GE124.out) | exact HB.out))) : w.heap.size ≤ gb125)); have n5_ := Aside0.mk ((by rw [hg]; exact Nat.ne_of_lt (blk_lt (g := gb124) (o := .cells #[.int .i64 a0_0, .int .i64 a0_1, .int .i64 a0_2, .int .i64 a0_3, .int .i64 a0_4, .int .i64 a0_5, .int .i64 a0_6, .int .i64 a0_7, .int .i64 a0_8, .int .i64 a0_9, .int .i64 a0_10] 39 (0, 0)) (by (with_reducible repeat (first | refine blk_drewN ?_ _ | refine blk_drew ?_ | refine blk_alloc ?_ _)); exact BK124.out)) : gb124 ≠ gb125)); have n6_ := Aside0.mk ((by rw [hg]; exact Nat.ne_of_gt (blk_lt (g := gb124) (o := .cells #[.int .i64 a0_0, .int .i64 a0_1, .int .i64 a0_2, .int .i64 a0_3, .int .i64 a0_4, .int .i64 a0_5, .int .i64 a0_6, .int .i64 a0_7, .int .i64 a0_8, .int .i64 a0_9, .int .i64 a0_10] 39 (0, 0)) (by (with_reducible repeat (first | refine blk_drewN ?_ _ | refine blk_drew ?_ | refine blk_alloc ?_ _)); exact BK124.out)) : gb125 ≠ gb124)); clear BK124; clear HB; have BK124 := n0_; have HB := n1_; have BK125 := n2_; have GW125 := n3_; have GE125 := n4_; have NB124_125 := n5_; have NB125_124 := n6_; clear n0_ n1_ n2_ n3_ n4_ n5_ n6_; clear hb hbox hg; have hnb13 := NB124_125.out; have hnc13 := NB125_124.out; have hcz14_0 : w12.cell? ⟨gb124, 0, none⟩ = some (.int .i64 a0_0) := (blk_cell BK124.out 0).trans rfl; have hcz14_1 : w12.cell? ⟨gb124, 1, none⟩ = some (.int .i64 a0_1) := (blk_cell BK124.out 1).trans rfl; have hcz14_2 : w12.cell? ⟨gb124, 2, none⟩ = some (.int .i64 a0_2) := (blk_cell BK124.out 2).trans rfl; have hcz14_3 : w12.cell? ⟨gb124, 3, none⟩ = some (.int .i64 a0_3) := (blk_cell BK124.out 3).trans rfl; have hcz14_4 : w12.cell? ⟨gb124, 4, none⟩ = some (.int .i64 a0_4) := (blk_cell BK124.out 4).trans rfl; have hcz14_5 : w12.cell? ⟨gb124, 5, none⟩ = some (.int .i64 a0_5) := (blk_cell BK124.out 5).trans rfl; have hcz14_6 : w12.cell? ⟨gb124, 6, none⟩ = some (.int .i64 a0_6) := (blk_cell BK124.out 6).trans rfl; have hcz14_7 : w12.cell? ⟨gb124, 7, none⟩ = some (.int .i64 a0_7) := (blk_cell BK124.out 7).trans rfl; have hcz14_8 : w12.cell? ⟨gb124, 8, none⟩ = some (.int .i64 a0_8) := (blk_cell BK124.out 8).trans rfl; have hcz14_9 : w12.cell? ⟨gb124, 9, none⟩ = some (.int .i64 a0_9) := (blk_cell BK124.out 9).trans rfl; have hcz14_10 : w12.cell? ⟨gb124, 10, none⟩ = some (.int .i64 a0_10) := (blk_cell BK124.out 10).trans rfl; have hfz14_0 := blk_frozen BK124.out 0; have hfz14_1 := blk_frozen BK124.out 1; have hfz14_2 := blk_frozen BK124.out 2; have hfz14_3 := blk_frozen BK124.out 3; have hfz14_4 := blk_frozen BK124.out 4; have hfz14_5 := blk_frozen BK124.out 5; have hfz14_6 := blk_frozen BK124.out 6; have hfz14_7 := blk_frozen BK124.out 7; have hfz14_8 := blk_frozen BK124.out 8; have hfz14_9 := blk_frozen BK124.out 9; have hfz14_10 := blk_frozen BK124.out 10) | ((with_reducible refine gate_callee (f := 24) rfl ?_); refine goesL_ (some 6) rfl rfl Tryd.func24 (by kernel_rfl) rfl #[.agg #[.int .i64 a0_0, .int .i64 a0_1, .int .i64 a0_2, .int .i64 a0_3, .int .i64 a0_4, .int .i64 a0_5, .int .i64 a0_6, .int .i64 a0_7, .int .i64 a0_8, .int .i64 a0_9, .int .i64 a0_10]] rfl (by (try simp only [List.map_toArray, List.map_cons, List.map_nil]); first | done | rfl | (simp only [List.length_drop, List.length_take]; rfl)) ?_; (with_reducible refine (statement_Valid.calls a0_0 a0_1 a0_2 a0_3 a0_4 a0_5 a0_6 a0_7 a0_8 a0_9 a0_10 true _ A3.out).mono ?_); rintro e w15 ⟨rfl, hb⟩; refine ⟨_, rfl, ?_⟩; have n0_ := Aside0.mk (blk_below (g := gb124) (o := .cells #[.int .i64 a0_0, .int .i64 a0_1, .int .i64 a0_2, .int .i64 a0_3, .int .i64 a0_4, .int .i64 a0_5, .int .i64 a0_6, .int .i64 a0_7, .int .i64 a0_8, .int .i64 a0_9, .int .i64 a0_10] 39 (0, 0)) (by (with_reducible repeat (first | refine blk_drewN ?_ _ | refine blk_drew ?_ | refine blk_alloc ?_ _)); exact BK124.out) hb); have n1_ := Aside0.mk (blk_below (g := gb125) (o := .cells #[.int .i64 a1_0, .int .i64 a1_1, .int .i64 a1_2, .int .i64 a1_3, .int .i64 a1_4, .int .i64 a1_5, .int .i64 a1_6, .int .i64 a1_7, .int .i64 a1_8, .int .i64 a1_9, .int .i64 a1_10] 39 (0, 0)) (by (with_reducible repeat (first | refine blk_drewN ?_ _ | refine blk_drew ?_ | refine blk_alloc ?_ _)); exact BK125.out) hb); have n2_ := Aside0.mk (below_step (by repeat (first | (with_reducible first | exact HB.out | apply below_alloc | apply pw_below_drewN | apply below_drew1 | refine below_set ?_ GE124.out | refine below_set ?_ GE125.out) | exact HB.out)) hb); clear BK124; clear BK125; clear HB; have BK124 := n0_; have BK125 := n1_; have HB := n2_; clear n0_ n1_ n2_; (try clear hb); (try clear hb2); (try clear hk); (try clear hi); have hcz16_0 : w15.cell? ⟨gb125, 0, none⟩ = some (.int .i64 a1_0) := (blk_cell BK125.out 0).trans rfl; have hcz16_1 : w15.cell? ⟨gb125, 1, none⟩ = some (.int .i64 a1_1) := (blk_cell BK125.out 1).trans rfl; have hcz16_2 : w15.cell? ⟨gb125, 2, none⟩ = some (.int .i64 a1_2) := (blk_cell BK125.out 2).trans rfl; have hcz16_3 : w15.cell? ⟨gb125, 3, none⟩ = some (.int .i64 a1_3) := (blk_cell BK125.out 3).trans rfl; have hcz16_4 : w15.cell? ⟨gb125, 4, none⟩ = some (.int .i64 a1_4) := (blk_cell BK125.out 4).trans rfl; have hcz16_5 : w15.cell? ⟨gb125, 5, none⟩ = some (.int .i64 a1_5) := (blk_cell BK125.out 5).trans rfl; have hcz16_6 : w15.cell? ⟨gb125, 6, none⟩ = some (.int .i64 a1_6) := (blk_cell BK125.out 6).trans rfl; have hcz16_7 : w15.cell? ⟨gb125, 7, none⟩ = some (.int .i64 a1_7) := (blk_cell BK125.out 7).trans rfl; have hcz16_8 : w15.cell? ⟨gb125, 8, none⟩ = some (.int .i64 a1_8) := (blk_cell BK125.out 8).trans rfl; have hcz16_9 : w15.cell? ⟨gb125, 9, none⟩ = some (.int .i64 a1_9) := (blk_cell BK125.out 9).trans rfl; have hcz16_10 : w15.cell? ⟨gb125, 10, none⟩ = some (.int .i64 a1_10) := (blk_cell BK125.out 10).trans rfl; have hfz16_0 := blk_frozen BK125.out 0; have hfz16_1 := blk_frozen BK125.out 1; have hfz16_2 := blk_frozen BK125.out 2; have hfz16_3 := blk_frozen BK125.out 3; have hfz16_4 := blk_frozen BK125.out 4; have hfz16_5 := blk_frozen BK125.out 5; have hfz16_6 := blk_frozen BK125.out 6; have hfz16_7 := blk_frozen BK125.out 7; have hfz16_8 := blk_frozen BK125.out 8; have hfz16_9 := blk_frozen BK125.out 9; have hfz16_10 := blk_frozen BK125.out 10) | (go_at_call 24; (with_reducible refine (statement_Valid.calls a1_0 a1_1 a1_2 a1_3 a1_4 a1_5 a1_6 a1_7 a1_8 a1_9 a1_10 true _ A5.out).mono ?_); rintro e w17 ⟨rfl, hb⟩; have n0_ := Aside0.mk (blk_below (g := gb124) (o := .cells #[.int .i64 a0_0, .int .i64 a0_1, .int .i64 a0_2, .int .i64 a0_3, .int .i64 a0_4, .int .i64 a0_5, .int .i64 a0_6, .int .i64 a0_7, .int .i64 a0_8, .int .i64 a0_9, .int .i64 a0_10] 39 (0, 0)) (by (with_reducible repeat (first | refine blk_drewN ?_ _ | refine blk_drew ?_ | refine blk_alloc ?_ _)); exact BK124.out) hb); have n1_ := Aside0.mk (blk_below (g := gb125) (o := .cells #[.int .i64 a1_0, .int .i64 a1_1, .int .i64 a1_2, .int .i64 a1_3, .int .i64 a1_4, .int .i64 a1_5, .int .i64 a1_6, .int .i64 a1_7, .int .i64 a1_8, .int .i64 a1_9, .int .i64 a1_10] 39 (0, 0)) (by (with_reducible repeat (first | refine blk_drewN ?_ _ | refine blk_drew ?_ | refine blk_alloc ?_ _)); exact BK125.out) hb); have n2_ := Aside0.mk (below_step (by repeat (first | (with_reducible first | exact HB.out | apply below_alloc | apply pw_below_drewN | apply below_drew1 | refine below_set ?_ GE124.out | refine below_set ?_ GE125.out) | exact HB.out)) hb); clear BK124; clear BK125; clear HB; have BK124 := n0_; have BK125 := n1_; have HB := n2_; clear n0_ n1_ n2_; (try clear hb); (try clear hb2); (try clear hk); (try clear hi); have hcz18_0 : w17.cell? ⟨gb124, 0, none⟩ = some (.int .i64 a0_0) := (blk_cell BK124.out 0).trans rfl; have hcz18_1 : w17.cell? ⟨gb124, 1, none⟩ = some (.int .i64 a0_1) := (blk_cell BK124.out 1).trans rfl; have hcz18_2 : w17.cell? ⟨gb124, 2, none⟩ = some (.int .i64 a0_2) := (blk_cell BK124.out 2).trans rfl; have hcz18_3 : w17.cell? ⟨gb124, 3, none⟩ = some (.int .i64 a0_3) := (blk_cell BK124.out 3).trans rfl; have hcz18_4 : w17.cell? ⟨gb124, 4, none⟩ = some (.int .i64 a0_4) := (blk_cell BK124.out 4).trans rfl; have hcz18_5 : w17.cell? ⟨gb124, 5, none⟩ = some (.int .i64 a0_5) := (blk_cell BK124.out 5).trans rfl; have hcz18_6 : w17.cell? ⟨gb124, 6, none⟩ = some (.int .i64 a0_6) := (blk_cell BK124.out 6).trans rfl; have hcz18_7 : w17.cell? ⟨gb124, 7, none⟩ = some (.int .i64 a0_7) := (blk_cell BK124.out 7).trans rfl; have hcz18_8 : w17.cell? ⟨gb124, 8, none⟩ = some (.int .i64 a0_8) := (blk_cell BK124.out 8).trans rfl; have hcz18_9 : w17.cell? ⟨gb124, 9, none⟩ = some (.int .i64 a0_9) := (blk_cell BK124.out 9).trans rfl; have hcz18_10 : w17.cell? ⟨gb124, 10, none⟩ = some (.int .i64 a0_10) := (blk_cell BK124.out 10).trans rfl; have hfz18_0 := blk_frozen BK124.out 0; have hfz18_1 := blk_frozen BK124.out 1; have hfz18_2 := blk_frozen BK124.out 2; have hfz18_3 := blk_frozen BK124.out 3; have hfz18_4 := blk_frozen BK124.out 4; have hfz18_5 := blk_frozen BK124.out 5; have hfz18_6 := blk_frozen BK124.out 6; have hfz18_7 := blk_frozen BK124.out 7; have hfz18_8 := blk_frozen BK124.out 8; have hfz18_9 := blk_frozen BK124.out 9; have hfz18_10 := blk_frozen BK124.out 10; have hcz19_0 : w17.cell? ⟨gb125, 0, none⟩ = some (.int .i64 a1_0) := (blk_cell BK125.out 0).trans rfl; have hcz19_1 : w17.cell? ⟨gb125, 1, none⟩ = some (.int .i64 a1_1) := (blk_cell BK125.out 1).trans rfl; have hcz19_2 : w17.cell? ⟨gb125, 2, none⟩ = some (.int .i64 a1_2) := (blk_cell BK125.out 2).trans rfl; have hcz19_3 : w17.cell? ⟨gb125, 3, none⟩ = some (.int .i64 a1_3) := (blk_cell BK125.out 3).trans rfl; have hcz19_4 : w17.cell? ⟨gb125, 4, none⟩ = some (.int .i64 a1_4) := (blk_cell BK125.out 4).trans rfl; have hcz19_5 : w17.cell? ⟨gb125, 5, none⟩ = some (.int .i64 a1_5) := (blk_cell BK125.out 5).trans rfl; have hcz19_6 : w17.cell? ⟨gb125, 6, none⟩ = some (.int .i64 a1_6) := (blk_cell BK125.out 6).trans rfl; have hcz19_7 : w17.cell? ⟨gb125, 7, none⟩ = some (.int .i64 a1_7) := (blk_cell BK125.out 7).trans rfl; have hcz19_8 : w17.cell? ⟨gb125, 8, none⟩ = some (.int .i64 a1_8) := (blk_cell BK125.out 8).trans rfl; have hcz19_9 : w17.cell? ⟨gb125, 9, none⟩ = some (.int .i64 a1_9) := (blk_cell BK125.out 9).trans rfl; have hcz19_10 : w17.cell? ⟨gb125, 10, none⟩ = some (.int .i64 a1_10) := (blk_cell BK125.out 10).trans rfl; have hfz19_0 := blk_frozen BK125.out 0; have hfz19_1 := blk_frozen BK125.out 1; have hfz19_2 := blk_frozen BK125.out 2; have hfz19_3 := blk_frozen BK125.out 3; have hfz19_4 := blk_frozen BK125.out 4; have hfz19_5 := blk_frozen BK125.out 5; have hfz19_6 := blk_frozen BK125.out 6; have hfz19_7 := blk_frozen BK125.out 7; have hfz19_8 := blk_frozen BK125.out 8; have hfz19_9 := blk_frozen BK125.out 9; have hfz19_10 := blk_frozen BK125.out 10) | (go_at_call 23; (with_reducible refine (statement_Same.calls a0_0 a0_1 a0_2 a0_3 a0_4 a0_5 a0_6 a0_7 a0_8 a0_9 a0_10 a1_0 a1_1 a1_2 a1_3 a1_4 a1_5 a1_6 a1_7 a1_8 a1_9 a1_10 t128 _ A10.out).mono ?_); rintro e w20 ⟨rfl, hb⟩; have n0_ := Aside0.mk (blk_below (g := gb124) (o := .cells #[.int .i64 a0_0, .int .i64 a0_1, .int .i64 a0_2, .int .i64 a0_3, .int .i64 a0_4, .int .i64 a0_5, .int .i64 a0_6, .int .i64 a0_7, .int .i64 a0_8, .int .i64 a0_9, .int .i64 a0_10] 39 (0, 0)) (by (with_reducible repeat (first | refine blk_drewN ?_ _ | refine blk_drew ?_ | refine blk_alloc ?_ _)); exact BK124.out) hb); have n1_ := Aside0.mk (blk_below (g := gb125) (o := .cells #[.int .i64 a1_0, .int .i64 a1_1, .int .i64 a1_2, .int .i64 a1_3, .int .i64 a1_4, .int .i64 a1_5, .int .i64 a1_6, .int .i64 a1_7, .int .i64 a1_8, .int .i64 a1_9, .int .i64 a1_10] 39 (0, 0)) (by (with_reducible repeat (first | refine blk_drewN ?_ _ | refine blk_drew ?_ | refine blk_alloc ?_ _)); exact BK125.out) hb); have n2_ := Aside0.mk (below_step (by repeat (first | (with_reducible first | exact HB.out | apply below_alloc | apply pw_below_drewN | apply below_drew1 | refine below_set ?_ GE124.out | refine below_set ?_ GE125.out) | exact HB.out)) hb); clear BK124; clear BK125; clear HB; have BK124 := n0_; have BK125 := n1_; have HB := n2_; clear n0_ n1_ n2_; (try clear hb); (try clear hb2); (try clear hk); (try clear hi)))
            go_ret
            exact ⟨by first | rfl | (simp [errW_none, errW_some] <;> rfl) | (simp [*, errW_none, errW_some] <;> rfl), by repeat (first | (with_reducible first | exact HB.out | apply below_alloc | apply pw_below_drewN | apply below_drew1 | refine below_set ?_ GE124.out | refine below_set ?_ GE125.out) | exact HB.out)⟩
          · rw [if_neg c9] at H
            have c9b0 : (a0_2 == a1_2) = false := beq_eq_false_iff_ne.mpr c9
            have c9b1 : (a0_2 != a1_2) = true := bne_iff_ne.mpr c9
            obtain rfl := Option.some.inj H
            go_enter Tryd.func21, Tryd.ntmps21
            go_wp2_with (first | ((with_reducible refine gate_dst (N := 2) rfl ?_); refine box_event ?hg (N := 2) ?hd (cs := #[.int .i64 a0_0, .int .i64 a0_1, .int .i64 a0_2, .int .i64 a0_3, .int .i64 a0_4, .int .i64 a0_5, .int .i64 a0_6, .int .i64 a0_7, .int .i64 a0_8, .int .i64 a0_9, .int .i64 a0_10]) (t := 39) ?hr ?_; (case hd => rfl); (case hg => rfl); (case hr => first | (go_simp; done) | (go_simp; rfl)); intro gb124 hg w21 hbox hb; have n0_ := Aside0.mk (below_step (by repeat (first | (with_reducible first | exact HB.out | apply below_alloc | apply pw_below_drewN | apply below_drew1) | exact HB.out)) hb); have n1_ := Aside0.mk (hbox); have n2_ := Aside0.mk ((by rw [hg]; exact (below_size (by repeat (first | (with_reducible first | exact HB.out | apply below_alloc | apply pw_below_drewN | apply below_drew1) | exact HB.out))) : w.heap.size ≤ gb124)); have n3_ := Aside0.mk ((by rw [hg]; exact (below_size (by repeat (first | (with_reducible first | exact HB.out | apply below_alloc | apply pw_below_drewN | apply below_drew1) | exact HB.out))) : w.heap.size ≤ gb124)); clear HB; have HB := n0_; have BK124 := n1_; have GW124 := n2_; have GE124 := n3_; clear n0_ n1_ n2_ n3_; clear hb hbox hg) | ((with_reducible refine gate_dst (N := 3) rfl ?_); refine box_event ?hg (N := 3) ?hd (cs := #[.int .i64 a1_0, .int .i64 a1_1, .int .i64 a1_2, .int .i64 a1_3, .int .i64 a1_4, .int .i64 a1_5, .int .i64 a1_6, .int .i64 a1_7, .int .i64 a1_8, .int .i64 a1_9, .int .i64 a1_10]) (t := 39) ?hr ?_; (case hd => rfl); (case hg => rfl); (case hr => first | (go_simp; done) | (go_simp; rfl)); intro gb125 hg w22 hbox hb; have n0_ := Aside0.mk (blk_below (g := gb124) (o := .cells #[.int .i64 a0_0, .int .i64 a0_1, .int .i64 a0_2, .int .i64 a0_3, .int .i64 a0_4, .int .i64 a0_5, .int .i64 a0_6, .int .i64 a0_7, .int .i64 a0_8, .int .i64 a0_9, .int .i64 a0_10] 39 (0, 0)) (by (with_reducible repeat (first | refine blk_drewN ?_ _ | refine blk_drew ?_ | refine blk_alloc ?_ _)); exact BK124.out) hb); have n1_ := Aside0.mk (below_step (by repeat (first | (with_reducible first | exact HB.out | apply below_alloc | apply pw_below_drewN | apply below_drew1 | refine below_set ?_ GE124.out) | exact HB.out)) hb); have n2_ := Aside0.mk (hbox); have n3_ := Aside0.mk ((by rw [hg]; exact (below_size (by repeat (first | (with_reducible first | exact HB.out | apply below_alloc | apply pw_below_drewN | apply below_drew1 | refine below_set ?_ GE124.out) | exact HB.out))) : w.heap.size ≤ gb125)); have n4_ := Aside0.mk ((by rw [hg]; exact (below_size (by repeat (first | (with_reducible first | exact HB.out | apply below_alloc | apply pw_below_drewN | apply below_drew1 | refine below_set ?_ GE124.out) | exact HB.out))) : w.heap.size ≤ gb125)); have n5_ := Aside0.mk ((by rw [hg]; exact Nat.ne_of_lt (blk_lt (g := gb124) (o := .cells #[.int .i64 a0_0, .int .i64 a0_1, .int .i64 a0_2, .int .i64 a0_3, .int .i64 a0_4, .int .i64 a0_5, .int .i64 a0_6, .int .i64 a0_7, .int .i64 a0_8, .int .i64 a0_9, .int .i64 a0_10] 39 (0, 0)) (by (with_reducible repeat (first | refine blk_drewN ?_ _ | refine blk_drew ?_ | refine blk_alloc ?_ _)); exact BK124.out)) : gb124 ≠ gb125)); have n6_ := Aside0.mk ((by rw [hg]; exact Nat.ne_of_gt (blk_lt (g := gb124) (o := .cells #[.int .i64 a0_0, .int .i64 a0_1, .int .i64 a0_2, .int .i64 a0_3, .int .i64 a0_4, .int .i64 a0_5, .int .i64 a0_6, .int .i64 a0_7, .int .i64 a0_8, .int .i64 a0_9, .int .i64 a0_10] 39 (0, 0)) (by (with_reducible repeat (first | refine blk_drewN ?_ _ | refine blk_drew ?_ | refine blk_alloc ?_ _)); exact BK124.out)) : gb125 ≠ gb124)); clear BK124; clear HB; have BK124 := n0_; have HB := n1_; have BK125 := n2_; have GW125 := n3_; have GE125 := n4_; have NB124_125 := n5_; have NB125_124 := n6_; clear n0_ n1_ n2_ n3_ n4_ n5_ n6_; clear hb hbox hg; have hnb23 := NB124_125.out; have hnc23 := NB125_124.out; have hcz24_0 : w22.cell? ⟨gb124, 0, none⟩ = some (.int .i64 a0_0) := (blk_cell BK124.out 0).trans rfl; have hcz24_1 : w22.cell? ⟨gb124, 1, none⟩ = some (.int .i64 a0_1) := (blk_cell BK124.out 1).trans rfl; have hcz24_2 : w22.cell? ⟨gb124, 2, none⟩ = some (.int .i64 a0_2) := (blk_cell BK124.out 2).trans rfl; have hcz24_3 : w22.cell? ⟨gb124, 3, none⟩ = some (.int .i64 a0_3) := (blk_cell BK124.out 3).trans rfl; have hcz24_4 : w22.cell? ⟨gb124, 4, none⟩ = some (.int .i64 a0_4) := (blk_cell BK124.out 4).trans rfl; have hcz24_5 : w22.cell? ⟨gb124, 5, none⟩ = some (.int .i64 a0_5) := (blk_cell BK124.out 5).trans rfl; have hcz24_6 : w22.cell? ⟨gb124, 6, none⟩ = some (.int .i64 a0_6) := (blk_cell BK124.out 6).trans rfl; have hcz24_7 : w22.cell? ⟨gb124, 7, none⟩ = some (.int .i64 a0_7) := (blk_cell BK124.out 7).trans rfl; have hcz24_8 : w22.cell? ⟨gb124, 8, none⟩ = some (.int .i64 a0_8) := (blk_cell BK124.out 8).trans rfl; have hcz24_9 : w22.cell? ⟨gb124, 9, none⟩ = some (.int .i64 a0_9) := (blk_cell BK124.out 9).trans rfl; have hcz24_10 : w22.cell? ⟨gb124, 10, none⟩ = some (.int .i64 a0_10) := (blk_cell BK124.out 10).trans rfl; have hfz24_0 := blk_frozen BK124.out 0; have hfz24_1 := blk_frozen BK124.out 1; have hfz24_2 := blk_frozen BK124.out 2; have hfz24_3 := blk_frozen BK124.out 3; have hfz24_4 := blk_frozen BK124.out 4; have hfz24_5 := blk_frozen BK124.out 5; have hfz24_6 := blk_frozen BK124.out 6; have hfz24_7 := blk_frozen BK124.out 7; have hfz24_8 := blk_frozen BK124.out 8; have hfz24_9 := blk_frozen BK124.out 9; have hfz24_10 := blk_frozen BK124.out 10) | ((with_reducible refine gate_callee (f := 24) rfl ?_); refine goesL_ (some 6) rfl rfl Tryd.func24 (by kernel_rfl) rfl #[.agg #[.int .i64 a0_0, .int .i64 a0_1, .int .i64 a0_2, .int .i64 a0_3, .int .i64 a0_4, .int .i64 a0_5, .int .i64 a0_6, .int .i64 a0_7, .int .i64 a0_8, .int .i64 a0_9, .int .i64 a0_10]] rfl (by (try simp only [List.map_toArray, List.map_cons, List.map_nil]); first | done | rfl | (simp only [List.length_drop, List.length_take]; rfl)) ?_; (with_reducible refine (statement_Valid.calls a0_0 a0_1 a0_2 a0_3 a0_4 a0_5 a0_6 a0_7 a0_8 a0_9 a0_10 true _ A3.out).mono ?_); rintro e w25 ⟨rfl, hb⟩; refine ⟨_, rfl, ?_⟩; have n0_ := Aside0.mk (blk_below (g := gb124) (o := .cells #[.int .i64 a0_0, .int .i64 a0_1, .int .i64 a0_2, .int .i64 a0_3, .int .i64 a0_4, .int .i64 a0_5, .int .i64 a0_6, .int .i64 a0_7, .int .i64 a0_8, .int .i64 a0_9, .int .i64 a0_10] 39 (0, 0)) (by (with_reducible repeat (first | refine blk_drewN ?_ _ | refine blk_drew ?_ | refine blk_alloc ?_ _)); exact BK124.out) hb); have n1_ := Aside0.mk (blk_below (g := gb125) (o := .cells #[.int .i64 a1_0, .int .i64 a1_1, .int .i64 a1_2, .int .i64 a1_3, .int .i64 a1_4, .int .i64 a1_5, .int .i64 a1_6, .int .i64 a1_7, .int .i64 a1_8, .int .i64 a1_9, .int .i64 a1_10] 39 (0, 0)) (by (with_reducible repeat (first | refine blk_drewN ?_ _ | refine blk_drew ?_ | refine blk_alloc ?_ _)); exact BK125.out) hb); have n2_ := Aside0.mk (below_step (by repeat (first | (with_reducible first | exact HB.out | apply below_alloc | apply pw_below_drewN | apply below_drew1 | refine below_set ?_ GE124.out | refine below_set ?_ GE125.out) | exact HB.out)) hb); clear BK124; clear BK125; clear HB; have BK124 := n0_; have BK125 := n1_; have HB := n2_; clear n0_ n1_ n2_; (try clear hb); (try clear hb2); (try clear hk); (try clear hi); have hcz26_0 : w25.cell? ⟨gb125, 0, none⟩ = some (.int .i64 a1_0) := (blk_cell BK125.out 0).trans rfl; have hcz26_1 : w25.cell? ⟨gb125, 1, none⟩ = some (.int .i64 a1_1) := (blk_cell BK125.out 1).trans rfl; have hcz26_2 : w25.cell? ⟨gb125, 2, none⟩ = some (.int .i64 a1_2) := (blk_cell BK125.out 2).trans rfl; have hcz26_3 : w25.cell? ⟨gb125, 3, none⟩ = some (.int .i64 a1_3) := (blk_cell BK125.out 3).trans rfl; have hcz26_4 : w25.cell? ⟨gb125, 4, none⟩ = some (.int .i64 a1_4) := (blk_cell BK125.out 4).trans rfl; have hcz26_5 : w25.cell? ⟨gb125, 5, none⟩ = some (.int .i64 a1_5) := (blk_cell BK125.out 5).trans rfl; have hcz26_6 : w25.cell? ⟨gb125, 6, none⟩ = some (.int .i64 a1_6) := (blk_cell BK125.out 6).trans rfl; have hcz26_7 : w25.cell? ⟨gb125, 7, none⟩ = some (.int .i64 a1_7) := (blk_cell BK125.out 7).trans rfl; have hcz26_8 : w25.cell? ⟨gb125, 8, none⟩ = some (.int .i64 a1_8) := (blk_cell BK125.out 8).trans rfl; have hcz26_9 : w25.cell? ⟨gb125, 9, none⟩ = some (.int .i64 a1_9) := (blk_cell BK125.out 9).trans rfl; have hcz26_10 : w25.cell? ⟨gb125, 10, none⟩ = some (.int .i64 a1_10) := (blk_cell BK125.out 10).trans rfl; have hfz26_0 := blk_frozen BK125.out 0; have hfz26_1 := blk_frozen BK125.out 1; have hfz26_2 := blk_frozen BK125.out 2; have hfz26_3 := blk_frozen BK125.out 3; have hfz26_4 := blk_frozen BK125.out 4; have hfz26_5 := blk_frozen BK125.out 5; have hfz26_6 := blk_frozen BK125.out 6; have hfz26_7 := blk_frozen BK125.out 7; have hfz26_8 := blk_frozen BK125.out 8; have hfz26_9 := blk_frozen BK125.out 9; have hfz26_10 := blk_frozen BK125.out 10) | (go_at_call 24; (with_reducible refine (statement_Valid.calls a1_0 a1_1 a1_2 a1_3 a1_4 a1_5 a1_6 a1_7 a1_8 a1_9 a1_10 true _ A5.out).mono ?_); rintro e w27 ⟨rfl, hb⟩; have n0_ := Aside0.mk (blk_below (g := gb124) (o := .cells #[.int .i64 a0_0, .int .i64 a0_1, .int .i64 a0_2, .int .i64 a0_3, .int .i64 a0_4, .int .i64 a0_5, .int .i64 a0_6, .int .i64 a0_7, .int .i64 a0_8, .int .i64 a0_9, .int .i64 a0_10] 39 (0, 0)) (by (with_reducible repeat (first | refine blk_drewN ?_ _ | refine blk_drew ?_ | refine blk_alloc ?_ _)); exact BK124.out) hb); have n1_ := Aside0.mk (blk_below (g := gb125) (o := .cells #[.int .i64 a1_0, .int .i64 a1_1, .int .i64 a1_2, .int .i64 a1_3, .int .i64 a1_4, .int .i64 a1_5, .int .i64 a1_6, .int .i64 a1_7, .int .i64 a1_8, .int .i64 a1_9, .int .i64 a1_10] 39 (0, 0)) (by (with_reducible repeat (first | refine blk_drewN ?_ _ | refine blk_drew ?_ | refine blk_alloc ?_ _)); exact BK125.out) hb); have n2_ := Aside0.mk (below_step (by repeat (first | (with_reducible first | exact HB.out | apply below_alloc | apply pw_below_drewN | apply below_drew1 | refine below_set ?_ GE124.out | refine below_set ?_ GE125.out) | exact HB.out)) hb); clear BK124; clear BK125; clear HB; have BK124 := n0_; have BK125 := n1_; have HB := n2_; clear n0_ n1_ n2_; (try clear hb); (try clear hb2); (try clear hk); (try clear hi); have hcz28_0 : w27.cell? ⟨gb124, 0, none⟩ = some (.int .i64 a0_0) := (blk_cell BK124.out 0).trans rfl; have hcz28_1 : w27.cell? ⟨gb124, 1, none⟩ = some (.int .i64 a0_1) := (blk_cell BK124.out 1).trans rfl; have hcz28_2 : w27.cell? ⟨gb124, 2, none⟩ = some (.int .i64 a0_2) := (blk_cell BK124.out 2).trans rfl; have hcz28_3 : w27.cell? ⟨gb124, 3, none⟩ = some (.int .i64 a0_3) := (blk_cell BK124.out 3).trans rfl; have hcz28_4 : w27.cell? ⟨gb124, 4, none⟩ = some (.int .i64 a0_4) := (blk_cell BK124.out 4).trans rfl; have hcz28_5 : w27.cell? ⟨gb124, 5, none⟩ = some (.int .i64 a0_5) := (blk_cell BK124.out 5).trans rfl; have hcz28_6 : w27.cell? ⟨gb124, 6, none⟩ = some (.int .i64 a0_6) := (blk_cell BK124.out 6).trans rfl; have hcz28_7 : w27.cell? ⟨gb124, 7, none⟩ = some (.int .i64 a0_7) := (blk_cell BK124.out 7).trans rfl; have hcz28_8 : w27.cell? ⟨gb124, 8, none⟩ = some (.int .i64 a0_8) := (blk_cell BK124.out 8).trans rfl; have hcz28_9 : w27.cell? ⟨gb124, 9, none⟩ = some (.int .i64 a0_9) := (blk_cell BK124.out 9).trans rfl; have hcz28_10 : w27.cell? ⟨gb124, 10, none⟩ = some (.int .i64 a0_10) := (blk_cell BK124.out 10).trans rfl; have hfz28_0 := blk_frozen BK124.out 0; have hfz28_1 := blk_frozen BK124.out 1; have hfz28_2 := blk_frozen BK124.out 2; have hfz28_3 := blk_frozen BK124.out 3; have hfz28_4 := blk_frozen BK124.out 4; have hfz28_5 := blk_frozen BK124.out 5; have hfz28_6 := blk_frozen BK124.out 6; have hfz28_7 := blk_frozen BK124.out 7; have hfz28_8 := blk_frozen BK124.out 8; have hfz28_9 := blk_frozen BK124.out 9; have hfz28_10 := blk_frozen BK124.out 10; have hcz29_0 : w27.cell? ⟨gb125, 0, none⟩ = some (.int .i64 a1_0) := (blk_cell BK125.out 0).trans rfl; have hcz29_1 : w27.cell? ⟨gb125, 1, none⟩ = some (.int .i64 a1_1) := (blk_cell BK125.out 1).trans rfl; have hcz29_2 : w27.cell? ⟨gb125, 2, none⟩ = some (.int .i64 a1_2) := (blk_cell BK125.out 2).trans rfl; have hcz29_3 : w27.cell? ⟨gb125, 3, none⟩ = some (.int .i64 a1_3) := (blk_cell BK125.out 3).trans rfl; have hcz29_4 : w27.cell? ⟨gb125, 4, none⟩ = some (.int .i64 a1_4) := (blk_cell BK125.out 4).trans rfl; have hcz29_5 : w27.cell? ⟨gb125, 5, none⟩ = some (.int .i64 a1_5) := (blk_cell BK125.out 5).trans rfl; have hcz29_6 : w27.cell? ⟨gb125, 6, none⟩ = some (.int .i64 a1_6) := (blk_cell BK125.out 6).trans rfl; have hcz29_7 : w27.cell? ⟨gb125, 7, none⟩ = some (.int .i64 a1_7) := (blk_cell BK125.out 7).trans rfl; have hcz29_8 : w27.cell? ⟨gb125, 8, none⟩ = some (.int .i64 a1_8) := (blk_cell BK125.out 8).trans rfl; have hcz29_9 : w27.cell? ⟨gb125, 9, none⟩ = some (.int .i64 a1_9) := (blk_cell BK125.out 9).trans rfl; have hcz29_10 : w27.cell? ⟨gb125, 10, none⟩ = some (.int .i64 a1_10) := (blk_cell BK125.out 10).trans rfl; have hfz29_0 := blk_frozen BK125.out 0; have hfz29_1 := blk_frozen BK125.out 1; have hfz29_2 := blk_frozen BK125.out 2; have hfz29_3 := blk_frozen BK125.out 3; have hfz29_4 := blk_frozen BK125.out 4; have hfz29_5 := blk_frozen BK125.out 5; have hfz29_6 := blk_frozen BK125.out 6; have hfz29_7 := blk_frozen BK125.out 7; have hfz29_8 := blk_frozen BK125.out 8; have hfz29_9 := blk_frozen BK125.out 9; have hfz29_10 := blk_frozen BK125.out 10))
            go_ret
            exact ⟨by first | rfl | (simp [errW_none, errW_some] <;> rfl) | (simp [*, errW_none, errW_some] <;> rfl), by repeat (first | (with_reducible first | exact HB.out | apply below_alloc | apply pw_below_drewN | apply below_drew1 | refine below_set ?_ GE124.out | refine below_set ?_ GE125.out) | exact HB.out)⟩
        · rw [if_neg c8] at H
          have c8b0 : (a0_1 == a1_1) = false := beq_eq_false_iff_ne.mpr c8
          have c8b1 : (a0_1 != a1_1) = true := bne_iff_ne.mpr c8
          obtain rfl := Option.some.inj H
          go_enter Tryd.func21, Tryd.ntmps21
          go_wp2_with (first | ((with_reducible refine gate_dst (N := 2) rfl ?_); refine box_event ?hg (N := 2) ?hd (cs := #[.int .i64 a0_0, .int .i64 a0_1, .int .i64 a0_2, .int .i64 a0_3, .int .i64 a0_4, .int .i64 a0_5, .int .i64 a0_6, .int .i64 a0_7, .int .i64 a0_8, .int .i64 a0_9, .int .i64 a0_10]) (t := 39) ?hr ?_; (case hd => rfl); (case hg => rfl); (case hr => first | (go_simp; done) | (go_simp; rfl)); intro gb124 hg w30 hbox hb; have n0_ := Aside0.mk (below_step (by repeat (first | (with_reducible first | exact HB.out | apply below_alloc | apply pw_below_drewN | apply below_drew1) | exact HB.out)) hb); have n1_ := Aside0.mk (hbox); have n2_ := Aside0.mk ((by rw [hg]; exact (below_size (by repeat (first | (with_reducible first | exact HB.out | apply below_alloc | apply pw_below_drewN | apply below_drew1) | exact HB.out))) : w.heap.size ≤ gb124)); have n3_ := Aside0.mk ((by rw [hg]; exact (below_size (by repeat (first | (with_reducible first | exact HB.out | apply below_alloc | apply pw_below_drewN | apply below_drew1) | exact HB.out))) : w.heap.size ≤ gb124)); clear HB; have HB := n0_; have BK124 := n1_; have GW124 := n2_; have GE124 := n3_; clear n0_ n1_ n2_ n3_; clear hb hbox hg) | ((with_reducible refine gate_dst (N := 3) rfl ?_); refine box_event ?hg (N := 3) ?hd (cs := #[.int .i64 a1_0, .int .i64 a1_1, .int .i64 a1_2, .int .i64 a1_3, .int .i64 a1_4, .int .i64 a1_5, .int .i64 a1_6, .int .i64 a1_7, .int .i64 a1_8, .int .i64 a1_9, .int .i64 a1_10]) (t := 39) ?hr ?_; (case hd => rfl); (case hg => rfl); (case hr => first | (go_simp; done) | (go_simp; rfl)); intro gb125 hg w31 hbox hb; have n0_ := Aside0.mk (blk_below (g := gb124) (o := .cells #[.int .i64 a0_0, .int .i64 a0_1, .int .i64 a0_2, .int .i64 a0_3, .int .i64 a0_4, .int .i64 a0_5, .int .i64 a0_6, .int .i64 a0_7, .int .i64 a0_8, .int .i64 a0_9, .int .i64 a0_10] 39 (0, 0)) (by (with_reducible repeat (first | refine blk_drewN ?_ _ | refine blk_drew ?_ | refine blk_alloc ?_ _)); exact BK124.out) hb); have n1_ := Aside0.mk (below_step (by repeat (first | (with_reducible first | exact HB.out | apply below_alloc | apply pw_below_drewN | apply below_drew1 | refine below_set ?_ GE124.out) | exact HB.out)) hb); have n2_ := Aside0.mk (hbox); have n3_ := Aside0.mk ((by rw [hg]; exact (below_size (by repeat (first | (with_reducible first | exact HB.out | apply below_alloc | apply pw_below_drewN | apply below_drew1 | refine below_set ?_ GE124.out) | exact HB.out))) : w.heap.size ≤ gb125)); have n4_ := Aside0.mk ((by rw [hg]; exact (below_size (by repeat (first | (with_reducible first | exact HB.out | apply below_alloc | apply pw_below_drewN | apply below_drew1 | refine below_set ?_ GE124.out) | exact HB.out))) : w.heap.size ≤ gb125)); have n5_ := Aside0.mk ((by rw [hg]; exact Nat.ne_of_lt (blk_lt (g := gb124) (o := .cells #[.int .i64 a0_0, .int .i64 a0_1, .int .i64 a0_2, .int .i64 a0_3, .int .i64 a0_4, .int .i64 a0_5, .int .i64 a0_6, .int .i64 a0_7, .int .i64 a0_8, .int .i64 a0_9, .int .i64 a0_10] 39 (0, 0)) (by (with_reducible repeat (first | refine blk_drewN ?_ _ | refine blk_drew ?_ | refine blk_alloc ?_ _)); exact BK124.out)) : gb124 ≠ gb125)); have n6_ := Aside0.mk ((by rw [hg]; exact Nat.ne_of_gt (blk_lt (g := gb124) (o := .cells #[.int .i64 a0_0, .int .i64 a0_1, .int .i64 a0_2, .int .i64 a0_3, .int .i64 a0_4, .int .i64 a0_5, .int .i64 a0_6, .int .i64 a0_7, .int .i64 a0_8, .int .i64 a0_9, .int .i64 a0_10] 39 (0, 0)) (by (with_reducible repeat (first | refine blk_drewN ?_ _ | refine blk_drew ?_ | refine blk_alloc ?_ _)); exact BK124.out)) : gb125 ≠ gb124)); clear BK124; clear HB; have BK124 := n0_; have HB := n1_; have BK125 := n2_; have GW125 := n3_; have GE125 := n4_; have NB124_125 := n5_; have NB125_124 := n6_; clear n0_ n1_ n2_ n3_ n4_ n5_ n6_; clear hb hbox hg; have hnb32 := NB124_125.out; have hnc32 := NB125_124.out; have hcz33_0 : w31.cell? ⟨gb124, 0, none⟩ = some (.int .i64 a0_0) := (blk_cell BK124.out 0).trans rfl; have hcz33_1 : w31.cell? ⟨gb124, 1, none⟩ = some (.int .i64 a0_1) := (blk_cell BK124.out 1).trans rfl; have hcz33_2 : w31.cell? ⟨gb124, 2, none⟩ = some (.int .i64 a0_2) := (blk_cell BK124.out 2).trans rfl; have hcz33_3 : w31.cell? ⟨gb124, 3, none⟩ = some (.int .i64 a0_3) := (blk_cell BK124.out 3).trans rfl; have hcz33_4 : w31.cell? ⟨gb124, 4, none⟩ = some (.int .i64 a0_4) := (blk_cell BK124.out 4).trans rfl; have hcz33_5 : w31.cell? ⟨gb124, 5, none⟩ = some (.int .i64 a0_5) := (blk_cell BK124.out 5).trans rfl; have hcz33_6 : w31.cell? ⟨gb124, 6, none⟩ = some (.int .i64 a0_6) := (blk_cell BK124.out 6).trans rfl; have hcz33_7 : w31.cell? ⟨gb124, 7, none⟩ = some (.int .i64 a0_7) := (blk_cell BK124.out 7).trans rfl; have hcz33_8 : w31.cell? ⟨gb124, 8, none⟩ = some (.int .i64 a0_8) := (blk_cell BK124.out 8).trans rfl; have hcz33_9 : w31.cell? ⟨gb124, 9, none⟩ = some (.int .i64 a0_9) := (blk_cell BK124.out 9).trans rfl; have hcz33_10 : w31.cell? ⟨gb124, 10, none⟩ = some (.int .i64 a0_10) := (blk_cell BK124.out 10).trans rfl; have hfz33_0 := blk_frozen BK124.out 0; have hfz33_1 := blk_frozen BK124.out 1; have hfz33_2 := blk_frozen BK124.out 2; have hfz33_3 := blk_frozen BK124.out 3; have hfz33_4 := blk_frozen BK124.out 4; have hfz33_5 := blk_frozen BK124.out 5; have hfz33_6 := blk_frozen BK124.out 6; have hfz33_7 := blk_frozen BK124.out 7; have hfz33_8 := blk_frozen BK124.out 8; have hfz33_9 := blk_frozen BK124.out 9; have hfz33_10 := blk_frozen BK124.out 10) | ((with_reducible refine gate_callee (f := 24) rfl ?_); refine goesL_ (some 6) rfl rfl Tryd.func24 (by kernel_rfl) rfl #[.agg #[.int .i64 a0_0, .int .i64 a0_1, .int .i64 a0_2, .int .i64 a0_3, .int .i64 a0_4, .int .i64 a0_5, .int .i64 a0_6, .int .i64 a0_7, .int .i64 a0_8, .int .i64 a0_9, .int .i64 a0_10]] rfl (by (try simp only [List.map_toArray, List.map_cons, List.map_nil]); first | done | rfl | (simp only [List.length_drop, List.length_take]; rfl)) ?_; (with_reducible refine (statement_Valid.calls a0_0 a0_1 a0_2 a0_3 a0_4 a0_5 a0_6 a0_7 a0_8 a0_9 a0_10 true _ A3.out).mono ?_); rintro e w34 ⟨rfl, hb⟩; refine ⟨_, rfl, ?_⟩; have n0_ := Aside0.mk (blk_below (g := gb124) (o := .cells #[.int .i64 a0_0, .int .i64 a0_1, .int .i64 a0_2, .int .i64 a0_3, .int .i64 a0_4, .int .i64 a0_5, .int .i64 a0_6, .int .i64 a0_7, .int .i64 a0_8, .int .i64 a0_9, .int .i64 a0_10] 39 (0, 0)) (by (with_reducible repeat (first | refine blk_drewN ?_ _ | refine blk_drew ?_ | refine blk_alloc ?_ _)); exact BK124.out) hb); have n1_ := Aside0.mk (blk_below (g := gb125) (o := .cells #[.int .i64 a1_0, .int .i64 a1_1, .int .i64 a1_2, .int .i64 a1_3, .int .i64 a1_4, .int .i64 a1_5, .int .i64 a1_6, .int .i64 a1_7, .int .i64 a1_8, .int .i64 a1_9, .int .i64 a1_10] 39 (0, 0)) (by (with_reducible repeat (first | refine blk_drewN ?_ _ | refine blk_drew ?_ | refine blk_alloc ?_ _)); exact BK125.out) hb); have n2_ := Aside0.mk (below_step (by repeat (first | (with_reducible first | exact HB.out | apply below_alloc | apply pw_below_drewN | apply below_drew1 | refine below_set ?_ GE124.out | refine below_set ?_ GE125.out) | exact HB.out)) hb); clear BK124; clear BK125; clear HB; have BK124 := n0_; have BK125 := n1_; have HB := n2_; clear n0_ n1_ n2_; (try clear hb); (try clear hb2); (try clear hk); (try clear hi); have hcz35_0 : w34.cell? ⟨gb125, 0, none⟩ = some (.int .i64 a1_0) := (blk_cell BK125.out 0).trans rfl; have hcz35_1 : w34.cell? ⟨gb125, 1, none⟩ = some (.int .i64 a1_1) := (blk_cell BK125.out 1).trans rfl; have hcz35_2 : w34.cell? ⟨gb125, 2, none⟩ = some (.int .i64 a1_2) := (blk_cell BK125.out 2).trans rfl; have hcz35_3 : w34.cell? ⟨gb125, 3, none⟩ = some (.int .i64 a1_3) := (blk_cell BK125.out 3).trans rfl; have hcz35_4 : w34.cell? ⟨gb125, 4, none⟩ = some (.int .i64 a1_4) := (blk_cell BK125.out 4).trans rfl; have hcz35_5 : w34.cell? ⟨gb125, 5, none⟩ = some (.int .i64 a1_5) := (blk_cell BK125.out 5).trans rfl; have hcz35_6 : w34.cell? ⟨gb125, 6, none⟩ = some (.int .i64 a1_6) := (blk_cell BK125.out 6).trans rfl; have hcz35_7 : w34.cell? ⟨gb125, 7, none⟩ = some (.int .i64 a1_7) := (blk_cell BK125.out 7).trans rfl; have hcz35_8 : w34.cell? ⟨gb125, 8, none⟩ = some (.int .i64 a1_8) := (blk_cell BK125.out 8).trans rfl; have hcz35_9 : w34.cell? ⟨gb125, 9, none⟩ = some (.int .i64 a1_9) := (blk_cell BK125.out 9).trans rfl; have hcz35_10 : w34.cell? ⟨gb125, 10, none⟩ = some (.int .i64 a1_10) := (blk_cell BK125.out 10).trans rfl; have hfz35_0 := blk_frozen BK125.out 0; have hfz35_1 := blk_frozen BK125.out 1; have hfz35_2 := blk_frozen BK125.out 2; have hfz35_3 := blk_frozen BK125.out 3; have hfz35_4 := blk_frozen BK125.out 4; have hfz35_5 := blk_frozen BK125.out 5; have hfz35_6 := blk_frozen BK125.out 6; have hfz35_7 := blk_frozen BK125.out 7; have hfz35_8 := blk_frozen BK125.out 8; have hfz35_9 := blk_frozen BK125.out 9; have hfz35_10 := blk_frozen BK125.out 10) | (go_at_call 24; (with_reducible refine (statement_Valid.calls a1_0 a1_1 a1_2 a1_3 a1_4 a1_5 a1_6 a1_7 a1_8 a1_9 a1_10 true _ A5.out).mono ?_); rintro e w36 ⟨rfl, hb⟩; have n0_ := Aside0.mk (blk_below (g := gb124) (o := .cells #[.int .i64 a0_0, .int .i64 a0_1, .int .i64 a0_2, .int .i64 a0_3, .int .i64 a0_4, .int .i64 a0_5, .int .i64 a0_6, .int .i64 a0_7, .int .i64 a0_8, .int .i64 a0_9, .int .i64 a0_10] 39 (0, 0)) (by (with_reducible repeat (first | refine blk_drewN ?_ _ | refine blk_drew ?_ | refine blk_alloc ?_ _)); exact BK124.out) hb); have n1_ := Aside0.mk (blk_below (g := gb125) (o := .cells #[.int .i64 a1_0, .int .i64 a1_1, .int .i64 a1_2, .int .i64 a1_3, .int .i64 a1_4, .int .i64 a1_5, .int .i64 a1_6, .int .i64 a1_7, .int .i64 a1_8, .int .i64 a1_9, .int .i64 a1_10] 39 (0, 0)) (by (with_reducible repeat (first | refine blk_drewN ?_ _ | refine blk_drew ?_ | refine blk_alloc ?_ _)); exact BK125.out) hb); have n2_ := Aside0.mk (below_step (by repeat (first | (with_reducible first | exact HB.out | apply below_alloc | apply pw_below_drewN | apply below_drew1 | refine below_set ?_ GE124.out | refine below_set ?_ GE125.out) | exact HB.out)) hb); clear BK124; clear BK125; clear HB; have BK124 := n0_; have BK125 := n1_; have HB := n2_; clear n0_ n1_ n2_; (try clear hb); (try clear hb2); (try clear hk); (try clear hi); have hcz37_0 : w36.cell? ⟨gb124, 0, none⟩ = some (.int .i64 a0_0) := (blk_cell BK124.out 0).trans rfl; have hcz37_1 : w36.cell? ⟨gb124, 1, none⟩ = some (.int .i64 a0_1) := (blk_cell BK124.out 1).trans rfl; have hcz37_2 : w36.cell? ⟨gb124, 2, none⟩ = some (.int .i64 a0_2) := (blk_cell BK124.out 2).trans rfl; have hcz37_3 : w36.cell? ⟨gb124, 3, none⟩ = some (.int .i64 a0_3) := (blk_cell BK124.out 3).trans rfl; have hcz37_4 : w36.cell? ⟨gb124, 4, none⟩ = some (.int .i64 a0_4) := (blk_cell BK124.out 4).trans rfl; have hcz37_5 : w36.cell? ⟨gb124, 5, none⟩ = some (.int .i64 a0_5) := (blk_cell BK124.out 5).trans rfl; have hcz37_6 : w36.cell? ⟨gb124, 6, none⟩ = some (.int .i64 a0_6) := (blk_cell BK124.out 6).trans rfl; have hcz37_7 : w36.cell? ⟨gb124, 7, none⟩ = some (.int .i64 a0_7) := (blk_cell BK124.out 7).trans rfl; have hcz37_8 : w36.cell? ⟨gb124, 8, none⟩ = some (.int .i64 a0_8) := (blk_cell BK124.out 8).trans rfl; have hcz37_9 : w36.cell? ⟨gb124, 9, none⟩ = some (.int .i64 a0_9) := (blk_cell BK124.out 9).trans rfl; have hcz37_10 : w36.cell? ⟨gb124, 10, none⟩ = some (.int .i64 a0_10) := (blk_cell BK124.out 10).trans rfl; have hfz37_0 := blk_frozen BK124.out 0; have hfz37_1 := blk_frozen BK124.out 1; have hfz37_2 := blk_frozen BK124.out 2; have hfz37_3 := blk_frozen BK124.out 3; have hfz37_4 := blk_frozen BK124.out 4; have hfz37_5 := blk_frozen BK124.out 5; have hfz37_6 := blk_frozen BK124.out 6; have hfz37_7 := blk_frozen BK124.out 7; have hfz37_8 := blk_frozen BK124.out 8; have hfz37_9 := blk_frozen BK124.out 9; have hfz37_10 := blk_frozen BK124.out 10; have hcz38_0 : w36.cell? ⟨gb125, 0, none⟩ = some (.int .i64 a1_0) := (blk_cell BK125.out 0).trans rfl; have hcz38_1 : w36.cell? ⟨gb125, 1, none⟩ = some (.int .i64 a1_1) := (blk_cell BK125.out 1).trans rfl; have hcz38_2 : w36.cell? ⟨gb125, 2, none⟩ = some (.int .i64 a1_2) := (blk_cell BK125.out 2).trans rfl; have hcz38_3 : w36.cell? ⟨gb125, 3, none⟩ = some (.int .i64 a1_3) := (blk_cell BK125.out 3).trans rfl; have hcz38_4 : w36.cell? ⟨gb125, 4, none⟩ = some (.int .i64 a1_4) := (blk_cell BK125.out 4).trans rfl; have hcz38_5 : w36.cell? ⟨gb125, 5, none⟩ = some (.int .i64 a1_5) := (blk_cell BK125.out 5).trans rfl; have hcz38_6 : w36.cell? ⟨gb125, 6, none⟩ = some (.int .i64 a1_6) := (blk_cell BK125.out 6).trans rfl; have hcz38_7 : w36.cell? ⟨gb125, 7, none⟩ = some (.int .i64 a1_7) := (blk_cell BK125.out 7).trans rfl; have hcz38_8 : w36.cell? ⟨gb125, 8, none⟩ = some (.int .i64 a1_8) := (blk_cell BK125.out 8).trans rfl; have hcz38_9 : w36.cell? ⟨gb125, 9, none⟩ = some (.int .i64 a1_9) := (blk_cell BK125.out 9).trans rfl; have hcz38_10 : w36.cell? ⟨gb125, 10, none⟩ = some (.int .i64 a1_10) := (blk_cell BK125.out 10).trans rfl; have hfz38_0 := blk_frozen BK125.out 0; have hfz38_1 := blk_frozen BK125.out 1; have hfz38_2 := blk_frozen BK125.out 2; have hfz38_3 := blk_frozen BK125.out 3; have hfz38_4 := blk_frozen BK125.out 4; have hfz38_5 := blk_frozen BK125.out 5; have hfz38_6 := blk_frozen BK125.out 6; have hfz38_7 := blk_frozen BK125.out 7; have hfz38_8 := blk_frozen BK125.out 8; have hfz38_9 := blk_frozen BK125.out 9; have hfz38_10 := blk_frozen BK125.out 10))
          go_ret
          exact ⟨by first | rfl | (simp [errW_none, errW_some] <;> rfl) | (simp [*, errW_none, errW_some] <;> rfl), by repeat (first | (with_reducible first | exact HB.out | apply below_alloc | apply pw_below_drewN | apply below_drew1 | refine below_set ?_ GE124.out | refine below_set ?_ GE125.out) | exact HB.out)⟩
      · rw [if_neg c7] at H
        have c7b0 : (a0_0 == a1_0) = false := beq_eq_false_iff_ne.mpr c7
        have c7b1 : (a0_0 != a1_0) = true := bne_iff_ne.mpr c7
        obtain rfl := Option.some.inj H
        go_enter Tryd.func21, Tryd.ntmps21
        go_wp2_with (first | ((with_reducible refine gate_dst (N := 2) rfl ?_); refine box_event ?hg (N := 2) ?hd (cs := #[.int .i64 a0_0, .int .i64 a0_1, .int .i64 a0_2, .int .i64 a0_3, .int .i64 a0_4, .int .i64 a0_5, .int .i64 a0_6, .int .i64 a0_7, .int .i64 a0_8, .int .i64 a0_9, .int .i64 a0_10]) (t := 39) ?hr ?_; (case hd => rfl); (case hg => rfl); (case hr => first | (go_simp; done) | (go_simp; rfl)); intro gb124 hg w39 hbox hb; have n0_ := Aside0.mk (below_step (by repeat (first | (with_reducible first | exact HB.out | apply below_alloc | apply pw_below_drewN | apply below_drew1) | exact HB.out)) hb); have n1_ := Aside0.mk (hbox); have n2_ := Aside0.mk ((by rw [hg]; exact (below_size (by repeat (first | (with_reducible first | exact HB.out | apply below_alloc | apply pw_below_drewN | apply below_drew1) | exact HB.out))) : w.heap.size ≤ gb124)); have n3_ := Aside0.mk ((by rw [hg]; exact (below_size (by repeat (first | (with_reducible first | exact HB.out | apply below_alloc | apply pw_below_drewN | apply below_drew1) | exact HB.out))) : w.heap.size ≤ gb124)); clear HB; have HB := n0_; have BK124 := n1_; have GW124 := n2_; have GE124 := n3_; clear n0_ n1_ n2_ n3_; clear hb hbox hg) | ((with_reducible refine gate_dst (N := 3) rfl ?_); refine box_event ?hg (N := 3) ?hd (cs := #[.int .i64 a1_0, .int .i64 a1_1, .int .i64 a1_2, .int .i64 a1_3, .int .i64 a1_4, .int .i64 a1_5, .int .i64 a1_6, .int .i64 a1_7, .int .i64 a1_8, .int .i64 a1_9, .int .i64 a1_10]) (t := 39) ?hr ?_; (case hd => rfl); (case hg => rfl); (case hr => first | (go_simp; done) | (go_simp; rfl)); intro gb125 hg w40 hbox hb; have n0_ := Aside0.mk (blk_below (g := gb124) (o := .cells #[.int .i64 a0_0, .int .i64 a0_1, .int .i64 a0_2, .int .i64 a0_3, .int .i64 a0_4, .int .i64 a0_5, .int .i64 a0_6, .int .i64 a0_7, .int .i64 a0_8, .int .i64 a0_9, .int .i64 a0_10] 39 (0, 0)) (by (with_reducible repeat (first | refine blk_drewN ?_ _ | refine blk_drew ?_ | refine blk_alloc ?_ _)); exact BK124.out) hb); have n1_ := Aside0.mk (below_step (by repeat (first | (with_reducible first | exact HB.out | apply below_alloc | apply pw_below_drewN | apply below_drew1 | refine below_set ?_ GE124.out) | exact HB.out)) hb); have n2_ := Aside0.mk (hbox); have n3_ := Aside0.mk ((by rw [hg]; exact (below_size (by repeat (first | (with_reducible first | exact HB.out | apply below_alloc | apply pw_below_drewN | apply below_drew1 | refine below_set ?_ GE124.out) | exact HB.out))) : w.heap.size ≤ gb125)); have n4_ := Aside0.mk ((by rw [hg]; exact (below_size (by repeat (first | (with_reducible first | exact HB.out | apply below_alloc | apply pw_below_drewN | apply below_drew1 | refine below_set ?_ GE124.out) | exact HB.out))) : w.heap.size ≤ gb125)); have n5_ := Aside0.mk ((by rw [hg]; exact Nat.ne_of_lt (blk_lt (g := gb124) (o := .cells #[.int .i64 a0_0, .int .i64 a0_1, .int .i64 a0_2, .int .i64 a0_3, .int .i64 a0_4, .int .i64 a0_5, .int .i64 a0_6, .int .i64 a0_7, .int .i64 a0_8, .int .i64 a0_9, .int .i64 a0_10] 39 (0, 0)) (by (with_reducible repeat (first | refine blk_drewN ?_ _ | refine blk_drew ?_ | refine blk_alloc ?_ _)); exact BK124.out)) : gb124 ≠ gb125)); have n6_ := Aside0.mk ((by rw [hg]; exact Nat.ne_of_gt (blk_lt (g := gb124) (o := .cells #[.int .i64 a0_0, .int .i64 a0_1, .int .i64 a0_2, .int .i64 a0_3, .int .i64 a0_4, .int .i64 a0_5, .int .i64 a0_6, .int .i64 a0_7, .int .i64 a0_8, .int .i64 a0_9, .int .i64 a0_10] 39 (0, 0)) (by (with_reducible repeat (first | refine blk_drewN ?_ _ | refine blk_drew ?_ | refine blk_alloc ?_ _)); exact BK124.out)) : gb125 ≠ gb124)); clear BK124; clear HB; have BK124 := n0_; have HB := n1_; have BK125 := n2_; have GW125 := n3_; have GE125 := n4_; have NB124_125 := n5_; have NB125_124 := n6_; clear n0_ n1_ n2_ n3_ n4_ n5_ n6_; clear hb hbox hg; have hnb41 := NB124_125.out; have hnc41 := NB125_124.out; have hcz42_0 : w40.cell? ⟨gb124, 0, none⟩ = some (.int .i64 a0_0) := (blk_cell BK124.out 0).trans rfl; have hcz42_1 : w40.cell? ⟨gb124, 1, none⟩ = some (.int .i64 a0_1) := (blk_cell BK124.out 1).trans rfl; have hcz42_2 : w40.cell? ⟨gb124, 2, none⟩ = some (.int .i64 a0_2) := (blk_cell BK124.out 2).trans rfl; have hcz42_3 : w40.cell? ⟨gb124, 3, none⟩ = some (.int .i64 a0_3) := (blk_cell BK124.out 3).trans rfl; have hcz42_4 : w40.cell? ⟨gb124, 4, none⟩ = some (.int .i64 a0_4) := (blk_cell BK124.out 4).trans rfl; have hcz42_5 : w40.cell? ⟨gb124, 5, none⟩ = some (.int .i64 a0_5) := (blk_cell BK124.out 5).trans rfl; have hcz42_6 : w40.cell? ⟨gb124, 6, none⟩ = some (.int .i64 a0_6) := (blk_cell BK124.out 6).trans rfl; have hcz42_7 : w40.cell? ⟨gb124, 7, none⟩ = some (.int .i64 a0_7) := (blk_cell BK124.out 7).trans rfl; have hcz42_8 : w40.cell? ⟨gb124, 8, none⟩ = some (.int .i64 a0_8) := (blk_cell BK124.out 8).trans rfl; have hcz42_9 : w40.cell? ⟨gb124, 9, none⟩ = some (.int .i64 a0_9) := (blk_cell BK124.out 9).trans rfl; have hcz42_10 : w40.cell? ⟨gb124, 10, none⟩ = some (.int .i64 a0_10) := (blk_cell BK124.out 10).trans rfl; have hfz42_0 := blk_frozen BK124.out 0; have hfz42_1 := blk_frozen BK124.out 1; have hfz42_2 := blk_frozen BK124.out 2; have hfz42_3 := blk_frozen BK124.out 3; have hfz42_4 := blk_frozen BK124.out 4; have hfz42_5 := blk_frozen BK124.out 5; have hfz42_6 := blk_frozen BK124.out 6; have hfz42_7 := blk_frozen BK124.out 7; have hfz42_8 := blk_frozen BK124.out 8; have hfz42_9 := blk_frozen BK124.out 9; have hfz42_10 := blk_frozen BK124.out 10) | ((with_reducible refine gate_callee (f := 24) rfl ?_); refine goesL_ (some 6) rfl rfl Tryd.func24 (by kernel_rfl) rfl #[.agg #[.int .i64 a0_0, .int .i64 a0_1, .int .i64 a0_2, .int .i64 a0_3, .int .i64 a0_4, .int .i64 a0_5, .int .i64 a0_6, .int .i64 a0_7, .int .i64 a0_8, .int .i64 a0_9, .int .i64 a0_10]] rfl (by (try simp only [List.map_toArray, List.map_cons, List.map_nil]); first | done | rfl | (simp only [List.length_drop, List.length_take]; rfl)) ?_; (with_reducible refine (statement_Valid.calls a0_0 a0_1 a0_2 a0_3 a0_4 a0_5 a0_6 a0_7 a0_8 a0_9 a0_10 true _ A3.out).mono ?_); rintro e w43 ⟨rfl, hb⟩; refine ⟨_, rfl, ?_⟩; have n0_ := Aside0.mk (blk_below (g := gb124) (o := .cells #[.int .i64 a0_0, .int .i64 a0_1, .int .i64 a0_2, .int .i64 a0_3, .int .i64 a0_4, .int .i64 a0_5, .int .i64 a0_6, .int .i64 a0_7, .int .i64 a0_8, .int .i64 a0_9, .int .i64 a0_10] 39 (0, 0)) (by (with_reducible repeat (first | refine blk_drewN ?_ _ | refine blk_drew ?_ | refine blk_alloc ?_ _)); exact BK124.out) hb); have n1_ := Aside0.mk (blk_below (g := gb125) (o := .cells #[.int .i64 a1_0, .int .i64 a1_1, .int .i64 a1_2, .int .i64 a1_3, .int .i64 a1_4, .int .i64 a1_5, .int .i64 a1_6, .int .i64 a1_7, .int .i64 a1_8, .int .i64 a1_9, .int .i64 a1_10] 39 (0, 0)) (by (with_reducible repeat (first | refine blk_drewN ?_ _ | refine blk_drew ?_ | refine blk_alloc ?_ _)); exact BK125.out) hb); have n2_ := Aside0.mk (below_step (by repeat (first | (with_reducible first | exact HB.out | apply below_alloc | apply pw_below_drewN | apply below_drew1 | refine below_set ?_ GE124.out | refine below_set ?_ GE125.out) | exact HB.out)) hb); clear BK124; clear BK125; clear HB; have BK124 := n0_; have BK125 := n1_; have HB := n2_; clear n0_ n1_ n2_; (try clear hb); (try clear hb2); (try clear hk); (try clear hi); have hcz44_0 : w43.cell? ⟨gb125, 0, none⟩ = some (.int .i64 a1_0) := (blk_cell BK125.out 0).trans rfl; have hcz44_1 : w43.cell? ⟨gb125, 1, none⟩ = some (.int .i64 a1_1) := (blk_cell BK125.out 1).trans rfl; have hcz44_2 : w43.cell? ⟨gb125, 2, none⟩ = some (.int .i64 a1_2) := (blk_cell BK125.out 2).trans rfl; have hcz44_3 : w43.cell? ⟨gb125, 3, none⟩ = some (.int .i64 a1_3) := (blk_cell BK125.out 3).trans rfl; have hcz44_4 : w43.cell? ⟨gb125, 4, none⟩ = some (.int .i64 a1_4) := (blk_cell BK125.out 4).trans rfl; have hcz44_5 : w43.cell? ⟨gb125, 5, none⟩ = some (.int .i64 a1_5) := (blk_cell BK125.out 5).trans rfl; have hcz44_6 : w43.cell? ⟨gb125, 6, none⟩ = some (.int .i64 a1_6) := (blk_cell BK125.out 6).trans rfl; have hcz44_7 : w43.cell? ⟨gb125, 7, none⟩ = some (.int .i64 a1_7) := (blk_cell BK125.out 7).trans rfl; have hcz44_8 : w43.cell? ⟨gb125, 8, none⟩ = some (.int .i64 a1_8) := (blk_cell BK125.out 8).trans rfl; have hcz44_9 : w43.cell? ⟨gb125, 9, none⟩ = some (.int .i64 a1_9) := (blk_cell BK125.out 9).trans rfl; have hcz44_10 : w43.cell? ⟨gb125, 10, none⟩ = some (.int .i64 a1_10) := (blk_cell BK125.out 10).trans rfl; have hfz44_0 := blk_frozen BK125.out 0; have hfz44_1 := blk_frozen BK125.out 1; have hfz44_2 := blk_frozen BK125.out 2; have hfz44_3 := blk_frozen BK125.out 3; have hfz44_4 := blk_frozen BK125.out 4; have hfz44_5 := blk_frozen BK125.out 5; have hfz44_6 := blk_frozen BK125.out 6; have hfz44_7 := blk_frozen BK125.out 7; have hfz44_8 := blk_frozen BK125.out 8; have hfz44_9 := blk_frozen BK125.out 9; have hfz44_10 := blk_frozen BK125.out 10) | (go_at_call 24; (with_reducible refine (statement_Valid.calls a1_0 a1_1 a1_2 a1_3 a1_4 a1_5 a1_6 a1_7 a1_8 a1_9 a1_10 true _ A5.out).mono ?_); rintro e w45 ⟨rfl, hb⟩; have n0_ := Aside0.mk (blk_below (g := gb124) (o := .cells #[.int .i64 a0_0, .int .i64 a0_1, .int .i64 a0_2, .int .i64 a0_3, .int .i64 a0_4, .int .i64 a0_5, .int .i64 a0_6, .int .i64 a0_7, .int .i64 a0_8, .int .i64 a0_9, .int .i64 a0_10] 39 (0, 0)) (by (with_reducible repeat (first | refine blk_drewN ?_ _ | refine blk_drew ?_ | refine blk_alloc ?_ _)); exact BK124.out) hb); have n1_ := Aside0.mk (blk_below (g := gb125) (o := .cells #[.int .i64 a1_0, .int .i64 a1_1, .int .i64 a1_2, .int .i64 a1_3, .int .i64 a1_4, .int .i64 a1_5, .int .i64 a1_6, .int .i64 a1_7, .int .i64 a1_8, .int .i64 a1_9, .int .i64 a1_10] 39 (0, 0)) (by (with_reducible repeat (first | refine blk_drewN ?_ _ | refine blk_drew ?_ | refine blk_alloc ?_ _)); exact BK125.out) hb); have n2_ := Aside0.mk (below_step (by repeat (first | (with_reducible first | exact HB.out | apply below_alloc | apply pw_below_drewN | apply below_drew1 | refine below_set ?_ GE124.out | refine below_set ?_ GE125.out) | exact HB.out)) hb); clear BK124; clear BK125; clear HB; have BK124 := n0_; have BK125 := n1_; have HB := n2_; clear n0_ n1_ n2_; (try clear hb); (try clear hb2); (try clear hk); (try clear hi); have hcz46_0 : w45.cell? ⟨gb124, 0, none⟩ = some (.int .i64 a0_0) := (blk_cell BK124.out 0).trans rfl; have hcz46_1 : w45.cell? ⟨gb124, 1, none⟩ = some (.int .i64 a0_1) := (blk_cell BK124.out 1).trans rfl; have hcz46_2 : w45.cell? ⟨gb124, 2, none⟩ = some (.int .i64 a0_2) := (blk_cell BK124.out 2).trans rfl; have hcz46_3 : w45.cell? ⟨gb124, 3, none⟩ = some (.int .i64 a0_3) := (blk_cell BK124.out 3).trans rfl; have hcz46_4 : w45.cell? ⟨gb124, 4, none⟩ = some (.int .i64 a0_4) := (blk_cell BK124.out 4).trans rfl; have hcz46_5 : w45.cell? ⟨gb124, 5, none⟩ = some (.int .i64 a0_5) := (blk_cell BK124.out 5).trans rfl; have hcz46_6 : w45.cell? ⟨gb124, 6, none⟩ = some (.int .i64 a0_6) := (blk_cell BK124.out 6).trans rfl; have hcz46_7 : w45.cell? ⟨gb124, 7, none⟩ = some (.int .i64 a0_7) := (blk_cell BK124.out 7).trans rfl; have hcz46_8 : w45.cell? ⟨gb124, 8, none⟩ = some (.int .i64 a0_8) := (blk_cell BK124.out 8).trans rfl; have hcz46_9 : w45.cell? ⟨gb124, 9, none⟩ = some (.int .i64 a0_9) := (blk_cell BK124.out 9).trans rfl; have hcz46_10 : w45.cell? ⟨gb124, 10, none⟩ = some (.int .i64 a0_10) := (blk_cell BK124.out 10).trans rfl; have hfz46_0 := blk_frozen BK124.out 0; have hfz46_1 := blk_frozen BK124.out 1; have hfz46_2 := blk_frozen BK124.out 2; have hfz46_3 := blk_frozen BK124.out 3; have hfz46_4 := blk_frozen BK124.out 4; have hfz46_5 := blk_frozen BK124.out 5; have hfz46_6 := blk_frozen BK124.out 6; have hfz46_7 := blk_frozen BK124.out 7; have hfz46_8 := blk_frozen BK124.out 8; have hfz46_9 := blk_frozen BK124.out 9; have hfz46_10 := blk_frozen BK124.out 10; have hcz47_0 : w45.cell? ⟨gb125, 0, none⟩ = some (.int .i64 a1_0) := (blk_cell BK125.out 0).trans rfl; have hcz47_1 : w45.cell? ⟨gb125, 1, none⟩ = some (.int .i64 a1_1) := (blk_cell BK125.out 1).trans rfl; have hcz47_2 : w45.cell? ⟨gb125, 2, none⟩ = some (.int .i64 a1_2) := (blk_cell BK125.out 2).trans rfl; have hcz47_3 : w45.cell? ⟨gb125, 3, none⟩ = some (.int .i64 a1_3) := (blk_cell BK125.out 3).trans rfl; have hcz47_4 : w45.cell? ⟨gb125, 4, none⟩ = some (.int .i64 a1_4) := (blk_cell BK125.out 4).trans rfl; have hcz47_5 : w45.cell? ⟨gb125, 5, none⟩ = some (.int .i64 a1_5) := (blk_cell BK125.out 5).trans rfl; have hcz47_6 : w45.cell? ⟨gb125, 6, none⟩ = some (.int .i64 a1_6) := (blk_cell BK125.out 6).trans rfl; have hcz47_7 : w45.cell? ⟨gb125, 7, none⟩ = some (.int .i64 a1_7) := (blk_cell BK125.out 7).trans rfl; have hcz47_8 : w45.cell? ⟨gb125, 8, none⟩ = some (.int .i64 a1_8) := (blk_cell BK125.out 8).trans rfl; have hcz47_9 : w45.cell? ⟨gb125, 9, none⟩ = some (.int .i64 a1_9) := (blk_cell BK125.out 9).trans rfl; have hcz47_10 : w45.cell? ⟨gb125, 10, none⟩ = some (.int .i64 a1_10) := (blk_cell BK125.out 10).trans rfl; have hfz47_0 := blk_frozen BK125.out 0; have hfz47_1 := blk_frozen BK125.out 1; have hfz47_2 := blk_frozen BK125.out 2; have hfz47_3 := blk_frozen BK125.out 3; have hfz47_4 := blk_frozen BK125.out 4; have hfz47_5 := blk_frozen BK125.out 5; have hfz47_6 := blk_frozen BK125.out 6; have hfz47_7 := blk_frozen BK125.out 7; have hfz47_8 := blk_frozen BK125.out 8; have hfz47_9 := blk_frozen BK125.out 9; have hfz47_10 := blk_frozen BK125.out 10))
        go_ret
        exact ⟨by first | rfl | (simp [errW_none, errW_some] <;> rfl) | (simp [*, errW_none, errW_some] <;> rfl), by repeat (first | (with_reducible first | exact HB.out | apply below_alloc | apply pw_below_drewN | apply below_drew1 | refine below_set ?_ GE124.out | refine below_set ?_ GE125.out) | exact HB.out)⟩
    · replace c6 := Bool.eq_false_iff.mpr c6
      subst c6
      have H1 : (some false) = some r := by rw [if_neg (show ¬ (false = true) by decide)] at H; exact H
      clear H
      have H := H1
      clear H1
      obtain rfl := Option.some.inj H
      go_enter Tryd.func21, Tryd.ntmps21
      go_wp2_with (first | ((with_reducible refine gate_dst (N := 2) rfl ?_); refine box_event ?hg (N := 2) ?hd (cs := #[.int .i64 a0_0, .int .i64 a0_1, .int .i64 a0_2, .int .i64 a0_3, .int .i64 a0_4, .int .i64 a0_5, .int .i64 a0_6, .int .i64 a0_7, .int .i64 a0_8, .int .i64 a0_9, .int .i64 a0_10]) (t := 39) ?hr ?_; (case hd => rfl); (case hg => rfl); (case hr => first | (go_simp; done) | (go_simp; rfl)); intro gb124 hg w48 hbox hb; have n0_ := Aside0.mk (below_step (by repeat (first | (with_reducible first | exact HB.out | apply below_alloc | apply pw_below_drewN | apply below_drew1) | exact HB.out)) hb); have n1_ := Aside0.mk (hbox); have n2_ := Aside0.mk ((by rw [hg]; exact (below_size (by repeat (first | (with_reducible first | exact HB.out | apply below_alloc | apply pw_below_drewN | apply below_drew1) | exact HB.out))) : w.heap.size ≤ gb124)); have n3_ := Aside0.mk ((by rw [hg]; exact (below_size (by repeat (first | (with_reducible first | exact HB.out | apply below_alloc | apply pw_below_drewN | apply below_drew1) | exact HB.out))) : w.heap.size ≤ gb124)); clear HB; have HB := n0_; have BK124 := n1_; have GW124 := n2_; have GE124 := n3_; clear n0_ n1_ n2_ n3_; clear hb hbox hg) | ((with_reducible refine gate_dst (N := 3) rfl ?_); refine box_event ?hg (N := 3) ?hd (cs := #[.int .i64 a1_0, .int .i64 a1_1, .int .i64 a1_2, .int .i64 a1_3, .int .i64 a1_4, .int .i64 a1_5, .int .i64 a1_6, .int .i64 a1_7, .int .i64 a1_8, .int .i64 a1_9, .int .i64 a1_10]) (t := 39) ?hr ?_; (case hd => rfl); (case hg => rfl); (case hr => first | (go_simp; done) | (go_simp; rfl)); intro gb125 hg w49 hbox hb; have n0_ := Aside0.mk (blk_below (g := gb124) (o := .cells #[.int .i64 a0_0, .int .i64 a0_1, .int .i64 a0_2, .int .i64 a0_3, .int .i64 a0_4, .int .i64 a0_5, .int .i64 a0_6, .int .i64 a0_7, .int .i64 a0_8, .int .i64 a0_9, .int .i64 a0_10] 39 (0, 0)) (by (with_reducible repeat (first | refine blk_drewN ?_ _ | refine blk_drew ?_ | refine blk_alloc ?_ _)); exact BK124.out) hb); have n1_ := Aside0.mk (below_step (by repeat (first | (with_reducible first | exact HB.out | apply below_alloc | apply pw_below_drewN | apply below_drew1 | refine below_set ?_ GE124.out) | exact HB.out)) hb); have n2_ := Aside0.mk (hbox); have n3_ := Aside0.mk ((by rw [hg]; exact (below_size (by repeat (first | (with_reducible first | exact HB.out | apply below_alloc | apply pw_below_drewN | apply below_drew1 | refine below_set ?_ GE124.out) | exact HB.out))) : w.heap.size ≤ gb125)); have n4_ := Aside0.mk ((by rw [hg]; exact (below_size (by repeat (first | (with_reducible first | exact HB.out | apply below_alloc | apply pw_below_drewN | apply below_drew1 | refine below_set ?_ GE124.out) | exact HB.out))) : w.heap.size ≤ gb125)); have n5_ := Aside0.mk ((by rw [hg]; exact Nat.ne_of_lt (blk_lt (g := gb124) (o := .cells #[.int .i64 a0_0, .int .i64 a0_1, .int .i64 a0_2, .int .i64 a0_3, .int .i64 a0_4, .int .i64 a0_5, .int .i64 a0_6, .int .i64 a0_7, .int .i64 a0_8, .int .i64 a0_9, .int .i64 a0_10] 39 (0, 0)) (by (with_reducible repeat (first | refine blk_drewN ?_ _ | refine blk_drew ?_ | refine blk_alloc ?_ _)); exact BK124.out)) : gb124 ≠ gb125)); have n6_ := Aside0.mk ((by rw [hg]; exact Nat.ne_of_gt (blk_lt (g := gb124) (o := .cells #[.int .i64 a0_0, .int .i64 a0_1, .int .i64 a0_2, .int .i64 a0_3, .int .i64 a0_4, .int .i64 a0_5, .int .i64 a0_6, .int .i64 a0_7, .int .i64 a0_8, .int .i64 a0_9, .int .i64 a0_10] 39 (0, 0)) (by (with_reducible repeat (first | refine blk_drewN ?_ _ | refine blk_drew ?_ | refine blk_alloc ?_ _)); exact BK124.out)) : gb125 ≠ gb124)); clear BK124; clear HB; have BK124 := n0_; have HB := n1_; have BK125 := n2_; have GW125 := n3_; have GE125 := n4_; have NB124_125 := n5_; have NB125_124 := n6_; clear n0_ n1_ n2_ n3_ n4_ n5_ n6_; clear hb hbox hg; have hnb50 := NB124_125.out; have hnc50 := NB125_124.out; have hcz51_0 : w49.cell? ⟨gb124, 0, none⟩ = some (.int .i64 a0_0) := (blk_cell BK124.out 0).trans rfl; have hcz51_1 : w49.cell? ⟨gb124, 1, none⟩ = some (.int .i64 a0_1) := (blk_cell BK124.out 1).trans rfl; have hcz51_2 : w49.cell? ⟨gb124, 2, none⟩ = some (.int .i64 a0_2) := (blk_cell BK124.out 2).trans rfl; have hcz51_3 : w49.cell? ⟨gb124, 3, none⟩ = some (.int .i64 a0_3) := (blk_cell BK124.out 3).trans rfl; have hcz51_4 : w49.cell? ⟨gb124, 4, none⟩ = some (.int .i64 a0_4) := (blk_cell BK124.out 4).trans rfl; have hcz51_5 : w49.cell? ⟨gb124, 5, none⟩ = some (.int .i64 a0_5) := (blk_cell BK124.out 5).trans rfl; have hcz51_6 : w49.cell? ⟨gb124, 6, none⟩ = some (.int .i64 a0_6) := (blk_cell BK124.out 6).trans rfl; have hcz51_7 : w49.cell? ⟨gb124, 7, none⟩ = some (.int .i64 a0_7) := (blk_cell BK124.out 7).trans rfl; have hcz51_8 : w49.cell? ⟨gb124, 8, none⟩ = some (.int .i64 a0_8) := (blk_cell BK124.out 8).trans rfl; have hcz51_9 : w49.cell? ⟨gb124, 9, none⟩ = some (.int .i64 a0_9) := (blk_cell BK124.out 9).trans rfl; have hcz51_10 : w49.cell? ⟨gb124, 10, none⟩ = some (.int .i64 a0_10) := (blk_cell BK124.out 10).trans rfl; have hfz51_0 := blk_frozen BK124.out 0; have hfz51_1 := blk_frozen BK124.out 1; have hfz51_2 := blk_frozen BK124.out 2; have hfz51_3 := blk_frozen BK124.out 3; have hfz51_4 := blk_frozen BK124.out 4; have hfz51_5 := blk_frozen BK124.out 5; have hfz51_6 := blk_frozen BK124.out 6; have hfz51_7 := blk_frozen BK124.out 7; have hfz51_8 := blk_frozen BK124.out 8; have hfz51_9 := blk_frozen BK124.out 9; have hfz51_10 := blk_frozen BK124.out 10) | ((with_reducible refine gate_callee (f := 24) rfl ?_); refine goesL_ (some 6) rfl rfl Tryd.func24 (by kernel_rfl) rfl #[.agg #[.int .i64 a0_0, .int .i64 a0_1, .int .i64 a0_2, .int .i64 a0_3, .int .i64 a0_4, .int .i64 a0_5, .int .i64 a0_6, .int .i64 a0_7, .int .i64 a0_8, .int .i64 a0_9, .int .i64 a0_10]] rfl (by (try simp only [List.map_toArray, List.map_cons, List.map_nil]); first | done | rfl | (simp only [List.length_drop, List.length_take]; rfl)) ?_; (with_reducible refine (statement_Valid.calls a0_0 a0_1 a0_2 a0_3 a0_4 a0_5 a0_6 a0_7 a0_8 a0_9 a0_10 true _ A3.out).mono ?_); rintro e w52 ⟨rfl, hb⟩; refine ⟨_, rfl, ?_⟩; have n0_ := Aside0.mk (blk_below (g := gb124) (o := .cells #[.int .i64 a0_0, .int .i64 a0_1, .int .i64 a0_2, .int .i64 a0_3, .int .i64 a0_4, .int .i64 a0_5, .int .i64 a0_6, .int .i64 a0_7, .int .i64 a0_8, .int .i64 a0_9, .int .i64 a0_10] 39 (0, 0)) (by (with_reducible repeat (first | refine blk_drewN ?_ _ | refine blk_drew ?_ | refine blk_alloc ?_ _)); exact BK124.out) hb); have n1_ := Aside0.mk (blk_below (g := gb125) (o := .cells #[.int .i64 a1_0, .int .i64 a1_1, .int .i64 a1_2, .int .i64 a1_3, .int .i64 a1_4, .int .i64 a1_5, .int .i64 a1_6, .int .i64 a1_7, .int .i64 a1_8, .int .i64 a1_9, .int .i64 a1_10] 39 (0, 0)) (by (with_reducible repeat (first | refine blk_drewN ?_ _ | refine blk_drew ?_ | refine blk_alloc ?_ _)); exact BK125.out) hb); have n2_ := Aside0.mk (below_step (by repeat (first | (with_reducible first | exact HB.out | apply below_alloc | apply pw_below_drewN | apply below_drew1 | refine below_set ?_ GE124.out | refine below_set ?_ GE125.out) | exact HB.out)) hb); clear BK124; clear BK125; clear HB; have BK124 := n0_; have BK125 := n1_; have HB := n2_; clear n0_ n1_ n2_; (try clear hb); (try clear hb2); (try clear hk); (try clear hi); have hcz53_0 : w52.cell? ⟨gb125, 0, none⟩ = some (.int .i64 a1_0) := (blk_cell BK125.out 0).trans rfl; have hcz53_1 : w52.cell? ⟨gb125, 1, none⟩ = some (.int .i64 a1_1) := (blk_cell BK125.out 1).trans rfl; have hcz53_2 : w52.cell? ⟨gb125, 2, none⟩ = some (.int .i64 a1_2) := (blk_cell BK125.out 2).trans rfl; have hcz53_3 : w52.cell? ⟨gb125, 3, none⟩ = some (.int .i64 a1_3) := (blk_cell BK125.out 3).trans rfl; have hcz53_4 : w52.cell? ⟨gb125, 4, none⟩ = some (.int .i64 a1_4) := (blk_cell BK125.out 4).trans rfl; have hcz53_5 : w52.cell? ⟨gb125, 5, none⟩ = some (.int .i64 a1_5) := (blk_cell BK125.out 5).trans rfl; have hcz53_6 : w52.cell? ⟨gb125, 6, none⟩ = some (.int .i64 a1_6) := (blk_cell BK125.out 6).trans rfl; have hcz53_7 : w52.cell? ⟨gb125, 7, none⟩ = some (.int .i64 a1_7) := (blk_cell BK125.out 7).trans rfl; have hcz53_8 : w52.cell? ⟨gb125, 8, none⟩ = some (.int .i64 a1_8) := (blk_cell BK125.out 8).trans rfl; have hcz53_9 : w52.cell? ⟨gb125, 9, none⟩ = some (.int .i64 a1_9) := (blk_cell BK125.out 9).trans rfl; have hcz53_10 : w52.cell? ⟨gb125, 10, none⟩ = some (.int .i64 a1_10) := (blk_cell BK125.out 10).trans rfl; have hfz53_0 := blk_frozen BK125.out 0; have hfz53_1 := blk_frozen BK125.out 1; have hfz53_2 := blk_frozen BK125.out 2; have hfz53_3 := blk_frozen BK125.out 3; have hfz53_4 := blk_frozen BK125.out 4; have hfz53_5 := blk_frozen BK125.out 5; have hfz53_6 := blk_frozen BK125.out 6; have hfz53_7 := blk_frozen BK125.out 7; have hfz53_8 := blk_frozen BK125.out 8; have hfz53_9 := blk_frozen BK125.out 9; have hfz53_10 := blk_frozen BK125.out 10) | (go_at_call 24; (with_reducible refine (statement_Valid.calls a1_0 a1_1 a1_2 a1_3 a1_4 a1_5 a1_6 a1_7 a1_8 a1_9 a1_10 false _ A5.out).mono ?_); rintro e w54 ⟨rfl, hb⟩; have n0_ := Aside0.mk (blk_below (g := gb124) (o := .cells #[.int .i64 a0_0, .int .i64 a0_1, .int .i64 a0_2, .int .i64 a0_3, .int .i64 a0_4, .int .i64 a0_5, .int .i64 a0_6, .int .i64 a0_7, .int .i64 a0_8, .int .i64 a0_9, .int .i64 a0_10] 39 (0, 0)) (by (with_reducible repeat (first | refine blk_drewN ?_ _ | refine blk_drew ?_ | refine blk_alloc ?_ _)); exact BK124.out) hb); have n1_ := Aside0.mk (blk_below (g := gb125) (o := .cells #[.int .i64 a1_0, .int .i64 a1_1, .int .i64 a1_2, .int .i64 a1_3, .int .i64 a1_4, .int .i64 a1_5, .int .i64 a1_6, .int .i64 a1_7, .int .i64 a1_8, .int .i64 a1_9, .int .i64 a1_10] 39 (0, 0)) (by (with_reducible repeat (first | refine blk_drewN ?_ _ | refine blk_drew ?_ | refine blk_alloc ?_ _)); exact BK125.out) hb); have n2_ := Aside0.mk (below_step (by repeat (first | (with_reducible first | exact HB.out | apply below_alloc | apply pw_below_drewN | apply below_drew1 | refine below_set ?_ GE124.out | refine below_set ?_ GE125.out) | exact HB.out)) hb); clear BK124; clear BK125; clear HB; have BK124 := n0_; have BK125 := n1_; have HB := n2_; clear n0_ n1_ n2_; (try clear hb); (try clear hb2); (try clear hk); (try clear hi)))
      go_ret
      exact ⟨by first | rfl | (simp [errW_none, errW_some] <;> rfl) | (simp [*, errW_none, errW_some] <;> rfl), by repeat (first | (with_reducible first | exact HB.out | apply below_alloc | apply pw_below_drewN | apply below_drew1 | refine below_set ?_ GE124.out | refine below_set ?_ GE125.out) | exact HB.out)⟩
  · replace c4 := Bool.eq_false_iff.mpr c4
    subst c4
    have H1 : (some false) = some r := by rw [if_neg (show ¬ (false = true) by decide)] at H; exact H
    clear H
    have H := H1
    clear H1
    obtain rfl := Option.some.inj H
    go_enter Tryd.func21, Tryd.ntmps21
    go_wp2_with (first | ((with_reducible refine gate_dst (N := 2) rfl ?_); refine box_event ?hg (N := 2) ?hd (cs := #[.int .i64 a0_0, .int .i64 a0_1, .int .i64 a0_2, .int .i64 a0_3, .int .i64 a0_4, .int .i64 a0_5, .int .i64 a0_6, .int .i64 a0_7, .int .i64 a0_8, .int .i64 a0_9, .int .i64 a0_10]) (t := 39) ?hr ?_; (case hd => rfl); (case hg => rfl); (case hr => first | (go_simp; done) | (go_simp; rfl)); intro gb124 hg w55 hbox hb; have n0_ := Aside0.mk (below_step (by repeat (first | (with_reducible first | exact HB.out | apply below_alloc | apply pw_below_drewN | apply below_drew1) | exact HB.out)) hb); have n1_ := Aside0.mk (hbox); have n2_ := Aside0.mk ((by rw [hg]; exact (below_size (by repeat (first | (with_reducible first | exact HB.out | apply below_alloc | apply pw_below_drewN | apply below_drew1) | exact HB.out))) : w.heap.size ≤ gb124)); have n3_ := Aside0.mk ((by rw [hg]; exact (below_size (by repeat (first | (with_reducible first | exact HB.out | apply below_alloc | apply pw_below_drewN | apply below_drew1) | exact HB.out))) : w.heap.size ≤ gb124)); clear HB; have HB := n0_; have BK124 := n1_; have GW124 := n2_; have GE124 := n3_; clear n0_ n1_ n2_ n3_; clear hb hbox hg) | ((with_reducible refine gate_dst (N := 3) rfl ?_); refine box_event ?hg (N := 3) ?hd (cs := #[.int .i64 a1_0, .int .i64 a1_1, .int .i64 a1_2, .int .i64 a1_3, .int .i64 a1_4, .int .i64 a1_5, .int .i64 a1_6, .int .i64 a1_7, .int .i64 a1_8, .int .i64 a1_9, .int .i64 a1_10]) (t := 39) ?hr ?_; (case hd => rfl); (case hg => rfl); (case hr => first | (go_simp; done) | (go_simp; rfl)); intro gb125 hg w56 hbox hb; have n0_ := Aside0.mk (blk_below (g := gb124) (o := .cells #[.int .i64 a0_0, .int .i64 a0_1, .int .i64 a0_2, .int .i64 a0_3, .int .i64 a0_4, .int .i64 a0_5, .int .i64 a0_6, .int .i64 a0_7, .int .i64 a0_8, .int .i64 a0_9, .int .i64 a0_10] 39 (0, 0)) (by (with_reducible repeat (first | refine blk_drewN ?_ _ | refine blk_drew ?_ | refine blk_alloc ?_ _)); exact BK124.out) hb); have n1_ := Aside0.mk (below_step (by repeat (first | (with_reducible first | exact HB.out | apply below_alloc | apply pw_below_drewN | apply below_drew1 | refine below_set ?_ GE124.out) | exact HB.out)) hb); have n2_ := Aside0.mk (hbox); have n3_ := Aside0.mk ((by rw [hg]; exact (below_size (by repeat (first | (with_reducible first | exact HB.out | apply below_alloc | apply pw_below_drewN | apply below_drew1 | refine below_set ?_ GE124.out) | exact HB.out))) : w.heap.size ≤ gb125)); have n4_ := Aside0.mk ((by rw [hg]; exact (below_size (by repeat (first | (with_reducible first | exact HB.out | apply below_alloc | apply pw_below_drewN | apply below_drew1 | refine below_set ?_ GE124.out) | exact HB.out))) : w.heap.size ≤ gb125)); have n5_ := Aside0.mk ((by rw [hg]; exact Nat.ne_of_lt (blk_lt (g := gb124) (o := .cells #[.int .i64 a0_0, .int .i64 a0_1, .int .i64 a0_2, .int .i64 a0_3, .int .i64 a0_4, .int .i64 a0_5, .int .i64 a0_6, .int .i64 a0_7, .int .i64 a0_8, .int .i64 a0_9, .int .i64 a0_10] 39 (0, 0)) (by (with_reducible repeat (first | refine blk_drewN ?_ _ | refine blk_drew ?_ | refine blk_alloc ?_ _)); exact BK124.out)) : gb124 ≠ gb125)); have n6_ := Aside0.mk ((by rw [hg]; exact Nat.ne_of_gt (blk_lt (g := gb124) (o := .cells #[.int .i64 a0_0, .int .i64 a0_1, .int .i64 a0_2, .int .i64 a0_3, .int .i64 a0_4, .int .i64 a0_5, .int .i64 a0_6, .int .i64 a0_7, .int .i64 a0_8, .int .i64 a0_9, .int .i64 a0_10] 39 (0, 0)) (by (with_reducible repeat (first | refine blk_drewN ?_ _ | refine blk_drew ?_ | refine blk_alloc ?_ _)); exact BK124.out)) : gb125 ≠ gb124)); clear BK124; clear HB; have BK124 := n0_; have HB := n1_; have BK125 := n2_; have GW125 := n3_; have GE125 := n4_; have NB124_125 := n5_; have NB125_124 := n6_; clear n0_ n1_ n2_ n3_ n4_ n5_ n6_; clear hb hbox hg; have hnb57 := NB124_125.out; have hnc57 := NB125_124.out; have hcz58_0 : w56.cell? ⟨gb124, 0, none⟩ = some (.int .i64 a0_0) := (blk_cell BK124.out 0).trans rfl; have hcz58_1 : w56.cell? ⟨gb124, 1, none⟩ = some (.int .i64 a0_1) := (blk_cell BK124.out 1).trans rfl; have hcz58_2 : w56.cell? ⟨gb124, 2, none⟩ = some (.int .i64 a0_2) := (blk_cell BK124.out 2).trans rfl; have hcz58_3 : w56.cell? ⟨gb124, 3, none⟩ = some (.int .i64 a0_3) := (blk_cell BK124.out 3).trans rfl; have hcz58_4 : w56.cell? ⟨gb124, 4, none⟩ = some (.int .i64 a0_4) := (blk_cell BK124.out 4).trans rfl; have hcz58_5 : w56.cell? ⟨gb124, 5, none⟩ = some (.int .i64 a0_5) := (blk_cell BK124.out 5).trans rfl; have hcz58_6 : w56.cell? ⟨gb124, 6, none⟩ = some (.int .i64 a0_6) := (blk_cell BK124.out 6).trans rfl; have hcz58_7 : w56.cell? ⟨gb124, 7, none⟩ = some (.int .i64 a0_7) := (blk_cell BK124.out 7).trans rfl; have hcz58_8 : w56.cell? ⟨gb124, 8, none⟩ = some (.int .i64 a0_8) := (blk_cell BK124.out 8).trans rfl; have hcz58_9 : w56.cell? ⟨gb124, 9, none⟩ = some (.int .i64 a0_9) := (blk_cell BK124.out 9).trans rfl; have hcz58_10 : w56.cell? ⟨gb124, 10, none⟩ = some (.int .i64 a0_10) := (blk_cell BK124.out 10).trans rfl; have hfz58_0 := blk_frozen BK124.out 0; have hfz58_1 := blk_frozen BK124.out 1; have hfz58_2 := blk_frozen BK124.out 2; have hfz58_3 := blk_frozen BK124.out 3; have hfz58_4 := blk_frozen BK124.out 4; have hfz58_5 := blk_frozen BK124.out 5; have hfz58_6 := blk_frozen BK124.out 6; have hfz58_7 := blk_frozen BK124.out 7; have hfz58_8 := blk_frozen BK124.out 8; have hfz58_9 := blk_frozen BK124.out 9; have hfz58_10 := blk_frozen BK124.out 10) | ((with_reducible refine gate_callee (f := 24) rfl ?_); refine goesL_ (some 6) rfl rfl Tryd.func24 (by kernel_rfl) rfl #[.agg #[.int .i64 a0_0, .int .i64 a0_1, .int .i64 a0_2, .int .i64 a0_3, .int .i64 a0_4, .int .i64 a0_5, .int .i64 a0_6, .int .i64 a0_7, .int .i64 a0_8, .int .i64 a0_9, .int .i64 a0_10]] rfl (by (try simp only [List.map_toArray, List.map_cons, List.map_nil]); first | done | rfl | (simp only [List.length_drop, List.length_take]; rfl)) ?_; (with_reducible refine (statement_Valid.calls a0_0 a0_1 a0_2 a0_3 a0_4 a0_5 a0_6 a0_7 a0_8 a0_9 a0_10 false _ A3.out).mono ?_); rintro e w59 ⟨rfl, hb⟩; refine ⟨_, rfl, ?_⟩; have n0_ := Aside0.mk (blk_below (g := gb124) (o := .cells #[.int .i64 a0_0, .int .i64 a0_1, .int .i64 a0_2, .int .i64 a0_3, .int .i64 a0_4, .int .i64 a0_5, .int .i64 a0_6, .int .i64 a0_7, .int .i64 a0_8, .int .i64 a0_9, .int .i64 a0_10] 39 (0, 0)) (by (with_reducible repeat (first | refine blk_drewN ?_ _ | refine blk_drew ?_ | refine blk_alloc ?_ _)); exact BK124.out) hb); have n1_ := Aside0.mk (blk_below (g := gb125) (o := .cells #[.int .i64 a1_0, .int .i64 a1_1, .int .i64 a1_2, .int .i64 a1_3, .int .i64 a1_4, .int .i64 a1_5, .int .i64 a1_6, .int .i64 a1_7, .int .i64 a1_8, .int .i64 a1_9, .int .i64 a1_10] 39 (0, 0)) (by (with_reducible repeat (first | refine blk_drewN ?_ _ | refine blk_drew ?_ | refine blk_alloc ?_ _)); exact BK125.out) hb); have n2_ := Aside0.mk (below_step (by repeat (first | (with_reducible first | exact HB.out | apply below_alloc | apply pw_below_drewN | apply below_drew1 | refine below_set ?_ GE124.out | refine below_set ?_ GE125.out) | exact HB.out)) hb); clear BK124; clear BK125; clear HB; have BK124 := n0_; have BK125 := n1_; have HB := n2_; clear n0_ n1_ n2_; (try clear hb); (try clear hb2); (try clear hk); (try clear hi)))
    go_ret
    exact ⟨by first | rfl | (simp [errW_none, errW_some] <;> rfl) | (simp [*, errW_none, errW_some] <;> rfl), by repeat (first | (with_reducible first | exact HB.out | apply below_alloc | apply pw_below_drewN | apply below_drew1 | refine below_set ?_ GE124.out | refine below_set ?_ GE125.out) | exact HB.out)⟩
end Go.Proofs.YtcalkhlchjjalaaDoor.Q

namespace Go.Proofs.YtcalkhlchjjalaaDoor.Q
open Go Go.RowKit Go.Proofs Go.Proofs.YtcalkhlchjjalaaDoor.Gm Go.Proofs.YtcalkhlchjjalaaDoor.Gdm Go.Proofs.YtcalkhlchjjalaaDoor.Gmr Go.Proofs.YtcalkhlchjjalaaDoor.Gsy Go.Proofs.YtcalkhlchjjalaaDoor.Gnx Go.Proofs.YtcalkhlchjjalaaDoor.Gck Go.Proofs.YtcalkhlchjjalaaDoor.Ggd Go.Proofs.YtcalkhlchjjalaaDoorW.PrintWords Go.Proofs.YtcalkhlchjjalaaDoorW.PrintLast Go.Proofs.YtcalkhlchjjalaaDoorW.PrintMore
set_option linter.unusedVariables false
def sm1 : Int := mk_ 7 (bts ⟨1, 2, 1, 0, 5, 1, 3, 9, 10, 8, 0⟩)
def sA : S39 := ⟨1, 2, 1, 0, 5, 1, 3, 9, 10, 8, sm1⟩
def sdg : Int := dg 1 (bts sA)
def sm2 : Int := mk_ 7 (bts ⟨1, 2, 2, sdg, 6, 3, 3, 0, 0, 0, 0⟩)
def sB : S39 := ⟨1, 2, 2, sdg, 6, 3, 3, 0, 0, 0, sm2⟩
def sP : List S25 := [⟨1, 7⟩]
theorem n1_ok : nxt [] 1 7 2 5 1 3 9 10 8 = (sA, 0) := by
  unfold nxt
  rw [if_neg (by decide), if_neg (by decide), if_neg (by simp)]
  show fin 1 7 2 1 0 5 1 3 9 10 8 = _
  unfold fin
  rw [if_pos (by decide)]
  rfl
theorem n2_ok : nxt [sA] 1 7 2 6 3 3 0 0 0 = (sB, 0) := by
  have hr := dg_range (bts sA) 1 (by omega)
  have hd : 0 ≤ sdg ∧ sdg < 2147483647 := hr
  unfold nxt
  rw [if_neg (by decide), if_neg (by decide), if_neg (by rintro ⟨s, hs, h⟩; rw [List.mem_singleton.1 hs] at h; revert h; unfold sA; simp)]
  show (if (6 : Int) < sA.f4 then _ else fin 1 7 2 2 sdg 6 3 3 0 0 0) = _
  rw [if_neg (by unfold sA; simp only; omega)]
  unfold fin
  rw [if_pos ((vldS_iff _).2 ⟨by simp only; omega, by simp only; omega, by simp, by simp only; omega, by simp only; omega, ⟨by simp only; omega, by simp only; omega⟩, .inl (by simp only; omega), by simp only; omega, by simp only; omega, by simp only; omega, by decide⟩)]
  rfl
theorem i64_ {x : Int} (h : -1000000 ≤ x ∧ x ≤ 1000000) : I64 x := by unfold I64; omega
theorem g1_ok : Gd 1 7 2 [sA] := (Gd.nil 1 7 2).snoc n1_ok (i64_ (by omega)) (i64_ (by omega)) (i64_ (by omega)) (i64_ (by omega)) (i64_ (by omega)) (i64_ (by omega)) (i64_ (by omega)) (i64_ (by omega))
theorem g2_ok : Gd 1 7 2 [sA, sB] := g1_ok.snoc n2_ok (i64_ (by omega)) (i64_ (by omega)) (i64_ (by omega)) (i64_ (by omega)) (i64_ (by omega)) (i64_ (by omega)) (i64_ (by omega)) (i64_ (by omega))
theorem hP : Holds sP 1 7 := ⟨by decide, by decide, by decide⟩
theorem sP_wf : sP.all (fun p => (Lit.int .i64 p.f1).wf) = true := by decide
theorem wA : W64 sA := g1_ok.w64 sA (by simp)
theorem wB : W64 sB := g2_ok.w64 sB (by simp)
theorem vA : vldS sA = true := (g2_ok 0 (by simp)).v
theorem vB : vldS sB = true := (g2_ok 1 (by simp)).v
section
variable (w : World)
theorem next1_x (hG : GL w) : Calls Tryd.prog 14 #[.slice none 0 0, .agg #[.int .i64 1, .int .i64 7], .int .i64 2, .int .i64 5, .int .i64 1, .int .i64 3, .int .i64 9, .int .i64 10, .int .i64 8] w fun e w' =>
    e = .returned (.tuple #[.agg #[.int .i64 1, .int .i64 2, .int .i64 1, .int .i64 0, .int .i64 5, .int .i64 1, .int .i64 3, .int .i64 9, .int .i64 10, .int .i64 8, .int .i64 sm1], .int .i64 0]) ∧ Below w.heap.size w w' :=
  next_x none 0 [] 1 7 2 5 1 3 9 10 8 w (Kd.C_nil _ _) (Nat.le_refl _) hG (by simp) (i64_ (by omega)) (i64_ (by omega)) (i64_ (by omega)) (i64_ (by omega)) (i64_ (by omega)) (i64_ (by omega)) (i64_ (by omega)) (i64_ (by omega)) sA 0 n1_ok
theorem next2_x (A : Option Addr) (hC : Kd.C k39 w A 1 [sA]) (hG : GL w) : Calls Tryd.prog 14 #[.slice A 1 1, .agg #[.int .i64 1, .int .i64 7], .int .i64 2, .int .i64 6, .int .i64 3, .int .i64 3, .int .i64 0, .int .i64 0, .int .i64 0] w fun e w' =>
    e = .returned (.tuple #[.agg #[.int .i64 1, .int .i64 2, .int .i64 2, .int .i64 sdg, .int .i64 6, .int .i64 3, .int .i64 3, .int .i64 0, .int .i64 0, .int .i64 0, .int .i64 sm2], .int .i64 0]) ∧ Below w.heap.size w w' :=
  next_x A 1 [sA] 1 7 2 6 3 3 0 0 0 w hC (Nat.le_refl _) hG (fun s hs => by rw [List.mem_singleton.1 hs]; exact wA) (i64_ (by omega)) (i64_ (by omega)) (i64_ (by omega)) (i64_ (by omega)) (i64_ (by omega)) (i64_ (by omega)) (i64_ (by omega)) (i64_ (by omega)) sB 0 n2_ok
theorem bytesA_x : Calls Tryd.prog 25 #[.agg #[.int .i64 1, .int .i64 2, .int .i64 1, .int .i64 0, .int .i64 5, .int .i64 1, .int .i64 3, .int .i64 9, .int .i64 10, .int .i64 8, .int .i64 sm1]] w fun e w' => e = .returned (.string (B (bts sA))) ∧ Below w.heap.size w w' := bytes_x 1 2 1 0 5 1 3 9 10 8 sm1 wA w
theorem sumA_x : Calls Tryd.prog 26 #[.string (B (bts sA))] w fun e w' => e = .returned (.int .i64 sdg) ∧ Below w.heap.size w w' := sum_x _ (Nat.le_trans (bts_len wA) (by omega)) w
theorem check2_x (A9 A0 : Option Addr) (h9 : Kd.C k25 w A9 1 sP) (h0 : Kd.C k39 w A0 2 [sA, sB]) (hG : GL w) : Calls Tryd.prog 18 #[.slice A9 1 1, .slice A0 2 2] w fun e w' => e = .returned (.int .i64 0) ∧ Below w.heap.size w w' :=
  check_x A9 1 sP A0 2 [sA, sB] w h9 (Nat.le_refl _) h0 (Nat.le_refl _) hG sP_wf g2_ok.w64 0 (g2_ok.chk hP (by decide))
theorem verB_x (A9 : Option Addr) (h9 : Kd.C k25 w A9 1 sP) (hG : GL w) : Calls Tryd.prog 20 #[.slice A9 1 1, .agg #[.int .i64 1, .int .i64 2, .int .i64 2, .int .i64 sdg, .int .i64 6, .int .i64 3, .int .i64 3, .int .i64 0, .int .i64 0, .int .i64 0, .int .i64 sm2]] w fun e w' => e = .returned (.bool true) ∧ Below w.heap.size w w' :=
  statement_Verified.calls 200 A9 1 sP 1 2 2 sdg 6 3 3 0 0 0 sm2 true w h9 (Nat.le_refl _) (by have h := Verified_eq sP sP_wf sB wB 200 (Nat.le_refl _); rw [verS_ok hP vB rfl rfl] at h; exact h) hG
theorem con_x (hG : GL w) : Calls Tryd.prog 21 #[.agg #[.int .i64 1, .int .i64 2, .int .i64 1, .int .i64 0, .int .i64 5, .int .i64 1, .int .i64 3, .int .i64 9, .int .i64 10, .int .i64 8, .int .i64 sm1], .agg #[.int .i64 1, .int .i64 2, .int .i64 2, .int .i64 sdg, .int .i64 6, .int .i64 3, .int .i64 3, .int .i64 0, .int .i64 0, .int .i64 0, .int .i64 sm2]] w fun e w' => e = .returned (.bool false) ∧ Below w.heap.size w w' :=
  statement_Contradict.calls 1 2 1 0 5 1 3 9 10 8 sm1 1 2 2 sdg 6 3 3 0 0 0 sm2 false w (by
    unfold statement_Contradict.f statement_Valid.f
    rw [Option.bind_some, if_pos (show vldB 1 2 1 0 5 1 3 9 10 8 sm1 = true from vA), Option.bind_some, if_pos (show vldB 1 2 2 sdg 6 3 3 0 0 0 sm2 = true from vB), if_pos rfl, if_pos rfl, if_neg (by decide)]) hG
theorem same_x : Calls Tryd.prog 23 #[.agg #[.int .i64 1, .int .i64 2, .int .i64 1, .int .i64 0, .int .i64 5, .int .i64 1, .int .i64 3, .int .i64 9, .int .i64 10, .int .i64 8, .int .i64 sm1], .agg #[.int .i64 1, .int .i64 2, .int .i64 1, .int .i64 0, .int .i64 5, .int .i64 1, .int .i64 3, .int .i64 9, .int .i64 10, .int .i64 8, .int .i64 sm1]] w fun e w' => e = .returned (.bool true) ∧ Below w.heap.size w w' :=
  statement_Same.calls 1 2 1 0 5 1 3 9 10 8 sm1 1 2 1 0 5 1 3 9 10 8 sm1 true w (by unfold statement_Same.f; rfl)
end
theorem repsA (W : World) : Reps ((k39).K W) (k39).sz [sA] [.int .i64 1, .int .i64 2, .int .i64 1, .int .i64 0, .int .i64 5, .int .i64 1, .int .i64 3, .int .i64 9, .int .i64 10, .int .i64 8, .int .i64 sm1] := Reps.front (k39_mk W sA) rfl (Reps.none _ _) rfl
theorem repsAB (W : World) : Reps ((k39).K W) (k39).sz [sA, sB] [.int .i64 1, .int .i64 2, .int .i64 1, .int .i64 0, .int .i64 5, .int .i64 1, .int .i64 3, .int .i64 9, .int .i64 10, .int .i64 8, .int .i64 sm1, .int .i64 1, .int .i64 2, .int .i64 2, .int .i64 sdg, .int .i64 6, .int .i64 3, .int .i64 3, .int .i64 0, .int .i64 0, .int .i64 0, .int .i64 sm2] := Reps.front (k39_mk W sA) rfl (Reps.front (k39_mk W sB) rfl (Reps.none _ _) rfl) rfl
theorem repsP (W : World) : Reps ((k25).K W) (k25).sz sP [.int .i64 1, .int .i64 7] := Reps.front (k25_mk W ⟨1, 7⟩) rfl (Reps.none _ _) rfl
/-- What the last statement of the check reads. -/
structure SnAll (w : World) (ga gb gp : Nat) (W : World) : Prop where
  hb : Below w.heap.size w W
  a : W.heap[ga]? = some (.cells #[.int .i64 1, .int .i64 2, .int .i64 1, .int .i64 0, .int .i64 5, .int .i64 1, .int .i64 3, .int .i64 9, .int .i64 10, .int .i64 8, .int .i64 sm1] 39 (0, 0))
  b : W.heap[gb]? = some (.cells #[.int .i64 1, .int .i64 2, .int .i64 2, .int .i64 sdg, .int .i64 6, .int .i64 3, .int .i64 3, .int .i64 0, .int .i64 0, .int .i64 0, .int .i64 sm2] 39 (0, 0))
  p : Kd.C k25 W (some ⟨gp, 0, none⟩) 1 sP
theorem SnAll.below {w W W' : World} {ga gb gp : Nat} (h : SnAll w ga gb gp W) (hb : Below W.heap.size W W') : SnAll w ga gb gp W' :=
  ⟨below_step h.hb hb, blk_below h.a hb, blk_below h.b hb, Kd.C_below h.p hb⟩
theorem SnAll.drew {w W : World} {ga gb gp : Nat} (h : SnAll w ga gb gp W) : SnAll w ga gb gp W.drew := h.below (below_drew1 (Below.refl _ _))
theorem SnAll.alloc {w W : World} {ga gb gp : Nat} (h : SnAll w ga gb gp W) (o : Obj) : SnAll w ga gb gp (W.alloc o) := h.below (below_alloc (Below.refl _ _) o)
theorem SnAll.all {w W : World} {ga gb gp : Nat} (h : SnAll w ga gb gp W) : (SnAll w ga gb gp W ∧ W.cell? ⟨ga, 0, none⟩ = some (.int .i64 1) ∧ W.cell? ⟨ga, 1, none⟩ = some (.int .i64 2) ∧ W.cell? ⟨ga, 2, none⟩ = some (.int .i64 1) ∧ W.cell? ⟨ga, 3, none⟩ = some (.int .i64 0) ∧ W.cell? ⟨ga, 4, none⟩ = some (.int .i64 5) ∧ W.cell? ⟨ga, 5, none⟩ = some (.int .i64 1) ∧ W.cell? ⟨ga, 6, none⟩ = some (.int .i64 3) ∧ W.cell? ⟨ga, 7, none⟩ = some (.int .i64 9) ∧ W.cell? ⟨ga, 8, none⟩ = some (.int .i64 10) ∧ W.cell? ⟨ga, 9, none⟩ = some (.int .i64 8) ∧ W.cell? ⟨ga, 10, none⟩ = some (.int .i64 sm1) ∧ W.cell? ⟨gb, 0, none⟩ = some (.int .i64 1) ∧ W.cell? ⟨gb, 1, none⟩ = some (.int .i64 2) ∧ W.cell? ⟨gb, 2, none⟩ = some (.int .i64 2) ∧ W.cell? ⟨gb, 3, none⟩ = some (.int .i64 sdg) ∧ W.cell? ⟨gb, 4, none⟩ = some (.int .i64 6) ∧ W.cell? ⟨gb, 5, none⟩ = some (.int .i64 3) ∧ W.cell? ⟨gb, 6, none⟩ = some (.int .i64 3) ∧ W.cell? ⟨gb, 7, none⟩ = some (.int .i64 0) ∧ W.cell? ⟨gb, 8, none⟩ = some (.int .i64 0) ∧ W.cell? ⟨gb, 9, none⟩ = some (.int .i64 0) ∧ W.cell? ⟨gb, 10, none⟩ = some (.int .i64 sm2)) := ⟨h, (blk_cell h.a 0).trans rfl, (blk_cell h.a 1).trans rfl, (blk_cell h.a 2).trans rfl, (blk_cell h.a 3).trans rfl, (blk_cell h.a 4).trans rfl, (blk_cell h.a 5).trans rfl, (blk_cell h.a 6).trans rfl, (blk_cell h.a 7).trans rfl, (blk_cell h.a 8).trans rfl, (blk_cell h.a 9).trans rfl, (blk_cell h.a 10).trans rfl, (blk_cell h.b 0).trans rfl, (blk_cell h.b 1).trans rfl, (blk_cell h.b 2).trans rfl, (blk_cell h.b 3).trans rfl, (blk_cell h.b 4).trans rfl, (blk_cell h.b 5).trans rfl, (blk_cell h.b 6).trans rfl, (blk_cell h.b 7).trans rfl, (blk_cell h.b 8).trans rfl, (blk_cell h.b 9).trans rfl, (blk_cell h.b 10).trans rfl⟩
theorem check_sn {w W W1 : World} {ga gb gp : Nat} (hG : GL w) (h : SnAll w ga gb gp W1) (hd : Below (W.alloc (.cells #[.int .i64 1, .int .i64 2, .int .i64 1, .int .i64 0, .int .i64 5, .int .i64 1, .int .i64 3, .int .i64 9, .int .i64 10, .int .i64 8, .int .i64 sm1, .int .i64 1, .int .i64 2, .int .i64 2, .int .i64 sdg, .int .i64 6, .int .i64 3, .int .i64 3, .int .i64 0, .int .i64 0, .int .i64 0, .int .i64 sm2] 39)).heap.size (W.alloc (.cells #[.int .i64 1, .int .i64 2, .int .i64 1, .int .i64 0, .int .i64 5, .int .i64 1, .int .i64 3, .int .i64 9, .int .i64 10, .int .i64 8, .int .i64 sm1, .int .i64 1, .int .i64 2, .int .i64 2, .int .i64 sdg, .int .i64 6, .int .i64 3, .int .i64 3, .int .i64 0, .int .i64 0, .int .i64 0, .int .i64 sm2] 39)) W1) : Calls Tryd.prog 18 #[.slice (some ⟨gp, 0, none⟩) 1 1, .slice (some ⟨W.heap.size, 0, none⟩) 2 2] W1 fun e w' => e = .returned (.int .i64 0) ∧ Below W1.heap.size W1 w' :=
  check2_x _ _ _ h.p (Kd.C_below (Grl.C_of_lit (k39) W 39 (repsAB _) (by decide)) hd) (hG.step h.hb)
section
variable {w W : World} {ga gb gp : Nat} (hG : GL w) (h : SnAll w ga gb gp W)
include hG h
theorem ver_sn : Calls Tryd.prog 20 #[.slice (some ⟨gp, 0, none⟩) 1 1, .agg #[.int .i64 1, .int .i64 2, .int .i64 2, .int .i64 sdg, .int .i64 6, .int .i64 3, .int .i64 3, .int .i64 0, .int .i64 0, .int .i64 0, .int .i64 sm2]] W fun e w' => e = .returned (.bool true) ∧ Below W.heap.size W w' := verB_x _ _ h.p (hG.step h.hb)
theorem con_sn : Calls Tryd.prog 21 #[.agg #[.int .i64 1, .int .i64 2, .int .i64 1, .int .i64 0, .int .i64 5, .int .i64 1, .int .i64 3, .int .i64 9, .int .i64 10, .int .i64 8, .int .i64 sm1], .agg #[.int .i64 1, .int .i64 2, .int .i64 2, .int .i64 sdg, .int .i64 6, .int .i64 3, .int .i64 3, .int .i64 0, .int .i64 0, .int .i64 0, .int .i64 sm2]] W fun e w' => e = .returned (.bool false) ∧ Below W.heap.size W w' := con_x _ (hG.step h.hb)
end
set_option maxRecDepth 100000 in
set_option maxHeartbeats 8000000 in
theorem sane_x (w : World) (hG : GL w) : Calls Tryd.prog 8 #[] w fun e w' => e = .returned (.bool true) ∧ Below w.heap.size w w' := by
  have mixed : (Tryd.prog).follows .mixedOrders = true := by kernel_rfl
  have hu39 := Tryd.underlying39
  have hu25 := Tryd.underlying25
  have HG := Aside0.mk hG
  clear hG
  go_enter Tryd.func8, Tryd.ntmps8
  go_upto_region 5 with (first | (go_at_call 14; with_reducible refine (next1_x _ ?gl).mono ?_; (case gl => exact HG.out.alloc _); rintro e w2 ⟨rfl, hb⟩; have HB := Aside0.mk (below_step (below_alloc (Below.refl w.heap.size w) (.cells #[.int .i64 1, .int .i64 7] 25)) hb); have HPB := Aside0.mk (blk_below (heap_alloc_new w (.cells #[.int .i64 1, .int .i64 7] 25)) hb); clear hb; have hp0 : w2.cell? ⟨w.heap.size, 0, none⟩ = some (.int .i64 1) := (blk_cell HPB.out 0).trans rfl; have hp1 : w2.cell? ⟨w.heap.size, 1, none⟩ = some (.int .i64 7) := (blk_cell HPB.out 1).trans rfl; have hpz : w.heap.size < w2.heap.size := blk_lt HPB.out; have HC1 : Aside0 (Kd.C k39 ((w2.alloc (.cells #[.int .i64 1, .int .i64 2, .int .i64 1, .int .i64 0, .int .i64 5, .int .i64 1, .int .i64 3, .int .i64 9, .int .i64 10, .int .i64 8, .int .i64 sm1] 39)).alloc (.cells #[.int .i64 1, .int .i64 2, .int .i64 1, .int .i64 0, .int .i64 5, .int .i64 1, .int .i64 3, .int .i64 9, .int .i64 10, .int .i64 8, .int .i64 sm1] 39)) (some ⟨w2.heap.size + 1, 0, none⟩) 1 [sA]) := ⟨by have h := Grl.C_of_lit (k39) (w2.alloc (.cells #[.int .i64 1, .int .i64 2, .int .i64 1, .int .i64 0, .int .i64 5, .int .i64 1, .int .i64 3, .int .i64 9, .int .i64 10, .int .i64 8, .int .i64 sm1] 39)) 39 (repsA _) (by decide); simpa using h⟩) | (go_at_call 14; with_reducible refine (next2_x _ _ HC1.out ?gl).mono ?_; (case gl => exact HG.out.step (below_alloc (below_alloc HB.out _) _)); rintro e w4 ⟨rfl, hb⟩; have n1_ := Aside0.mk (below_step (below_alloc (below_alloc HB.out _) _) hb); have HA := Aside0.mk (blk_below (blk_alloc (heap_alloc_new w2 (.cells #[.int .i64 1, .int .i64 2, .int .i64 1, .int .i64 0, .int .i64 5, .int .i64 1, .int .i64 3, .int .i64 9, .int .i64 10, .int .i64 8, .int .i64 sm1] 39)) (.cells #[.int .i64 1, .int .i64 2, .int .i64 1, .int .i64 0, .int .i64 5, .int .i64 1, .int .i64 3, .int .i64 9, .int .i64 10, .int .i64 8, .int .i64 sm1] 39)) hb); have n2_ := Aside0.mk (blk_below (blk_alloc (blk_alloc HPB.out _) _) hb); clear HB HPB hb HC1; have HB := n1_; have HPB := n2_; clear n1_ n2_; have hp0_ : w4.cell? ⟨w.heap.size, 0, none⟩ = some (.int .i64 1) := (blk_cell HPB.out 0).trans rfl; have hp1_ : w4.cell? ⟨w.heap.size, 1, none⟩ = some (.int .i64 7) := (blk_cell HPB.out 1).trans rfl; have hpz_ : w.heap.size < w4.heap.size := blk_lt HPB.out))
  have HS : SnAll w w2.heap.size w4.heap.size (w4.heap.size + 1) ((w4.alloc (.cells #[.int .i64 1, .int .i64 2, .int .i64 2, .int .i64 sdg, .int .i64 6, .int .i64 3, .int .i64 3, .int .i64 0, .int .i64 0, .int .i64 0, .int .i64 sm2] 39)).alloc (.cells #[.int .i64 1, .int .i64 7] 25)) :=
    ⟨below_alloc (below_alloc HB.out _) _, blk_alloc (blk_alloc HA.out _) _, blk_alloc (heap_alloc_new w4 _) _, by have h : Kd.C k25 _ _ 1 sP := Grl.C_of_lit (k25) (w4.alloc (.cells #[.int .i64 1, .int .i64 2, .int .i64 2, .int .i64 sdg, .int .i64 6, .int .i64 3, .int .i64 3, .int .i64 0, .int .i64 0, .int .i64 0, .int .i64 sm2] 39)) 25 (repsP _) (by decide); simpa using h⟩
  obtain ⟨W5, hW5⟩ : ∃ W5, W5 = ((w4.alloc (.cells #[.int .i64 1, .int .i64 2, .int .i64 2, .int .i64 sdg, .int .i64 6, .int .i64 3, .int .i64 3, .int .i64 0, .int .i64 0, .int .i64 0, .int .i64 sm2] 39)).alloc (.cells #[.int .i64 1, .int .i64 7] 25)) := ⟨_, rfl⟩
  rw [← hW5] at HS ⊢
  clear hW5 HB HPB HA hp0 hp1 hp0_ hp1_ hpz hpz_
  generalize w4.heap.size + 1 = gp at HS ⊢
  generalize w4.heap.size = gb at HS ⊢
  generalize w2.heap.size = ga at HS ⊢
  have HSA := HS.all
  go_region_held3 (fun W => (SnAll w ga gb gp W ∧ W.cell? ⟨ga, 0, none⟩ = some (.int .i64 1) ∧ W.cell? ⟨ga, 1, none⟩ = some (.int .i64 2) ∧ W.cell? ⟨ga, 2, none⟩ = some (.int .i64 1) ∧ W.cell? ⟨ga, 3, none⟩ = some (.int .i64 0) ∧ W.cell? ⟨ga, 4, none⟩ = some (.int .i64 5) ∧ W.cell? ⟨ga, 5, none⟩ = some (.int .i64 1) ∧ W.cell? ⟨ga, 6, none⟩ = some (.int .i64 3) ∧ W.cell? ⟨ga, 7, none⟩ = some (.int .i64 9) ∧ W.cell? ⟨ga, 8, none⟩ = some (.int .i64 10) ∧ W.cell? ⟨ga, 9, none⟩ = some (.int .i64 8) ∧ W.cell? ⟨ga, 10, none⟩ = some (.int .i64 sm1) ∧ W.cell? ⟨gb, 0, none⟩ = some (.int .i64 1) ∧ W.cell? ⟨gb, 1, none⟩ = some (.int .i64 2) ∧ W.cell? ⟨gb, 2, none⟩ = some (.int .i64 2) ∧ W.cell? ⟨gb, 3, none⟩ = some (.int .i64 sdg) ∧ W.cell? ⟨gb, 4, none⟩ = some (.int .i64 6) ∧ W.cell? ⟨gb, 5, none⟩ = some (.int .i64 3) ∧ W.cell? ⟨gb, 6, none⟩ = some (.int .i64 3) ∧ W.cell? ⟨gb, 7, none⟩ = some (.int .i64 0) ∧ W.cell? ⟨gb, 8, none⟩ = some (.int .i64 0) ∧ W.cell? ⟨gb, 9, none⟩ = some (.int .i64 0) ∧ W.cell? ⟨gb, 10, none⟩ = some (.int .i64 sm2))) (((try go_split_ands); first | (refine SnAll.all (SnAll.drew ?_); assumption) | (refine SnAll.all ?_; assumption) | (refine SnAll.all (SnAll.alloc ?_ _); assumption) | (refine SnAll.all (SnAll.below ?_ hb); assumption)))
    (first | (go_at_call 25; with_reducible refine (bytesA_x _).mono ?_; rintro e w' ⟨rfl, hb⟩) | (go_at_call 26; with_reducible refine (sumA_x _).mono ?_; rintro e w' ⟨rfl, hb⟩) | (go_at_call 18; (try go_split_ands); with_reducible refine (check_sn HG.out (by assumption) (Below.refl _ _)).mono ?_; rintro e w' ⟨rfl, hb⟩) | (go_at_call 20; (try go_split_ands); with_reducible refine (ver_sn HG.out (by assumption)).mono ?_; rintro e w' ⟨rfl, hb⟩) | (go_at_call 21; (try go_split_ands); with_reducible refine (con_sn HG.out (by assumption)).mono ?_; rintro e w' ⟨rfl, hb⟩) | (go_at_call 23; with_reducible refine (same_x _).mono ?_; rintro e w' ⟨rfl, hb⟩))
  all_goals
    (try go_split_ands)
    go_wp2
    go_ret
    refine ⟨rfl, ?_⟩
    refine SnAll.hb (ga := ga) (gb := gb) (gp := gp) ?_
    assumption
def storagebarterlaw15_sane.f : Option Bool := some true
theorem storagebarterlaw15_sane.calls (r : Bool) (w : World) (h : storagebarterlaw15_sane.f = some r) (hGL : GL w := by first | exact hGL | exact Aside0.out HGL | exact GL.step (Aside0.out HGL) (by repeat (first | (with_reducible first | exact HB.out | apply below_alloc | apply pw_below_drewN | apply below_drew1 | refine below_set ?_ (Aside0.out (by assumption))) | exact HB.out))) :
    Calls Tryd.prog 8 #[] w fun e w' => e = .returned (.bool r) ∧ Below w.heap.size w w' := by
  obtain rfl := Option.some.inj h
  exact sane_x w hGL
end Go.Proofs.YtcalkhlchjjalaaDoor.Q

namespace Go.Proofs.YtcalkhlchjjalaaDoor.Gcw
open Go Go.RowKit Go.Proofs Go.Proofs.YtcalkhlchjjalaaDoor.Gm Go.Proofs.YtcalkhlchjjalaaDoor.Gdm Go.Proofs.YtcalkhlchjjalaaDoor.Gmr Go.Proofs.YtcalkhlchjjalaaDoor.Gpp Go.Proofs.YtcalkhlchjjalaaDoor.Gsy Go.Proofs.YtcalkhlchjjalaaDoor.Gnx Go.Proofs.YtcalkhlchjjalaaDoor.Gck Go.Proofs.YtcalkhlchjjalaaDoor.Ggd Go.Proofs.YtcalkhlchjjalaaDoor.Q Go.Proofs.YtcalkhlchjjalaaDoorW.PrintWords Go.Proofs.YtcalkhlchjjalaaDoorW.PrintLast Go.Proofs.YtcalkhlchjjalaaDoorW.PrintMore
set_option linter.unusedVariables false
theorem holds_made {l : List S25} {sec : Int} (h : Made l sec) (hl : l.length ≤ 16) (j : Nat) (hj : j < l.length) : Holds l ((j : Int) + 1) l[j].f1 := by
  refine ⟨h.ck hl, ?_, (h.within hl _ (List.getElem_mem hj)).2⟩
  have h1 := Find_made h hl j hj
  rw [mFind_eq l (h.wf hl)] at h1
  exact Option.some.inj h1
theorem fits_grant (tick a b c d : Int) (ht : 0 ≤ tick ∧ tick ≤ 1000) (ha : 0 ≤ a ∧ a ≤ 63) (hb : 0 ≤ b ∧ b ≤ 2147483646) (hc : 1 ≤ c ∧ c ≤ 1024) (hd : tick + 1 ≤ d ∧ d ≤ tick + 1000) : fitsB 1 tick a b c d = true := by
  unfold fitsB
  rw [if_neg (by omega)]
  show (if true = true then (if d < 0 ∨ 1048576 < d then false else tailB ⟨0, 63, 0, 2147483646, 1, 1024, 1, 65536, true, false⟩ a b c (d - tick)) else _) = true
  rw [if_pos rfl, if_neg (by omega)]
  unfold tailB
  simp only [Bool.and_eq_true, hold_iff]
  omega
theorem nxt_grant {p1 tick a b c d : Int} {l : List S39} (h : Gd 1 p1 2 l) (hp : within p1) (hl : l.length < 256) (hlast : 0 < l.length → (rd_T39 l ((l.length - 1 : Nat) : Int)).f4 ≤ tick)
    (ht : 0 ≤ tick ∧ tick ≤ 1000) (ha : 0 ≤ a ∧ a ≤ 63) (hb : 0 ≤ b ∧ b ≤ 2147483646) (hc : 1 ≤ c ∧ c ≤ 1024) (hd : tick + 1 ≤ d ∧ d ≤ tick + 1000) : ∃ s, nxt l 1 p1 2 tick 1 a b c d = (s, 0) := by
  have hfin : ∀ prev, 0 ≤ prev ∧ prev < 2147483647 → (1 < (l.length : Int) + 1 ∨ prev = 0) → ∃ s, fin 1 p1 2 ((l.length : Int) + 1) prev tick 1 a b c d = (s, 0) := by
    intro prev h1 h2
    unfold fin
    rw [if_pos ((vldS_iff _).2 ⟨by simp only; omega, by simp only; omega, by simp, by simp only; omega, by simp only; omega, ⟨h1.1, by show prev ≤ _; omega⟩, h2, ht.1, by show tick ≤ _; omega, by simp only; omega, fits_grant tick a b c d ht ha hb hc hd⟩)]
    exact ⟨_, rfl⟩
  have hw : hold 1 2147483646 p1 = true := hold_iff.2 ⟨hp.1, by have := hp.2; omega⟩
  unfold nxt
  rw [if_neg (by rintro (z | z); exact absurd z (by decide); rw [hw] at z; cases z), if_neg (by omega), if_neg (by
    rintro ⟨s, hs, z⟩
    obtain ⟨i, hi, rfl⟩ := List.getElem_of_mem hs
    have g := h i hi
    rw [← rdL l i hi] at z
    rcases z with z | z
    · exact z g.e0
    · exact z g.e1)]
  cases hg : l.getLast? with
  | none => exact hfin 0 (by omega) (.inr rfl)
  | some e =>
    have hpos : 0 < l.length := by
      cases l with
      | nil => simp at hg
      | cons x r => simp
    have he : e = rd_T39 l ((l.length - 1 : Nat) : Int) := by
      rw [List.getLast?_eq_getElem?, List.getElem?_eq_getElem (by omega)] at hg
      rw [rdL _ _ (by omega)]
      exact (Option.some.inj hg).symm
    simp only
    rw [if_neg (by rw [he]; have := hlast hpos; omega)]
    exact hfin _ (dg_range _ 1 (by omega)) (.inl (by omega))
theorem con_num {x y : S39} (h : x.f2 ≠ y.f2) (hx : vldS x = true) (hy : vldS y = true) : statement_Contradict.f x.f0 x.f1 x.f2 x.f3 x.f4 x.f5 x.f6 x.f7 x.f8 x.f9 x.f10 y.f0 y.f1 y.f2 y.f3 y.f4 y.f5 y.f6 y.f7 y.f8 y.f9 y.f10 = some false := by
  unfold statement_Contradict.f statement_Valid.f
  rw [Option.bind_some, if_pos (show vldB x.f0 x.f1 x.f2 x.f3 x.f4 x.f5 x.f6 x.f7 x.f8 x.f9 x.f10 = true from hx), Option.bind_some, if_pos (show vldB y.f0 y.f1 y.f2 y.f3 y.f4 y.f5 y.f6 y.f7 y.f8 y.f9 y.f10 = true from hy)]
  simp only [if_neg h, ite_self]
theorem C_heap {W W' : World} {ad : Addr} {n : Nat} {xs : List S25} (h : Kd.C k25 W (some ad) n xs) (he : W'.heap[ad.block]? = W.heap[ad.block]?) : Kd.C k25 W' (some ad) n xs := by
  obtain ⟨h1, h2, h3⟩ := h
  refine ⟨h1, h2, fun hn => ?_⟩
  obtain ⟨a, ea, h4⟩ := h3 hn
  cases ea
  refine ⟨_, rfl, fun j p hj => ?_⟩
  obtain ⟨cs, g1, g2, g3⟩ := h4 j p hj
  refine ⟨cs, g1, ?_, fun i u hu => ?_⟩
  · rw [k25_open g2]; exact k25_mk _ _
  · rw [← g3 i u hu]
    have hbl : ∀ q, (ad.add q).block = ad.block := fun q => by unfold Addr.add; split <;> rfl
    unfold World.cell?
    rw [hbl, he]
/-- The deck, the people and the chain. -/
structure CW (w W : World) (gd : Nat) (L : List Int) (ad : Addr) (ps : List S25) (v9 : Value) (ch : List S39) : Prop where
  hb : Below w.heap.size w W
  dk : ∃ at_, 0 ≤ at_ ∧ IsS57 w W gd L at_
  pe : Kd.C k25 W (some ad) ps.length ps
  ty : ∃ cells, W.heap[ad.block]? = some (.cells cells 25 (0, 0))
  cr : Kd.R k39 39 W w.heap.size (fun _ => True) v9 ch
section
variable {w W W' : World} {gd : Nat} {L : List Int} {ad : Addr} {ps : List S25} {v9 v1 : Value} {ch ch' : List S39}
theorem CW.below (h : CW w W gd L ad ps v9 ch) (hb : Below W.heap.size W W') : CW w W' gd L ad ps v9 ch := by
  obtain ⟨at_, h0, hd⟩ := h.dk
  obtain ⟨cs, hc⟩ := h.ty
  have he := hb.block ad.block (blk_lt hc)
  exact ⟨below_step h.hb hb, ⟨at_, h0, hd.below hb⟩, C_heap h.pe he, ⟨cs, he.trans hc⟩, Kd.R_below h.cr hb⟩
theorem CW.alloc (h : CW w W gd L ad ps v9 ch) (o : Obj) : CW w (W.alloc o) gd L ad ps v9 ch := h.below (below_alloc (Below.refl _ _) o)
theorem CW.drew (h : CW w W gd L ad ps v9 ch) : CW w W.drew gd L ad ps v9 ch := h.below (below_drew1 (Below.refl _ _))
theorem CW.next {at_ : Int} (h : CW w W gd L ad ps v9 ch) (h0 : 0 ≤ at_) (hd : IsS57 w W' gd L at_) (hb : Below w.heap.size w W') (hk : KeepBut W W' gd none) : CW w W' gd L ad ps v9 ch := by
  obtain ⟨at0, -, A0, c0, hbg, -, -⟩ := h.dk
  obtain ⟨cs, hc⟩ := h.ty
  have hne : ad.block ≠ gd := by
    rintro e
    rw [e, hbg] at hc
    injection hc with hc
    injection hc with _ hc
    exact absurd hc (by decide)
  have he := hk.2 ad.block (blk_lt hc) hne (by simp)
  exact ⟨hb, ⟨at_, h0, hd⟩, C_heap h.pe he, ⟨cs, he.trans hc⟩, Kd.R_mono (Kd.R_keep (Kd.R_types h.cr hbg (by first | decide | (intro q hq; rcases List.mem_cons.1 hq with h_ | h_; (subst h_; decide); (first | (cases h_; done) | (simp [k39] at h_))))) hk (fun _ z => z.2)) (fun _ _ => trivial)⟩
theorem CW.app (h : CW w W gd L ad ps v9 ch) (hr : Kd.R k39 39 W' w.heap.size (fun _ => True) v1 ch') (hb : Below w.heap.size w W') (hg : W.grownBy W' v9.ownBlock) : CW w W' gd L ad ps v1 ch' := by
  obtain ⟨at_, h0, hd⟩ := h.dk
  obtain ⟨cs, hc⟩ := h.ty
  have he : W'.heap[ad.block]? = W.heap[ad.block]? := (blk_grown hc hg (Kd.R_ne h.cr hc (by decide))).trans hc.symm
  exact ⟨hb, ⟨at_, h0, hd.grown hg (hd.own_ne h.cr (by decide))⟩, C_heap h.pe he, ⟨cs, he.trans hc⟩, hr⟩
theorem CW.turn (h : CW w W gd L ad ps v9 ch) (hL : L.length ≤ 1000000) (n : Int) (hn : 1 ≤ n ∧ n ≤ 100000) : Calls Tryd.prog 16 #[.pointer (some ⟨gd, 0, none⟩), .int .i64 n] W fun e w' => ∃ t : Int, e = .returned (.int .i64 t) ∧ 0 ≤ t ∧ t < n ∧ CW w w' gd L ad ps v9 ch := by
  obtain ⟨at_, h0, hd⟩ := h.dk
  obtain ⟨t, a1, e, p, q, h1⟩ := next_ok L at_ n hn.1 (by omega) h0 hL
  refine (storagebartermake_Deck_Next.calls gd L at_ n t a1 w W hd h.hb e).mono fun e' w' z => ?_
  obtain ⟨rfl, z1, z2, z3⟩ := z
  exact ⟨t, rfl, p, q, h.next h1 z1 z2 z3⟩
/-- A block of one statement that was made besides. -/
structure ZB (w W : World) (gz : Nat) (v9 : Value) (cs : Array Value) : Prop where
  b : W.heap[gz]? = some (.cells cs 39 (0, 0))
  ne : some gz ≠ v9.ownBlock
  le : w.heap.size ≤ gz
theorem CW.made (h : CW w W gd L ad ps v9 ch) (cs : Array Value) : ZB w (W.alloc (.cells cs 39)) W.heap.size v9 cs :=
  ⟨heap_alloc_new W _, by have := Kd.R_ne_new h.cr 0; simpa using this, h.hb.size⟩
theorem ZB.below {gz : Nat} {cs : Array Value} (z : ZB w W gz v9 cs) (hb : Below W.heap.size W W') : ZB w W' gz v9 cs := ⟨blk_below z.b hb, z.ne, z.le⟩
theorem ZB.set {gz : Nat} {cs : Array Value} (z : ZB w W gz v9 cs) (i : Nat) (v : Value) : ZB w (W.setCell ⟨gz, i, none⟩ v) gz v9 (cs.setIfInBounds i v) := ⟨blk_put z.b i v rfl, z.ne, z.le⟩
theorem CW.far {gz : Nat} {cs : Array Value} (h : CW w W gd L ad ps v9 ch) (z : ZB w W gz v9 cs) (i : Nat) (v : Value) : CW w (W.setCell ⟨gz, i, none⟩ v) gd L ad ps v9 ch := by
  obtain ⟨at0, h0, hd⟩ := h.dk
  obtain ⟨A0, c0, hbg, hg1, hg2⟩ := id hd
  obtain ⟨cs2, hc⟩ := h.ty
  have n1 : gd ≠ gz := by
    rintro rfl
    rw [z.b] at hbg
    injection hbg with hbg
    injection hbg with _ hbg
    exact absurd hbg (by decide)
  have n2 : ad.block ≠ gz := by
    intro e
    rw [e, z.b] at hc
    injection hc with hc
    injection hc with _ hc
    exact absurd hc (by decide)
  have hc' := blk_far (p := ⟨gz, i, none⟩) hc n2 v
  have hr : Kd.R k39 39 W w.heap.size (fun k => k ≠ gz) v9 ch := ⟨fun k hk e => z.ne (by rw [hk, e]), h.cr.2.imp_ (fun p c hm => by rw [k39_openM hm]; exact k39_mkM _ _ _ _)⟩
  exact ⟨below_set h.hb z.le, ⟨at0, h0, hd.far n1 v⟩, C_heap h.pe (hc'.trans hc.symm), ⟨cs2, hc'⟩, Kd.R_mono (Kd.R_far (p := ⟨gz, i, none⟩) hr (fun _ hk => hk) v) (fun _ _ => trivial)⟩
theorem CW.far11 {gz : Nat} {cs : Array Value} (h : CW w W gd L ad ps v9 ch) (z : ZB w W gz v9 cs) (v0 v1 v2 v3 v4 v5 v6 v7 v8 va vb : Value) :
    CW w (((((((((((W.setCell ⟨gz, 0, none⟩ v0).setCell ⟨gz, 1, none⟩ v1).setCell ⟨gz, 2, none⟩ v2).setCell ⟨gz, 3, none⟩ v3).setCell ⟨gz, 4, none⟩ v4).setCell ⟨gz, 5, none⟩ v5).setCell ⟨gz, 6, none⟩ v6).setCell ⟨gz, 7, none⟩ v7).setCell ⟨gz, 8, none⟩ v8).setCell ⟨gz, 9, none⟩ va).setCell ⟨gz, 10, none⟩ vb) gd L ad ps v9 ch := by
  have c0 := h.far z 0 v0
  have z0 := z.set 0 v0
  have c1 := c0.far z0 1 v1
  have z1 := z0.set 1 v1
  have c2 := c1.far z1 2 v2
  have z2 := z1.set 2 v2
  have c3 := c2.far z2 3 v3
  have z3 := z2.set 3 v3
  have c4 := c3.far z3 4 v4
  have z4 := z3.set 4 v4
  have c5 := c4.far z4 5 v5
  have z5 := z4.set 5 v5
  have c6 := c5.far z5 6 v6
  have z6 := z5.set 6 v6
  have c7 := c6.far z6 7 v7
  have z7 := z6.set 7 v7
  have c8 := c7.far z7 8 v8
  have z8 := z7.set 8 v8
  have c9 := c8.far z8 9 va
  have z9 := z8.set 9 va
  exact c9.far z9 10 vb
theorem ZB.put11 {gz : Nat} {x0 x1 x2 x3 x4 x5 x6 x7 x8 x9 xa : Value} (z : ZB w W gz v9 #[x0, x1, x2, x3, x4, x5, x6, x7, x8, x9, xa]) (v0 v1 v2 v3 v4 v5 v6 v7 v8 v9_ va : Value) :
    ZB w (((((((((((W.setCell ⟨gz, 0, none⟩ v0).setCell ⟨gz, 1, none⟩ v1).setCell ⟨gz, 2, none⟩ v2).setCell ⟨gz, 3, none⟩ v3).setCell ⟨gz, 4, none⟩ v4).setCell ⟨gz, 5, none⟩ v5).setCell ⟨gz, 6, none⟩ v6).setCell ⟨gz, 7, none⟩ v7).setCell ⟨gz, 8, none⟩ v8).setCell ⟨gz, 9, none⟩ v9_).setCell ⟨gz, 10, none⟩ va) gz v9 #[v0, v1, v2, v3, v4, v5, v6, v7, v8, v9_, va] := ⟨Gnx.put11 _ _ _ _ _ _ _ _ _ _ _ _ _ _ _ _ _ _ _ _ _ _ z.b, z.ne, z.le⟩
theorem CW.turnZ {gz : Nat} {cs : Array Value} (h : CW w W gd L ad ps v9 ch) (z : ZB w W gz v9 cs) (hL : L.length ≤ 1000000) (n : Int) (hn : 1 ≤ n ∧ n ≤ 100000) : Calls Tryd.prog 16 #[.pointer (some ⟨gd, 0, none⟩), .int .i64 n] W fun e w' => ∃ t : Int, e = .returned (.int .i64 t) ∧ 0 ≤ t ∧ t < n ∧ CW w w' gd L ad ps v9 ch ∧ ZB w w' gz v9 cs := by
  obtain ⟨at_, h0, hd⟩ := h.dk
  obtain ⟨A0, c0, hbg, hg1, hg2⟩ := id hd
  have n1 : gz ≠ gd := by
    rintro rfl
    rw [z.b] at hbg
    injection hbg with hbg
    injection hbg with _ hbg
    exact absurd hbg (by decide)
  obtain ⟨t, a1, e, p, q, h1⟩ := next_ok L at_ n hn.1 (by omega) h0 hL
  refine (storagebartermake_Deck_Next.calls gd L at_ n t a1 w W hd h.hb e).mono fun e' w' y => ?_
  obtain ⟨rfl, z1, z2, z3⟩ := y
  exact ⟨t, rfl, p, q, h.next h1 z1 z2 z3, ⟨(z3.2 gz (blk_lt z.b) n1 (by simp)).trans z.b, z.ne, z.le⟩⟩
theorem CW.turnA {cs : Array Value} (h : CW w W gd L ad ps v9 ch) (hL : L.length ≤ 1000000) (n : Int) (hn : 1 ≤ n ∧ n ≤ 100000) : Calls Tryd.prog 16 #[.pointer (some ⟨gd, 0, none⟩), .int .i64 n] (W.alloc (.cells cs 39)) fun e w' => ∃ t : Int, e = .returned (.int .i64 t) ∧ 0 ≤ t ∧ t < n ∧ CW w w' gd L ad ps v9 ch ∧ ZB w w' W.heap.size v9 cs :=
  (h.alloc _).turnZ (h.made cs) hL n hn
end
end Go.Proofs.YtcalkhlchjjalaaDoor.Gcw

namespace Go.Proofs.YtcalkhlchjjalaaDoor.Q
open Go.RowKit Go.Proofs.YtcalkhlchjjalaaDoorW.PrintWords Go.Proofs.YtcalkhlchjjalaaDoorW.PrintLast Go.Proofs.YtcalkhlchjjalaaDoorW.PrintMore Go.Proofs.YtcalkhlchjjalaaDoor.Gput
attribute [local go_sem] max2_int min2_int max_two min_two max_three min_three max_four min_four   -- for this text's walks alone
set_option linter.unusedVariables false
set_option linter.unusedSimpArgs false
def storagebartermake_Few.f (l0 : List Int) : Option (Bool) := some (decide ((l0.length : Int) ≤ 500))
set_option maxHeartbeats 8000000 in
set_option maxRecDepth 100000 in
theorem storagebartermake_Few.calls (A0 : Option Addr) (c0 : Nat) (l0 : List Int) (r : Bool) (w : World) (hr0 : Kd.C (Kd.int .i64) w A0 l0.length l0) (hc0 : l0.length ≤ c0) (h : storagebartermake_Few.f l0 = some r) :
    Calls Tryd.prog 9 #[.slice A0 l0.length c0] w fun e w' => e = .returned (.bool r) ∧ Drawn0 w w' := by
  have HR0 := Aside0.mk hr0
  have HC0 := Aside0.mk hc0
  clear hr0 hc0
  have H : (some (decide ((l0.length : Int) ≤ 500))) = some r := h
  clear h
  obtain rfl := Option.some.inj H
  go_enter Tryd.func9, Tryd.ntmps9
  go_wp2
  go_ret
  exact ⟨by first | rfl | (simp; done) | (simp [*]; done), by repeat (first | exact Drawn0.refl _ | apply Drawn0.step)⟩
end Go.Proofs.YtcalkhlchjjalaaDoor.Q

namespace Go.Proofs.YtcalkhlchjjalaaDoor.Gsc
open Go Go.RowKit Go.Proofs Go.Proofs.YtcalkhlchjjalaaDoor.Gm Go.Proofs.YtcalkhlchjjalaaDoor.Gdm Go.Proofs.YtcalkhlchjjalaaDoor.Gmr Go.Proofs.YtcalkhlchjjalaaDoor.Gpp Go.Proofs.YtcalkhlchjjalaaDoor.Gsy Go.Proofs.YtcalkhlchjjalaaDoor.Gnx Go.Proofs.YtcalkhlchjjalaaDoor.Gck Go.Proofs.YtcalkhlchjjalaaDoor.Ggd Go.Proofs.YtcalkhlchjjalaaDoor.Gcw Go.Proofs.YtcalkhlchjjalaaDoor.Q Go.Proofs.YtcalkhlchjjalaaDoorW.PrintWords Go.Proofs.YtcalkhlchjjalaaDoorW.PrintLast Go.Proofs.YtcalkhlchjjalaaDoorW.PrintMore
set_option linter.unusedVariables false
/-- The chain's statements by letters. -/
structure Chn (p1 : Int) (ch : List S39) (tk : Int) : Prop where
  gd : Gd 1 p1 2 ch
  last : 0 < ch.length → (rd_T39 ch ((ch.length - 1 : Nat) : Int)).f4 ≤ tk
  kd : ∀ s ∈ ch, s.f5 = 1
theorem Chn.snoc {p1 tk a b c d : Int} {ch : List S39} {s : S39} (h : Chn p1 ch tk) (hn : nxt ch 1 p1 2 tk 1 a b c d = (s, 0)) (i3 : I64 tk) (i5 : I64 a) (i6 : I64 b) (i7 : I64 c) (i8 : I64 d) : Chn p1 (ch ++ [s]) tk := by
  have h6 := (nxt_ok hn).2.2.2.2.2.1
  refine ⟨h.gd.snoc hn (by unfold I64; omega) (by unfold I64; omega) i3 (by unfold I64; omega) i5 i6 i7 i8, fun _ => ?_, fun x hx => ?_⟩
  rotate_left
  · rcases List.mem_append.1 hx with z | z
    · exact h.kd x z
    · rw [List.mem_singleton.1 z, h6]
  rw [List.length_append, List.length_singleton, Nat.add_sub_cancel, rd_end, h6]
  exact Int.le_refl _
theorem next_cw {w W : World} {gd : Nat} {L : List Int} {ad : Addr} {ps : List S25} {A9 : Option Addr} {c9 : Nat} {ch : List S39} {p1 tk ta tb tc td : Int} (hG : GL w) (h : CW w W gd L ad ps (.slice A9 ch.length c9) ch) (hC : Chn p1 ch tk) (hp : within p1) (hl : ch.length < 256)
    (ht : 0 ≤ tk ∧ tk ≤ 900) (ha0 : 0 ≤ ta) (ha : ta < 64) (hb0 : 0 ≤ tb) (hb : tb < 99) (hc0 : 0 ≤ tc) (hc : tc < 99) (hd0 : 0 ≤ td) (hd : td < 9) :
    Calls Tryd.prog 14 #[.slice A9 ch.length c9, .agg #[.int .i64 1, .int .i64 p1], .int .i64 2, .int .i64 tk, .int .i64 1, .int .i64 ta, .int .i64 tb, .int .i64 (IntKind.i64.wrap (1 + tc)), .int .i64 (IntKind.i64.wrap (IntKind.i64.wrap (tk + 1) + td))] W fun e w' =>
      ∃ s, Chn p1 (ch ++ [s]) tk ∧ e = .returned (.tuple #[.agg #[.int .i64 s.f0, .int .i64 s.f1, .int .i64 s.f2, .int .i64 s.f3, .int .i64 s.f4, .int .i64 s.f5, .int .i64 s.f6, .int .i64 s.f7, .int .i64 s.f8, .int .i64 s.f9, .int .i64 s.f10], .int .i64 0]) ∧ Below W.heap.size W w' := by
  rw [IntWalk.i64_in (1 + tc) (by omega), IntWalk.i64_in (tk + 1) (by omega), IntWalk.i64_in (tk + 1 + td) (by omega)]
  obtain ⟨s, hs⟩ := nxt_grant (a := ta) (b := tb) (c := 1 + tc) (d := tk + 1 + td) hC.gd hp hl hC.last (by omega) (by omega) (by omega) (by omega) (by omega)
  have i3 : I64 tk := by unfold I64; omega
  have i5 : I64 ta := by unfold I64; omega
  have i6 : I64 tb := by unfold I64; omega
  have i7 : I64 (1 + tc) := by unfold I64; omega
  have i8 : I64 (tk + 1 + td) := by unfold I64; omega
  refine (next_x A9 c9 ch 1 p1 2 tk 1 ta tb (1 + tc) (tk + 1 + td) W (Kd.R_reads' h.cr).2.2 (Kd.R_reads' h.cr).2.1 (hG.step h.hb) hC.gd.w64 (by unfold I64; omega) (by unfold I64; omega) i3 (by unfold I64; omega) i5 i6 i7 i8 s 0 hs).mono fun e w' z => ?_
  exact ⟨s, hC.snoc hs i3 i5 i6 i7 i8, z.1, z.2⟩
section
variable {w W : World} {gd : Nat} {L : List Int} {ad : Addr} {l : List S25} {A9 : Option Addr} {c8 c9 : Nat} {ch : List S39} {p1 tk : Int} (hG : GL w) (h : CW w W gd L ad l (.slice A9 ch.length c9) ch) (hC : Chn p1 ch tk) (hP : Holds l 1 p1) (hwf : l.all (fun p => (Lit.int .i64 p.f1).wf) = true) (hc8 : l.length ≤ c8)
include hG h hC hP hwf hc8
theorem check_cw (hl : ch.length ≤ 256) (kc : Nat) (hk : kc ≤ ch.length) : Calls Tryd.prog 18 #[.slice (some ad) l.length c8, .slice A9 kc c9] W fun e w' => e = .returned (.int .i64 0) ∧ Below W.heap.size W w' := by
  have hr := Kd.R_reads' h.cr
  have hg := hC.gd.take kc
  have ht : (ch.take kc).length = kc := by rw [List.length_take]; omega
  have hx := check_x (some ad) c8 l A9 c9 (ch.take kc) W h.pe hc8 (Kd.C_take hr.2.2 hk) (by rw [ht]; exact Nat.le_trans hk hr.2.1) (hG.step h.hb) hwf hg.w64 0 (hg.chk hP (by rw [ht]; omega))
  rw [ht] at hx
  exact hx
theorem ver_cw (i : Nat) (hi : i < ch.length) {x0 x1 x2 x3 x4 x5 x6 x7 x8 x9 xa : Int} (he : rd_T39 ch i = ⟨x0, x1, x2, x3, x4, x5, x6, x7, x8, x9, xa⟩) : Calls Tryd.prog 20 #[.slice (some ad) l.length c8, .agg #[.int .i64 x0, .int .i64 x1, .int .i64 x2, .int .i64 x3, .int .i64 x4, .int .i64 x5, .int .i64 x6, .int .i64 x7, .int .i64 x8, .int .i64 x9, .int .i64 xa]] W fun e w' => e = .returned (.bool true) ∧ Below W.heap.size W w' := by
  have hf := hC.gd i hi
  have hv := verS_ok hP hf.v hf.e0 hf.em
  have hw := hf.w
  rw [he] at hv hw
  have hq := Verified_eq l hwf _ hw 200 (Nat.le_refl _)
  rw [hv] at hq
  exact statement_Verified.calls 200 (some ad) c8 l x0 x1 x2 x3 x4 x5 x6 x7 x8 x9 xa true W h.pe hc8 hq (hG.step h.hb)
end
theorem con_cw {w W : World} {gd : Nat} {L : List Int} {ad : Addr} {l : List S25} {v9 : Value} {ch : List S39} (hG : GL w) (h : CW w W gd L ad l v9 ch) (x y : S39) (r : Bool) (hr : statement_Contradict.f x.f0 x.f1 x.f2 x.f3 x.f4 x.f5 x.f6 x.f7 x.f8 x.f9 x.f10 y.f0 y.f1 y.f2 y.f3 y.f4 y.f5 y.f6 y.f7 y.f8 y.f9 y.f10 = some r) :
    Calls Tryd.prog 21 #[.agg #[.int .i64 x.f0, .int .i64 x.f1, .int .i64 x.f2, .int .i64 x.f3, .int .i64 x.f4, .int .i64 x.f5, .int .i64 x.f6, .int .i64 x.f7, .int .i64 x.f8, .int .i64 x.f9, .int .i64 x.f10], .agg #[.int .i64 y.f0, .int .i64 y.f1, .int .i64 y.f2, .int .i64 y.f3, .int .i64 y.f4, .int .i64 y.f5, .int .i64 y.f6, .int .i64 y.f7, .int .i64 y.f8, .int .i64 y.f9, .int .i64 y.f10]] W fun e w' => e = .returned (.bool r) ∧ Below W.heap.size W w' :=
  statement_Contradict.calls x.f0 x.f1 x.f2 x.f3 x.f4 x.f5 x.f6 x.f7 x.f8 x.f9 x.f10 y.f0 y.f1 y.f2 y.f3 y.f4 y.f5 y.f6 y.f7 y.f8 y.f9 y.f10 r W hr (hG.step h.hb)
theorem vld_b {x : S39} (hx : vldS x = true) (h5 : x.f5 = 1) : 0 ≤ x.f7 ∧ x.f7 ≤ 2147483646 := by
  rw [vldS_iff] at hx
  obtain ⟨h0, h1, h2, h3, h4, h6, h7, h8, h9, h10, h11⟩ := hx
  rw [h5] at h11
  unfold fitsB at h11
  rw [if_neg (by omega)] at h11
  change (if true = true then (if x.f9 < 0 ∨ 1048576 < x.f9 then false else tailB ⟨0, 63, 0, 2147483646, 1, 1024, 1, 65536, true, false⟩ x.f6 x.f7 x.f8 (x.f9 - x.f4)) else _) = true at h11
  rw [if_pos rfl] at h11
  split at h11
  · cases h11
  unfold tailB at h11
  simp only [Bool.and_eq_true, hold_iff] at h11
  omega
theorem con_other {x : S39} (hx : vldS x = true) (h5 : x.f5 = 1) (b : Int) (hb : 0 ≤ b ∧ b ≤ 999) : statement_Contradict.f x.f0 x.f1 x.f2 x.f3 x.f4 x.f5 x.f6 x.f7 x.f8 x.f9 x.f10 x.f0 x.f1 x.f2 x.f3 x.f4 x.f5 x.f6 b x.f8 x.f9 x.f10 = some (!(x.f7 == b)) := by
  have hy : vldS ⟨x.f0, x.f1, x.f2, x.f3, x.f4, x.f5, x.f6, b, x.f8, x.f9, x.f10⟩ = true := by
    rw [vldS_iff] at hx ⊢
    obtain ⟨h0, h1, h2, h3, h4, h6, h7, h8, h9, h10, h11⟩ := hx
    refine ⟨h0, h1, h2, h3, h4, h6, h7, h8, h9, h10, ?_⟩
    simp only
    rw [h5] at h11 ⊢
    unfold fitsB at h11 ⊢
    rw [if_neg (by omega)] at h11 ⊢
    change (if true = true then (if x.f9 < 0 ∨ 1048576 < x.f9 then false else tailB ⟨0, 63, 0, 2147483646, 1, 1024, 1, 65536, true, false⟩ x.f6 x.f7 x.f8 (x.f9 - x.f4)) else _) = true at h11
    change (if true = true then (if x.f9 < 0 ∨ 1048576 < x.f9 then false else tailB ⟨0, 63, 0, 2147483646, 1, 1024, 1, 65536, true, false⟩ x.f6 b x.f8 (x.f9 - x.f4)) else _) = true
    rw [if_pos rfl] at h11 ⊢
    split at h11
    · cases h11
    rename_i hd
    rw [if_neg hd]
    unfold tailB at h11 ⊢
    simp only [Bool.and_eq_true, hold_iff] at h11 ⊢
    omega
  unfold statement_Contradict.f statement_Valid.f
  rw [Option.bind_some, if_pos (show vldB x.f0 x.f1 x.f2 x.f3 x.f4 x.f5 x.f6 x.f7 x.f8 x.f9 x.f10 = true from hx), Option.bind_some, if_pos (show vldB x.f0 x.f1 x.f2 x.f3 x.f4 x.f5 x.f6 b x.f8 x.f9 x.f10 = true from hy), if_pos rfl, if_pos rfl, if_pos rfl]
  unfold statement_Same.f
  rw [Option.bind_some]
  simp
theorem _root_.Go.Proofs.YtcalkhlchjjalaaDoor.Gcw.CW.allC {w W : World} {gd : Nat} {L : List Int} {ad : Addr} {l : List S25} {v9 : Value} {ch : List S39} {p1 : Int} (h : CW w W gd L ad l v9 ch) (hl0 : 0 < l.length) (h0 : (rd_T25 l ((0 : Nat) : Int)).f0 = 1) (h1 : (rd_T25 l ((0 : Nat) : Int)).f1 = p1) :
    CW w W gd L ad l v9 ch ∧ W.cell? ad = some (.int .i64 1) ∧ W.cell? ⟨ad.block, ad.off + 1, none⟩ = some (.int .i64 p1) := by
  obtain ⟨ad2, e, hx0, hx1⟩ := at_T25 h.pe ((0 : Nat) : Int) (by omega) (by omega)
  cases e
  have ea0 : ad.add 0 = ad := by cases ad; simp [Addr.add]
  simp only [Int.toNat_natCast, Nat.zero_mul, ea0, h0, h1] at hx0 hx1
  exact ⟨h, hx0, hx1⟩
/-- Two copies of a statement, the second with another number. -/
structure Ot (w W : World) (gd : Nat) (L : List Int) (ad : Addr) (l : List S25) (v9 : Value) (ch : List S39) (gx gy : Nat) (cs ds : Array Value) : Prop where
  h : CW w W gd L ad l v9 ch
  x : W.heap[gx]? = some (.cells cs 39 (0, 0))
  y : W.heap[gy]? = some (.cells ds 39 (0, 0))
section
variable {w W W' : World} {gd : Nat} {L : List Int} {ad : Addr} {l : List S25} {v9 : Value} {ch : List S39} {gx gy : Nat} {cs ds : Array Value}
theorem Ot.below (h : Ot w W gd L ad l v9 ch gx gy cs ds) (hb : Below W.heap.size W W') : Ot w W' gd L ad l v9 ch gx gy cs ds := ⟨h.h.below hb, blk_below h.x hb, blk_below h.y hb⟩
theorem Ot.drew (h : Ot w W gd L ad l v9 ch gx gy cs ds) : Ot w W.drew gd L ad l v9 ch gx gy cs ds := h.below (below_drew1 (Below.refl _ _))
theorem Ot.all {x0 x1 x2 x3 x4 x5 x6 x7 x8 x9 x10 b7 : Int} (h : Ot w W gd L ad l v9 ch gx gy #[.int .i64 x0, .int .i64 x1, .int .i64 x2, .int .i64 x3, .int .i64 x4, .int .i64 x5, .int .i64 x6, .int .i64 x7, .int .i64 x8, .int .i64 x9, .int .i64 x10] #[.int .i64 x0, .int .i64 x1, .int .i64 x2, .int .i64 x3, .int .i64 x4, .int .i64 x5, .int .i64 x6, .int .i64 b7, .int .i64 x8, .int .i64 x9, .int .i64 x10]) : (Ot w W gd L ad l v9 ch gx gy #[.int .i64 x0, .int .i64 x1, .int .i64 x2, .int .i64 x3, .int .i64 x4, .int .i64 x5, .int .i64 x6, .int .i64 x7, .int .i64 x8, .int .i64 x9, .int .i64 x10] #[.int .i64 x0, .int .i64 x1, .int .i64 x2, .int .i64 x3, .int .i64 x4, .int .i64 x5, .int .i64 x6, .int .i64 b7, .int .i64 x8, .int .i64 x9, .int .i64 x10] ∧ W.cell? ⟨gx, 0, none⟩ = some (.int .i64 x0) ∧ W.cell? ⟨gx, 1, none⟩ = some (.int .i64 x1) ∧ W.cell? ⟨gx, 2, none⟩ = some (.int .i64 x2) ∧ W.cell? ⟨gx, 3, none⟩ = some (.int .i64 x3) ∧ W.cell? ⟨gx, 4, none⟩ = some (.int .i64 x4) ∧ W.cell? ⟨gx, 5, none⟩ = some (.int .i64 x5) ∧ W.cell? ⟨gx, 6, none⟩ = some (.int .i64 x6) ∧ W.cell? ⟨gx, 7, none⟩ = some (.int .i64 x7) ∧ W.cell? ⟨gx, 8, none⟩ = some (.int .i64 x8) ∧ W.cell? ⟨gx, 9, none⟩ = some (.int .i64 x9) ∧ W.cell? ⟨gx, 10, none⟩ = some (.int .i64 x10) ∧ W.cell? ⟨gy, 0, none⟩ = some (.int .i64 x0) ∧ W.cell? ⟨gy, 1, none⟩ = some (.int .i64 x1) ∧ W.cell? ⟨gy, 2, none⟩ = some (.int .i64 x2) ∧ W.cell? ⟨gy, 3, none⟩ = some (.int .i64 x3) ∧ W.cell? ⟨gy, 4, none⟩ = some (.int .i64 x4) ∧ W.cell? ⟨gy, 5, none⟩ = some (.int .i64 x5) ∧ W.cell? ⟨gy, 6, none⟩ = some (.int .i64 x6) ∧ W.cell? ⟨gy, 7, none⟩ = some (.int .i64 b7) ∧ W.cell? ⟨gy, 8, none⟩ = some (.int .i64 x8) ∧ W.cell? ⟨gy, 9, none⟩ = some (.int .i64 x9) ∧ W.cell? ⟨gy, 10, none⟩ = some (.int .i64 x10)) :=
  ⟨h, (blk_cell h.x 0).trans rfl, (blk_cell h.x 1).trans rfl, (blk_cell h.x 2).trans rfl, (blk_cell h.x 3).trans rfl, (blk_cell h.x 4).trans rfl, (blk_cell h.x 5).trans rfl, (blk_cell h.x 6).trans rfl, (blk_cell h.x 7).trans rfl, (blk_cell h.x 8).trans rfl, (blk_cell h.x 9).trans rfl, (blk_cell h.x 10).trans rfl, (blk_cell h.y 0).trans rfl, (blk_cell h.y 1).trans rfl, (blk_cell h.y 2).trans rfl, (blk_cell h.y 3).trans rfl, (blk_cell h.y 4).trans rfl, (blk_cell h.y 5).trans rfl, (blk_cell h.y 6).trans rfl, (blk_cell h.y 7).trans rfl, (blk_cell h.y 8).trans rfl, (blk_cell h.y 9).trans rfl, (blk_cell h.y 10).trans rfl⟩
theorem con_ot {x0 x1 x2 x3 x4 x5 x6 x7 x8 x9 x10 b7 : Int} (hG : GL w) (h : Ot w W gd L ad l v9 ch gx gy #[.int .i64 x0, .int .i64 x1, .int .i64 x2, .int .i64 x3, .int .i64 x4, .int .i64 x5, .int .i64 x6, .int .i64 x7, .int .i64 x8, .int .i64 x9, .int .i64 x10] #[.int .i64 x0, .int .i64 x1, .int .i64 x2, .int .i64 x3, .int .i64 x4, .int .i64 x5, .int .i64 x6, .int .i64 b7, .int .i64 x8, .int .i64 x9, .int .i64 x10]) (hx : vldS ⟨x0, x1, x2, x3, x4, x5, x6, x7, x8, x9, x10⟩ = true) (h5 : x5 = 1) (hb : 0 ≤ b7 ∧ b7 ≤ 999) :
    Calls Tryd.prog 21 #[.agg #[.int .i64 x0, .int .i64 x1, .int .i64 x2, .int .i64 x3, .int .i64 x4, .int .i64 x5, .int .i64 x6, .int .i64 x7, .int .i64 x8, .int .i64 x9, .int .i64 x10], .agg #[.int .i64 x0, .int .i64 x1, .int .i64 x2, .int .i64 x3, .int .i64 x4, .int .i64 x5, .int .i64 x6, .int .i64 b7, .int .i64 x8, .int .i64 x9, .int .i64 x10]] W fun e w' => e = .returned (.bool (!(x7 == b7))) ∧ Below W.heap.size W w' :=
  statement_Contradict.calls x0 x1 x2 x3 x4 x5 x6 x7 x8 x9 x10 x0 x1 x2 x3 x4 x5 x6 b7 x8 x9 x10 _ W (con_other hx h5 b7 hb) (hG.step h.h.hb)
end
set_option maxRecDepth 100000 in
set_option maxHeartbeats 8000000 in
theorem chains_x (A0 : Option Addr) (c0 : Nat) (L : List Int) (cut by_ : Int) (w : World) (hr0 : Kd.C (Kd.int .i64) w A0 L.length L) (hc0 : L.length ≤ c0) (hcut : 0 ≤ cut ∧ cut ≤ 255) (hby : 0 ≤ by_ ∧ by_ ≤ 255) (hG : GL w) :
    Calls Tryd.prog 5 #[.slice A0 L.length c0, .int .u8 cut, .int .u8 by_] w fun e w' => e = .returned (.bool true) ∧ Below w.heap.size w w' := by
  have mixed : (Tryd.prog).follows .mixedOrders = true := by kernel_rfl
  have hu39 := Tryd.underlying39
  have hu25 := Tryd.underlying25
  have HG := Aside0.mk hG
  have HR0 := Aside0.mk hr0
  have HB := Aside0.mk (Below.refl w.heap.size w)
  clear hr0 hG
  by_cases h1 : (L.length : Int) ≤ 500
  case neg =>
    have F2 : Aside0 (storagebartermake_Few.f L = some false) := ⟨by unfold storagebartermake_Few.f; rw [decide_eq_false h1]⟩
    clear h1
    go_enter Tryd.func5, Tryd.ntmps5
    go_wp2_with (first | (go_at_call 8; with_reducible refine (sane_x _ HG.out).mono ?_; rintro e w1 ⟨rfl, hb⟩; have n1_ := Aside0.mk (below_step HB.out hb); clear HB hb; have HB := n1_; clear n1_) | (go_at_call 9; with_reducible refine (storagebartermake_Few.calls A0 c0 L _ _ (Kd.C_below HR0.out HB.out) hc0 F2.out).mono ?_; rintro e w2 ⟨rfl, hd⟩; have n1_ := Aside0.mk (below_step HB.out hd.below); clear HB hd; have HB := n1_; clear n1_))
    go_ret
    exact ⟨rfl, HB.out⟩
  case pos =>
  have F2 : Aside0 (storagebartermake_Few.f L = some true) := ⟨by unfold storagebartermake_Few.f; rw [decide_eq_true h1]⟩
  have hL : L.length ≤ 1000000 := by omega
  obtain ⟨l, sec, at1, e3, hM, hl2, hat1⟩ := People_ok L hL 0 (by omega) 2 (by omega) 3 (by omega)
  rw [show ((2 : Nat) : Int) = 2 from rfl] at e3
  have F3 := Aside0.mk e3
  have HM := Aside0.mk hM
  have HL2 := Lib.hid hl2
  have hl0 : 0 < l.length := by omega
  have hl16 : l.length ≤ 16 := by omega
  clear h1 e3 hM hl2
  have q0 : rd_T25 l ((0 : Nat) : Int) = l[0] := by simp [rd_T25, List.getD, hl0]
  obtain ⟨p1, hp1⟩ : ∃ p1, p1 = l[0].f1 := ⟨_, rfl⟩
  have hP : Holds l 1 p1 := by rw [hp1]; exact holds_made HM.out hl16 0 hl0
  have hid : (rd_T25 l ((0 : Nat) : Int)).f0 = 1 := by rw [q0]; exact HM.out.ids 0 hl0
  have his : (rd_T25 l ((0 : Nat) : Int)).f1 = p1 := by rw [q0, hp1]
  have HP := Aside0.mk hP
  have HPW : Aside0 (within p1) := ⟨hP.2.2⟩
  have HID := Lib.hid hid
  have HIS := Lib.hid his
  clear q0 hp1 hP hid his
  go_enter Tryd.func5, Tryd.ntmps5
  go_wp2_with (first | (go_at_call 8; with_reducible refine (sane_x _ HG.out).mono ?_; rintro e w1 ⟨rfl, hb⟩; have n1_ := Aside0.mk (below_step HB.out hb); clear HB hb; have HB := n1_; clear n1_) | (go_at_call 9; with_reducible refine (storagebartermake_Few.calls A0 c0 L _ _ (Kd.C_below HR0.out HB.out) hc0 F2.out).mono ?_; rintro e w2 ⟨rfl, hd⟩; have n1_ := Aside0.mk (below_step HB.out hd.below); clear HB hd; have HB := n1_; clear n1_) | (go_at_call 10; with_reducible refine (storagebartermake_New.calls A0 c0 L L 0 w _ HB.out HR0.out hc0 rfl).mono ?_; rintro e w5 ⟨gd, rfl, hI, hB, hb⟩; have HI := Aside0.mk hI; clear HB; have HB := Aside0.mk hB; clear hI hB hb) | (go_at_call 11; with_reducible refine (storagebartermake_People.calls 3 gd L 0 2 l at1 w _ HI.out HB.out F3.out).mono ?_; rintro e w6 ⟨v8, rfl, hR, hI, hB, hk⟩; obtain ⟨ad, c8, rfl⟩ := Kd.R_slice1 hR hl0; have HC := Aside0.mk (CW.mk hB ⟨at1, hat1, hI⟩ (Kd.R_reads' hR).2.2 (Kd.R_typed hR _ (by simp [Value.ownBlock])) (Kd.R_nil _ _ _ _ _) : CW w w6 gd L ad l (.slice none 0 0) []); have hc8 : l.length ≤ c8 := (Kd.R_reads' hR).2.1; clear HI HB hR hI hk; have HB := Aside0.mk hB; clear hB) | (go_at_call 16; with_reducible refine (HC.out.turn hL 9 (by omega)).mono ?_; rintro e w7 ⟨n0, rfl, hn0, hn0', hcw⟩; clear HC; have HC := Aside0.mk hcw; clear hcw))
  have HS0 : Aside0 (CW w w7 gd L ad l (.slice none 0 0) []) := HC
  clear HC HB F2 F3
  go_loopw [9, 10, 11] (fun s9 s10 s11 wr => ∃ (A9 : Option Addr) (c9 : Nat) (ch : List S39) (tk n : Int), s9 = .slice A9 ch.length c9 ∧ s10 = .int .i64 tk ∧ s11 = .int .i64 n ∧ (0 ≤ n ∧ (ch.length : Int) + n ≤ 8) ∧ (0 ≤ tk ∧ tk ≤ 2 * (ch.length : Int)) ∧ Aside0 (Chn p1 ch tk) ∧ Aside0 (CW w wr gd L ad l (.slice A9 ch.length c9) ch)) (fun _ _ s11 _ => (intOf s11).toNat)
  case atStart => exact ⟨none, 0, [], 0, n0, rfl, rfl, rfl, ⟨hn0, by simp; omega⟩, ⟨by omega, by simp⟩, ⟨Gd.nil _ _ _, fun z => absurd z (Nat.not_lt_zero _), fun s hs => by cases hs⟩, HS0⟩
  case round =>
    obtain ⟨A9, c9, ch, tk, n, rfl, rfl, rfl, hnn, htk, HCH, HC⟩ := hrel
    by_cases hlt : 0 < n
    case neg =>
      have hd1 : decide (0 < n) = false := decide_eq_false hlt
      have hWF := Lib.hid (HM.out.wf hl16)
      have hlc : ch.length ≤ 256 := by omega
      obtain ⟨kc, hkc⟩ : ∃ kc : Nat, cut % ((ch.length : Int) + 1) = (kc : Int) := ⟨(cut % ((ch.length : Int) + 1)).toNat, by have := Int.emod_nonneg cut (show (ch.length : Int) + 1 ≠ 0 by omega); omega⟩
      have hkl : kc ≤ ch.length := by have := Int.emod_lt_of_pos cut (show 0 < (ch.length : Int) + 1 by omega); omega
      have hc9 : ch.length ≤ c9 := (Kd.R_reads' HC.out.cr).2.1
      have hkc9 : kc ≤ c9 := Nat.le_trans hkl hc9
      go_wp2_with (go_at_call 18; with_reducible refine (check_cw HG.out HC.out HCH.out HP.out hWF.out hc8 hlc _ (by first | exact Nat.le_refl _ | exact hkl)).mono ?_; rintro e w10 ⟨rfl, hb⟩; have n_ := Aside0.mk (CW.below HC.out hb); clear HC hb; have HC := n_; clear n_)
      clear hd1 hnn htk hkl hc9 hkc9 hkc
      go_loopw [84] (fun s84 wr => ∃ i : Nat, i ≤ ch.length ∧ s84 = .int .i64 i ∧ Aside0 (CW w wr gd L ad l (.slice A9 ch.length c9) ch)) (fun s84 _ => ch.length - (intOf s84).toNat)
      case atStart => exact ⟨0, Nat.zero_le _, rfl, HC⟩
      case round =>
        clear HC
        obtain ⟨i, hi, rfl, HC⟩ := hrel
        by_cases hil : i < ch.length
        case neg =>
          obtain rfl : i = ch.length := by omega
          go_wp2
          go_ret
          exact ⟨rfl, HC.out.hb⟩
        case pos =>
          obtain ⟨ad2, ead, hx0, hx1, hx2, hx3, hx4, hx5, hx6, hx7, hx8, hx9, hx10⟩ := at_T39 (Kd.R_reads' HC.out.cr).2.2 i (by omega) (by omega)
          cases ead
          simp only [Int.toNat_natCast] at hx0 hx1 hx2 hx3 hx4 hx5 hx6 hx7 hx8 hx9 hx10
          obtain ⟨e, he⟩ : ∃ e, e = rd_T39 ch i := ⟨_, rfl⟩
          rw [← he] at hx0 hx1 hx2 hx3 hx4 hx5 hx6 hx7 hx8 hx9 hx10
          have hfit := HCH.out.gd i hil
          have hvx : vldS e = true := by rw [he]; exact hfit.v
          have he2 : e.f2 = (i : Int) + 1 := by rw [he]; exact hfit.e2
          have hk5 : e.f5 = 1 := by rw [he, rdL ch i hil]; exact HCH.out.kd _ (List.getElem_mem hil)
          have hb7 : 0 ≤ e.f7 ∧ e.f7 ≤ 2147483646 := vld_b hvx hk5
          have HE := Lib.hid he
          clear he hfit
          obtain ⟨x0, x1, x2, x3, x4, x5, x6, x7, x8, x9, x10⟩ := e
          simp only at hx0 hx1 hx2 hx3 hx4 hx5 hx6 hx7 hx8 hx9 hx10 he2 hk5 hb7
          subst he2
          have HVX := Lib.hid hvx
          have HK5 := Lib.hid hk5
          clear hvx hk5
          obtain ⟨hb71, hb72⟩ := hb7
          have hadl := World.block_lt_of_cell? wr _ hx0
          have hic9 : i ≤ c9 := Nat.le_trans (Nat.le_of_lt hil) (Kd.R_reads' HC.out.cr).2.1
          have HBX := Aside0.mk (heap_alloc_new wr (.cells #[.int .i64 x0, .int .i64 x1, .int .i64 ((i : Int) + 1), .int .i64 x3, .int .i64 x4, .int .i64 x5, .int .i64 x6, .int .i64 x7, .int .i64 x8, .int .i64 x9, .int .i64 x10] 39))
          have HCW := Aside0.mk (HC.out.alloc (.cells #[.int .i64 x0, .int .i64 x1, .int .i64 ((i : Int) + 1), .int .i64 x3, .int .i64 x4, .int .i64 x5, .int .i64 x6, .int .i64 x7, .int .i64 x8, .int .i64 x9, .int .i64 x10] 39))
          have hi1 : IntKind.i64.wrap ((i : Int) + 1) = (i : Int) + 1 := IntWalk.i64_in _ (by omega)
          clear HC
          go_wp2_with (go_at_call 20; with_reducible refine (ver_cw HG.out HCW.out HCH.out HP.out hWF.out hc8 i hil HE.out.symm).mono ?_; rintro e w11 ⟨rfl, hb⟩; have n1_ := Aside0.mk (CW.below HCW.out hb); have n2_ := Aside0.mk (blk_below HBX.out hb); clear HCW HBX hb; have HCW := n1_; have HBX := n2_; clear n1_ n2_; have hbx0_ : w11.cell? ⟨wr.heap.size, 0, none⟩ = some _ := (blk_cell HBX.out 0).trans rfl; have hbx1_ : w11.cell? ⟨wr.heap.size, 1, none⟩ = some _ := (blk_cell HBX.out 1).trans rfl; have hbx2_ : w11.cell? ⟨wr.heap.size, 2, none⟩ = some _ := (blk_cell HBX.out 2).trans rfl; have hbx3_ : w11.cell? ⟨wr.heap.size, 3, none⟩ = some _ := (blk_cell HBX.out 3).trans rfl; have hbx4_ : w11.cell? ⟨wr.heap.size, 4, none⟩ = some _ := (blk_cell HBX.out 4).trans rfl; have hbx5_ : w11.cell? ⟨wr.heap.size, 5, none⟩ = some _ := (blk_cell HBX.out 5).trans rfl; have hbx6_ : w11.cell? ⟨wr.heap.size, 6, none⟩ = some _ := (blk_cell HBX.out 6).trans rfl; have hbx7_ : w11.cell? ⟨wr.heap.size, 7, none⟩ = some _ := (blk_cell HBX.out 7).trans rfl; have hbx8_ : w11.cell? ⟨wr.heap.size, 8, none⟩ = some _ := (blk_cell HBX.out 8).trans rfl; have hbx9_ : w11.cell? ⟨wr.heap.size, 9, none⟩ = some _ := (blk_cell HBX.out 9).trans rfl; have hbx10_ : w11.cell? ⟨wr.heap.size, 10, none⟩ = some _ := (blk_cell HBX.out 10).trans rfl)
          have hi2 : i ≤ ch.length := by omega
          obtain ⟨gx, hgx⟩ : ∃ gx, wr.heap.size = gx := ⟨_, rfl⟩
          have HGX := Aside0.mk hgx
          rw [hgx] at HBX
          rw [hgx]
          clear hgx
          go_loopw [104] (fun s104 wq => ∃ j : Nat, j ≤ i ∧ s104 = .int .i64 j ∧ Aside0 (CW w wq gd L ad l (.slice (some ad2) ch.length c9) ch) ∧ Aside0 (wq.heap[gx]? = some (.cells #[.int .i64 x0, .int .i64 x1, .int .i64 ((i : Int) + 1), .int .i64 x3, .int .i64 x4, .int .i64 x5, .int .i64 x6, .int .i64 x7, .int .i64 x8, .int .i64 x9, .int .i64 x10] 39 (0, 0)))) (fun s104 _ => i - (intOf s104).toNat)
          case atStart => exact ⟨0, Nat.zero_le _, rfl, HCW, HBX⟩
          case round =>
            clear HCW HBX hbx0_ hbx1_ hbx2_ hbx3_ hbx4_ hbx5_ hbx6_ hbx7_ hbx8_ hbx9_ hbx10_
            obtain ⟨j, hj, rfl, HCW, HBX⟩ := hrel
            by_cases hji : j < i
            case pos =>
              obtain ⟨ad3, ead3, hy0, hy1, hy2, hy3, hy4, hy5, hy6, hy7, hy8, hy9, hy10⟩ := at_T39 (Kd.R_reads' HCW.out.cr).2.2 j (by omega) (by omega)
              cases ead3
              simp only [Int.toNat_natCast] at hy0 hy1 hy2 hy3 hy4 hy5 hy6 hy7 hy8 hy9 hy10
              obtain ⟨f, hf⟩ : ∃ f, f = rd_T39 ch j := ⟨_, rfl⟩
              rw [← hf] at hy0 hy1 hy2 hy3 hy4 hy5 hy6 hy7 hy8 hy9 hy10
              have hfit2 := HCH.out.gd j (by omega)
              have hvy : vldS f = true := by rw [hf]; exact hfit2.v
              have hf2 : f.f2 = (j : Int) + 1 := by rw [hf]; exact hfit2.e2
              clear hf hfit2
              obtain ⟨y0, y1, y2, y3, y4, y5, y6, y7, y8, y9, y10⟩ := f
              simp only at hy0 hy1 hy2 hy3 hy4 hy5 hy6 hy7 hy8 hy9 hy10 hf2
              subst hf2
              have hcn := con_num (x := ⟨x0, x1, ((i : Int) + 1), x3, x4, x5, x6, x7, x8, x9, x10⟩) (y := ⟨y0, y1, ((j : Int) + 1), y3, y4, y5, y6, y7, y8, y9, y10⟩) (by simp only; omega) HVX.out hvy
              have HCN := Lib.hid hcn
              clear hcn hvy
              have hady := World.block_lt_of_cell? wr _ hy0
              have hbx0_ : wr.cell? ⟨gx, 0, none⟩ = some _ := (blk_cell HBX.out 0).trans rfl
              have hbx1_ : wr.cell? ⟨gx, 1, none⟩ = some _ := (blk_cell HBX.out 1).trans rfl
              have hbx2_ : wr.cell? ⟨gx, 2, none⟩ = some _ := (blk_cell HBX.out 2).trans rfl
              have hbx3_ : wr.cell? ⟨gx, 3, none⟩ = some _ := (blk_cell HBX.out 3).trans rfl
              have hbx4_ : wr.cell? ⟨gx, 4, none⟩ = some _ := (blk_cell HBX.out 4).trans rfl
              have hbx5_ : wr.cell? ⟨gx, 5, none⟩ = some _ := (blk_cell HBX.out 5).trans rfl
              have hbx6_ : wr.cell? ⟨gx, 6, none⟩ = some _ := (blk_cell HBX.out 6).trans rfl
              have hbx7_ : wr.cell? ⟨gx, 7, none⟩ = some _ := (blk_cell HBX.out 7).trans rfl
              have hbx8_ : wr.cell? ⟨gx, 8, none⟩ = some _ := (blk_cell HBX.out 8).trans rfl
              have hbx9_ : wr.cell? ⟨gx, 9, none⟩ = some _ := (blk_cell HBX.out 9).trans rfl
              have hbx10_ : wr.cell? ⟨gx, 10, none⟩ = some _ := (blk_cell HBX.out 10).trans rfl
              have hgb2 := blk_lt HBX.out
              go_wp2_with (go_at_call 21; with_reducible refine (con_cw HG.out (HCW.out.alloc _) ⟨x0, x1, ((i : Int) + 1), x3, x4, x5, x6, x7, x8, x9, x10⟩ ⟨y0, y1, ((j : Int) + 1), y3, y4, y5, y6, y7, y8, y9, y10⟩ false HCN.out).mono ?_; rintro e w12 ⟨rfl, hb⟩; have n1_ := Aside0.mk (CW.below (HCW.out.alloc _) hb); have n2_ := Aside0.mk (blk_below (blk_alloc HBX.out _) hb); clear HCW HBX hb; have HCW := n1_; have HBX := n2_; clear n1_ n2_)
              go_roundw
              case rel => first | exact ⟨j + 1, by omega, by go_num, HCW, HBX⟩ | ((repeat apply Exists.intro); exact ⟨⟨j + 1, by omega, by go_num, HCW, HBX⟩, rfl⟩)
              case measure => simp only [intOf]; omega
            case neg =>
              obtain rfl : i = j := by omega
              have hbx0_ : wr.cell? ⟨gx, 0, none⟩ = some _ := (blk_cell HBX.out 0).trans rfl
              have hbx1_ : wr.cell? ⟨gx, 1, none⟩ = some _ := (blk_cell HBX.out 1).trans rfl
              have hbx2_ : wr.cell? ⟨gx, 2, none⟩ = some _ := (blk_cell HBX.out 2).trans rfl
              have hbx3_ : wr.cell? ⟨gx, 3, none⟩ = some _ := (blk_cell HBX.out 3).trans rfl
              have hbx4_ : wr.cell? ⟨gx, 4, none⟩ = some _ := (blk_cell HBX.out 4).trans rfl
              have hbx5_ : wr.cell? ⟨gx, 5, none⟩ = some _ := (blk_cell HBX.out 5).trans rfl
              have hbx6_ : wr.cell? ⟨gx, 6, none⟩ = some _ := (blk_cell HBX.out 6).trans rfl
              have hbx7_ : wr.cell? ⟨gx, 7, none⟩ = some _ := (blk_cell HBX.out 7).trans rfl
              have hbx8_ : wr.cell? ⟨gx, 8, none⟩ = some _ := (blk_cell HBX.out 8).trans rfl
              have hbx9_ : wr.cell? ⟨gx, 9, none⟩ = some _ := (blk_cell HBX.out 9).trans rfl
              have hbx10_ : wr.cell? ⟨gx, 10, none⟩ = some _ := (blk_cell HBX.out 10).trans rfl
              have hgb2 := blk_lt HBX.out
              obtain ⟨b7, hb7e⟩ : ∃ b7, (x7 + by_).tmod 1000 = b7 := ⟨_, rfl⟩
              have hbb : 0 ≤ b7 ∧ b7 ≤ 999 := by rw [← hb7e, Int.tmod_eq_emod_of_nonneg (by omega)]; omega
              have HBB := Aside0.mk hbb
              have hadd : IntKind.i64.wrap (x7 + by_) = x7 + by_ := IntWalk.i64_in _ (by omega)
              go_wp2
              have HOT : Ot w _ gd L ad l (.slice (some ad2) ch.length c9) ch gx wr.heap.size #[.int .i64 x0, .int .i64 x1, .int .i64 ((i : Int) + 1), .int .i64 x3, .int .i64 x4, .int .i64 x5, .int .i64 x6, .int .i64 x7, .int .i64 x8, .int .i64 x9, .int .i64 x10] #[.int .i64 x0, .int .i64 x1, .int .i64 ((i : Int) + 1), .int .i64 x3, .int .i64 x4, .int .i64 x5, .int .i64 x6, .int .i64 b7, .int .i64 x8, .int .i64 x9, .int .i64 x10] := ⟨HCW.out.alloc (.cells #[.int .i64 x0, .int .i64 x1, .int .i64 ((i : Int) + 1), .int .i64 x3, .int .i64 x4, .int .i64 x5, .int .i64 x6, .int .i64 b7, .int .i64 x8, .int .i64 x9, .int .i64 x10] 39), blk_alloc HBX.out _, heap_alloc_new wr _⟩
              obtain ⟨W5, hW5⟩ : ∃ W5, W5 = wr.alloc (.cells #[.int .i64 x0, .int .i64 x1, .int .i64 ((i : Int) + 1), .int .i64 x3, .int .i64 x4, .int .i64 x5, .int .i64 x6, .int .i64 b7, .int .i64 x8, .int .i64 x9, .int .i64 x10] 39) := ⟨_, rfl⟩
              rw [← hW5] at HOT ⊢
              obtain ⟨gy, hgy⟩ : ∃ gy, wr.heap.size = gy := ⟨_, rfl⟩
              rw [hgy] at HOT ⊢
              clear hW5 HCW HBX hbx0_ hbx1_ hbx2_ hbx3_ hbx4_ hbx5_ hbx6_ hbx7_ hbx8_ hbx9_ hbx10_ hgb2 hadd hb7e hgy
              go_region_held3 (fun W => (Ot w W gd L ad l (.slice (some ad2) ch.length c9) ch gx gy #[.int .i64 x0, .int .i64 x1, .int .i64 ((i : Int) + 1), .int .i64 x3, .int .i64 x4, .int .i64 x5, .int .i64 x6, .int .i64 x7, .int .i64 x8, .int .i64 x9, .int .i64 x10] #[.int .i64 x0, .int .i64 x1, .int .i64 ((i : Int) + 1), .int .i64 x3, .int .i64 x4, .int .i64 x5, .int .i64 x6, .int .i64 b7, .int .i64 x8, .int .i64 x9, .int .i64 x10] ∧ W.cell? ⟨gx, 0, none⟩ = some (.int .i64 x0) ∧ W.cell? ⟨gx, 1, none⟩ = some (.int .i64 x1) ∧ W.cell? ⟨gx, 2, none⟩ = some (.int .i64 ((i : Int) + 1)) ∧ W.cell? ⟨gx, 3, none⟩ = some (.int .i64 x3) ∧ W.cell? ⟨gx, 4, none⟩ = some (.int .i64 x4) ∧ W.cell? ⟨gx, 5, none⟩ = some (.int .i64 x5) ∧ W.cell? ⟨gx, 6, none⟩ = some (.int .i64 x6) ∧ W.cell? ⟨gx, 7, none⟩ = some (.int .i64 x7) ∧ W.cell? ⟨gx, 8, none⟩ = some (.int .i64 x8) ∧ W.cell? ⟨gx, 9, none⟩ = some (.int .i64 x9) ∧ W.cell? ⟨gx, 10, none⟩ = some (.int .i64 x10) ∧ W.cell? ⟨gy, 0, none⟩ = some (.int .i64 x0) ∧ W.cell? ⟨gy, 1, none⟩ = some (.int .i64 x1) ∧ W.cell? ⟨gy, 2, none⟩ = some (.int .i64 ((i : Int) + 1)) ∧ W.cell? ⟨gy, 3, none⟩ = some (.int .i64 x3) ∧ W.cell? ⟨gy, 4, none⟩ = some (.int .i64 x4) ∧ W.cell? ⟨gy, 5, none⟩ = some (.int .i64 x5) ∧ W.cell? ⟨gy, 6, none⟩ = some (.int .i64 x6) ∧ W.cell? ⟨gy, 7, none⟩ = some (.int .i64 b7) ∧ W.cell? ⟨gy, 8, none⟩ = some (.int .i64 x8) ∧ W.cell? ⟨gy, 9, none⟩ = some (.int .i64 x9) ∧ W.cell? ⟨gy, 10, none⟩ = some (.int .i64 x10))) (((try go_split_ands); first | (with_reducible refine Ot.all (Ot.drew ?_); with_reducible assumption) | (with_reducible refine Ot.all ?_; with_reducible assumption) | (with_reducible refine Ot.all (Ot.below ?_ hb); with_reducible assumption)))
                (first | (go_at_call 21; (try go_split_ands); with_reducible refine (con_ot HG.out (by with_reducible assumption) HVX.out HK5.out HBB.out).mono ?_; rintro e w' ⟨rfl, hb⟩))
              all_goals
                (try go_split_ands)
                have HCW2 : Aside0 (CW w w' gd L ad l (.slice (some ad2) ch.length c9) ch) := ⟨by refine Ot.h (gx := gx) (gy := gy) (cs := #[.int .i64 x0, .int .i64 x1, .int .i64 ((i : Int) + 1), .int .i64 x3, .int .i64 x4, .int .i64 x5, .int .i64 x6, .int .i64 x7, .int .i64 x8, .int .i64 x9, .int .i64 x10]) (ds := #[.int .i64 x0, .int .i64 x1, .int .i64 ((i : Int) + 1), .int .i64 x3, .int .i64 x4, .int .i64 x5, .int .i64 x6, .int .i64 b7, .int .i64 x8, .int .i64 x9, .int .i64 x10]) ?_; with_reducible assumption⟩
                have hF : (!((!(x7 == b7)) == (b7 != x7))) = false := by
                  have hq : (b7 != x7) = !(x7 == b7) := by rw [bne, Bool.beq_comm]
                  rw [hq]; simp
                rw [hF]
                go_wp2_with fail
                go_roundw
                case rel => first | exact ⟨i + 1, by omega, by go_num, HCW2⟩ | ((repeat apply Exists.intro); exact ⟨⟨i + 1, by omega, by go_num, HCW2⟩, rfl⟩)
                case measure => simp only [intOf]; omega
    case pos =>
      have hd1 : decide (0 < n) = true := decide_eq_true hlt
      obtain ⟨hn1, hn2⟩ := hnn
      obtain ⟨hk1, hk2⟩ := htk
      go_upto_region 13 with (first | (go_at_call 16; with_reducible refine (HC.out.turn hL 3 (by omega)).mono ?_; rintro e w8 ⟨t3, rfl, ht3, ht3', hcw⟩; clear HC; have HC := Aside0.mk hcw; clear hcw))
      obtain ⟨tk2, htk2⟩ : ∃ z, z = tk + t3 := ⟨_, rfl⟩
      rw [← htk2]
      have hb1 : 0 ≤ tk2 ∧ tk2 ≤ 2 * (ch.length : Int) + 2 := by omega
      have HCH2 : Aside0 (Chn p1 ch tk2) := ⟨HCH.out.gd, fun z => by have := HCH.out.last z; omega, HCH.out.kd⟩
      clear HCH
      have HTK := Lib.hid htk2
      clear htk2 hk1 hk2 ht3 ht3'
      obtain ⟨hk1, hk2⟩ := hb1
      have hcl : ch.length < 256 := by omega
      have HTK9 : Aside0 (0 ≤ tk2 ∧ tk2 ≤ 900) := ⟨by omega⟩
      have HSA := HC.out.allC hl0 HID.out HIS.out
      have hcw := HC.out
      go_cut [12, 13] (fun s12 s13 wx => ∃ (g12 : Nat) (s0 s1 s2 s3 s4 s5 s6 s7 s8 s9 s10 : Int), s12 = .pointer (some ⟨g12, 0, none⟩) ∧ s13 = .int .i64 0 ∧ Aside0 (Chn p1 (ch ++ [⟨s0, s1, s2, s3, s4, s5, s6, s7, s8, s9, s10⟩]) tk2) ∧ Aside0 (CW w wx gd L ad l (.slice A9 ch.length c9) ch) ∧ Aside0 (ZB w wx g12 (.slice A9 ch.length c9) #[.int .i64 s0, .int .i64 s1, .int .i64 s2, .int .i64 s3, .int .i64 s4, .int .i64 s5, .int .i64 s6, .int .i64 s7, .int .i64 s8, .int .i64 s9, .int .i64 s10]))
      case first =>
        go_region_held3 (fun W => CW w W gd L ad l (.slice A9 ch.length c9) ch ∧ W.cell? ad = some (.int .i64 1) ∧ W.cell? ⟨ad.block, ad.off + 1, none⟩ = some (.int .i64 p1)) ((first | (with_reducible exact CW.allC (CW.far11 HCN.out HZ.out _ _ _ _ _ _ _ _ _ _ _) hl0 HID.out HIS.out) | (with_reducible exact CW.allC (CW.alloc HCN.out _) hl0 HID.out HIS.out) | (with_reducible exact CW.allC HCN.out hl0 HID.out HIS.out) | (with_reducible exact CW.allC hcw hl0 HID.out HIS.out) | (with_reducible exact CW.allC (CW.drew hcw) hl0 HID.out HIS.out) | (with_reducible exact CW.allC (CW.alloc hcw _) hl0 HID.out HIS.out) | (with_reducible exact CW.allC (CW.drew (CW.alloc hcw _)) hl0 HID.out HIS.out)))
          (first | (go_at_call 16; (try go_split_ands); with_reducible refine (CW.turnA hcw hL 64 (by decide)).mono ?_; rintro e w' ⟨ta, rfl, hta, hta', hcw, hz⟩; have HZ := Aside0.mk hz; clear hz) | (go_at_call 16; (try go_split_ands); with_reducible refine (CW.turnZ (CW.drew (CW.alloc hcw _)) (ZB.below (CW.made hcw #[.int .i64 0, .int .i64 0, .int .i64 0, .int .i64 0, .int .i64 0, .int .i64 0, .int .i64 0, .int .i64 0, .int .i64 0, .int .i64 0, .int .i64 0]) (below_drew1 (Below.refl _ _))) hL 64 (by decide)).mono ?_; rintro e w' ⟨ta, rfl, hta, hta', hcw, hz⟩; have HZ := Aside0.mk hz; clear hz) | (go_at_call 16; (try go_split_ands); with_reducible refine (CW.turn (CW.drew hcw) hL 64 (by decide)).mono ?_; rintro e w' ⟨ta, rfl, hta, hta', hcw⟩) | (go_at_call 16; (try go_split_ands); with_reducible refine (CW.turnZ hcw HZ.out hL 64 (by decide)).mono ?_; rintro e w' ⟨ta, rfl, hta, hta', hcw, hz⟩; clear HZ; have HZ := Aside0.mk hz; clear hz) | (go_at_call 16; (try go_split_ands); with_reducible refine (CW.turn hcw hL 64 (by decide)).mono ?_; rintro e w' ⟨ta, rfl, hta, hta', hcw⟩) | (go_at_call 16; (try go_split_ands); with_reducible refine (CW.turnA hcw hL 99 (by decide)).mono ?_; rintro e w' ⟨tb, rfl, htb, htb', hcw, hz⟩; have HZ := Aside0.mk hz; clear hz) | (go_at_call 16; (try go_split_ands); with_reducible refine (CW.turnZ (CW.drew (CW.alloc hcw _)) (ZB.below (CW.made hcw #[.int .i64 0, .int .i64 0, .int .i64 0, .int .i64 0, .int .i64 0, .int .i64 0, .int .i64 0, .int .i64 0, .int .i64 0, .int .i64 0, .int .i64 0]) (below_drew1 (Below.refl _ _))) hL 99 (by decide)).mono ?_; rintro e w' ⟨tb, rfl, htb, htb', hcw, hz⟩; have HZ := Aside0.mk hz; clear hz) | (go_at_call 16; (try go_split_ands); with_reducible refine (CW.turn (CW.drew hcw) hL 99 (by decide)).mono ?_; rintro e w' ⟨tb, rfl, htb, htb', hcw⟩) | (go_at_call 16; (try go_split_ands); with_reducible refine (CW.turnZ hcw HZ.out hL 99 (by decide)).mono ?_; rintro e w' ⟨tb, rfl, htb, htb', hcw, hz⟩; clear HZ; have HZ := Aside0.mk hz; clear hz) | (go_at_call 16; (try go_split_ands); with_reducible refine (CW.turn hcw hL 99 (by decide)).mono ?_; rintro e w' ⟨tb, rfl, htb, htb', hcw⟩) | (go_at_call 16; (try go_split_ands); with_reducible refine (CW.turnA hcw hL 9 (by decide)).mono ?_; rintro e w' ⟨td, rfl, htd, htd', hcw, hz⟩; have HZ := Aside0.mk hz; clear hz) | (go_at_call 16; (try go_split_ands); with_reducible refine (CW.turnZ (CW.drew (CW.alloc hcw _)) (ZB.below (CW.made hcw #[.int .i64 0, .int .i64 0, .int .i64 0, .int .i64 0, .int .i64 0, .int .i64 0, .int .i64 0, .int .i64 0, .int .i64 0, .int .i64 0, .int .i64 0]) (below_drew1 (Below.refl _ _))) hL 9 (by decide)).mono ?_; rintro e w' ⟨td, rfl, htd, htd', hcw, hz⟩; have HZ := Aside0.mk hz; clear hz) | (go_at_call 16; (try go_split_ands); with_reducible refine (CW.turn (CW.drew hcw) hL 9 (by decide)).mono ?_; rintro e w' ⟨td, rfl, htd, htd', hcw⟩) | (go_at_call 16; (try go_split_ands); with_reducible refine (CW.turnZ hcw HZ.out hL 9 (by decide)).mono ?_; rintro e w' ⟨td, rfl, htd, htd', hcw, hz⟩; clear HZ; have HZ := Aside0.mk hz; clear hz) | (go_at_call 16; (try go_split_ands); with_reducible refine (CW.turn hcw hL 9 (by decide)).mono ?_; rintro e w' ⟨td, rfl, htd, htd', hcw⟩) | (go_at_call 14; (try go_split_ands); with_reducible refine (next_cw HG.out (CW.alloc hcw (.cells #[.int .i64 0, .int .i64 0, .int .i64 0, .int .i64 0, .int .i64 0, .int .i64 0, .int .i64 0, .int .i64 0, .int .i64 0, .int .i64 0, .int .i64 0] 39)) HCH2.out HPW.out hcl HTK9.out (by assumption) (by assumption) (by assumption) (by assumption) (by assumption) (by assumption) (by assumption) (by assumption)).mono ?_; rintro e w' ⟨s, hs, rfl, hb⟩; have HSN := Aside0.mk hs; clear hs; have HCN : Aside0 (CW w w' gd L ad l (.slice A9 ch.length c9) ch) := ⟨CW.below (CW.alloc hcw _) hb⟩; have HZ := Aside0.mk (ZB.below (CW.made hcw #[.int .i64 0, .int .i64 0, .int .i64 0, .int .i64 0, .int .i64 0, .int .i64 0, .int .i64 0, .int .i64 0, .int .i64 0, .int .i64 0, .int .i64 0]) hb); have hz0_ : w'.cell? ⟨_, 0, none⟩ = some (.int .i64 0) := (blk_cell HZ.out.b 0).trans rfl; have hy0_ := blk_frozen HZ.out.b 0; have hz1_ : w'.cell? ⟨_, 1, none⟩ = some (.int .i64 0) := (blk_cell HZ.out.b 1).trans rfl; have hy1_ := blk_frozen HZ.out.b 1; have hz2_ : w'.cell? ⟨_, 2, none⟩ = some (.int .i64 0) := (blk_cell HZ.out.b 2).trans rfl; have hy2_ := blk_frozen HZ.out.b 2; have hz3_ : w'.cell? ⟨_, 3, none⟩ = some (.int .i64 0) := (blk_cell HZ.out.b 3).trans rfl; have hy3_ := blk_frozen HZ.out.b 3; have hz4_ : w'.cell? ⟨_, 4, none⟩ = some (.int .i64 0) := (blk_cell HZ.out.b 4).trans rfl; have hy4_ := blk_frozen HZ.out.b 4; have hz5_ : w'.cell? ⟨_, 5, none⟩ = some (.int .i64 0) := (blk_cell HZ.out.b 5).trans rfl; have hy5_ := blk_frozen HZ.out.b 5; have hz6_ : w'.cell? ⟨_, 6, none⟩ = some (.int .i64 0) := (blk_cell HZ.out.b 6).trans rfl; have hy6_ := blk_frozen HZ.out.b 6; have hz7_ : w'.cell? ⟨_, 7, none⟩ = some (.int .i64 0) := (blk_cell HZ.out.b 7).trans rfl; have hy7_ := blk_frozen HZ.out.b 7; have hz8_ : w'.cell? ⟨_, 8, none⟩ = some (.int .i64 0) := (blk_cell HZ.out.b 8).trans rfl; have hy8_ := blk_frozen HZ.out.b 8; have hz9_ : w'.cell? ⟨_, 9, none⟩ = some (.int .i64 0) := (blk_cell HZ.out.b 9).trans rfl; have hy9_ := blk_frozen HZ.out.b 9; have hz10_ : w'.cell? ⟨_, 10, none⟩ = some (.int .i64 0) := (blk_cell HZ.out.b 10).trans rfl; have hy10_ := blk_frozen HZ.out.b 10; have hzl_ := blk_lt HZ.out.b; obtain ⟨s0, s1, s2, s3, s4, s5, s6, s7, s8, s9, s10⟩ := s; (try dsimp only)) | (go_at_call 14; (try go_split_ands); with_reducible refine (next_cw HG.out hcw HCH2.out HPW.out hcl HTK9.out (by assumption) (by assumption) (by assumption) (by assumption) (by assumption) (by assumption) (by assumption) (by assumption)).mono ?_; rintro e w' ⟨s, hs, rfl, hb⟩; have HSN := Aside0.mk hs; clear hs; have HCN : Aside0 (CW w w' gd L ad l (.slice A9 ch.length c9) ch) := ⟨CW.below hcw hb⟩; have n1_ := Aside0.mk (ZB.below HZ.out hb); clear HZ; have HZ := n1_; clear n1_; have hz0_ : w'.cell? ⟨_, 0, none⟩ = some (.int .i64 0) := (blk_cell HZ.out.b 0).trans rfl; have hy0_ := blk_frozen HZ.out.b 0; have hz1_ : w'.cell? ⟨_, 1, none⟩ = some (.int .i64 0) := (blk_cell HZ.out.b 1).trans rfl; have hy1_ := blk_frozen HZ.out.b 1; have hz2_ : w'.cell? ⟨_, 2, none⟩ = some (.int .i64 0) := (blk_cell HZ.out.b 2).trans rfl; have hy2_ := blk_frozen HZ.out.b 2; have hz3_ : w'.cell? ⟨_, 3, none⟩ = some (.int .i64 0) := (blk_cell HZ.out.b 3).trans rfl; have hy3_ := blk_frozen HZ.out.b 3; have hz4_ : w'.cell? ⟨_, 4, none⟩ = some (.int .i64 0) := (blk_cell HZ.out.b 4).trans rfl; have hy4_ := blk_frozen HZ.out.b 4; have hz5_ : w'.cell? ⟨_, 5, none⟩ = some (.int .i64 0) := (blk_cell HZ.out.b 5).trans rfl; have hy5_ := blk_frozen HZ.out.b 5; have hz6_ : w'.cell? ⟨_, 6, none⟩ = some (.int .i64 0) := (blk_cell HZ.out.b 6).trans rfl; have hy6_ := blk_frozen HZ.out.b 6; have hz7_ : w'.cell? ⟨_, 7, none⟩ = some (.int .i64 0) := (blk_cell HZ.out.b 7).trans rfl; have hy7_ := blk_frozen HZ.out.b 7; have hz8_ : w'.cell? ⟨_, 8, none⟩ = some (.int .i64 0) := (blk_cell HZ.out.b 8).trans rfl; have hy8_ := blk_frozen HZ.out.b 8; have hz9_ : w'.cell? ⟨_, 9, none⟩ = some (.int .i64 0) := (blk_cell HZ.out.b 9).trans rfl; have hy9_ := blk_frozen HZ.out.b 9; have hz10_ : w'.cell? ⟨_, 10, none⟩ = some (.int .i64 0) := (blk_cell HZ.out.b 10).trans rfl; have hy10_ := blk_frozen HZ.out.b 10; have hzl_ := blk_lt HZ.out.b; obtain ⟨s0, s1, s2, s3, s4, s5, s6, s7, s8, s9, s10⟩ := s; (try dsimp only)) | (go_at_call 14; (try go_split_ands); with_reducible refine (next_cw HG.out hcw HCH2.out HPW.out hcl HTK9.out (by assumption) (by assumption) (by assumption) (by assumption) (by assumption) (by assumption) (by assumption) (by assumption)).mono ?_; rintro e w' ⟨s, hs, rfl, hb⟩; have HSN := Aside0.mk hs; clear hs; have HCN : Aside0 (CW w w' gd L ad l (.slice A9 ch.length c9) ch) := ⟨CW.below hcw hb⟩; obtain ⟨s0, s1, s2, s3, s4, s5, s6, s7, s8, s9, s10⟩ := s; (try dsimp only)))
        all_goals (go_wp2_with fail)
        all_goals go_meet
        all_goals (with_reducible first | exact ⟨_, s0, s1, s2, s3, s4, s5, s6, s7, s8, s9, s10, rfl, rfl, HSN, ⟨HCN.out.alloc _⟩, ⟨CW.made HCN.out _⟩⟩ | exact ⟨_, s0, s1, s2, s3, s4, s5, s6, s7, s8, s9, s10, rfl, rfl, HSN, ⟨CW.far11 HCN.out HZ.out _ _ _ _ _ _ _ _ _ _ _⟩, ⟨ZB.put11 HZ.out _ _ _ _ _ _ _ _ _ _ _⟩⟩)
      case rest =>
        obtain ⟨g12, s0, s1, s2, s3, s4, s5, s6, s7, s8, s9, s10, rfl, rfl, HSN, HC, HZ⟩ := hcut
        have hz0_ : wc.cell? ⟨g12, 0, none⟩ = some (.int .i64 s0) := (blk_cell HZ.out.b 0).trans rfl
        have hz1_ : wc.cell? ⟨g12, 1, none⟩ = some (.int .i64 s1) := (blk_cell HZ.out.b 1).trans rfl
        have hz2_ : wc.cell? ⟨g12, 2, none⟩ = some (.int .i64 s2) := (blk_cell HZ.out.b 2).trans rfl
        have hz3_ : wc.cell? ⟨g12, 3, none⟩ = some (.int .i64 s3) := (blk_cell HZ.out.b 3).trans rfl
        have hz4_ : wc.cell? ⟨g12, 4, none⟩ = some (.int .i64 s4) := (blk_cell HZ.out.b 4).trans rfl
        have hz5_ : wc.cell? ⟨g12, 5, none⟩ = some (.int .i64 s5) := (blk_cell HZ.out.b 5).trans rfl
        have hz6_ : wc.cell? ⟨g12, 6, none⟩ = some (.int .i64 s6) := (blk_cell HZ.out.b 6).trans rfl
        have hz7_ : wc.cell? ⟨g12, 7, none⟩ = some (.int .i64 s7) := (blk_cell HZ.out.b 7).trans rfl
        have hz8_ : wc.cell? ⟨g12, 8, none⟩ = some (.int .i64 s8) := (blk_cell HZ.out.b 8).trans rfl
        have hz9_ : wc.cell? ⟨g12, 9, none⟩ = some (.int .i64 s9) := (blk_cell HZ.out.b 9).trans rfl
        have hz10_ : wc.cell? ⟨g12, 10, none⟩ = some (.int .i64 s10) := (blk_cell HZ.out.b 10).trans rfl
        have hle : (ch.length + 1) * 88 ≤ 140737488355328 := by omega
        have hlen2 : ((ch ++ [(⟨s0, s1, s2, s3, s4, s5, s6, s7, s8, s9, s10⟩ : S39)]).length : Int) = (ch.length : Int) + 1 := by simp
        have HL3 := Lib.hid hlen2
        clear hlen2
        go_wp2_with (at_builtin; refine Kd.R_append k39 (w0 := w) w.heap.size rfl (.tmp 61) (.tmp 63) 23 39 (.agg #[.int .i64 0, .int .i64 0, .int .i64 0, .int .i64 0, .int .i64 0, .int .i64 0, .int .i64 0, .int .i64 0, .int .i64 0, .int .i64 0, .int .i64 0]) 88 rfl Tryd.underlying23 info39 rfl (by decide) (by omega) (.slice A9 ch.length c9) ch (⟨s0, s1, s2, s3, s4, s5, s6, s7, s8, s9, s10⟩ : S39) [.int .i64 s0, .int .i64 s1, .int .i64 s2, .int .i64 s3, .int .i64 s4, .int .i64 s5, .int .i64 s6, .int .i64 s7, .int .i64 s8, .int .i64 s9, .int .i64 s10] (fun _ => True) (fun _ => False) rfl rfl (k39_mkM _ _ _ _) (fun _ hk => hk.elim) (fun _ _ => trivial) HC.out.cr HC.out.hb HC.out.hb.size hle ?_; intro v1 w9 ho hb hg hat; have n_ := Aside0.mk (CW.app HC.out ho hb hg); clear HC; have HC := n_; clear n_ ho hb hg hat; obtain ⟨Ao, co, eo⟩ := Kd.R_slice HC.out.cr; subst eo)
        go_roundw
        case rel =>
          exact ⟨Ao, co, ch ++ [⟨s0, s1, s2, s3, s4, s5, s6, s7, s8, s9, s10⟩], tk2, n - 1, (by rw [List.length_append]; rfl), rfl, rfl, ⟨by omega, by rw [HL3.out]; omega⟩, ⟨hk1, by rw [HL3.out]; omega⟩, HSN, HC⟩
        case measure =>
          show (intOf (.int .i64 (n - 1))).toNat < (intOf (.int .i64 n)).toNat
          simp only [intOf]
          omega
end Go.Proofs.YtcalkhlchjjalaaDoor.Gsc

namespace Go.Proofs.YtcalkhlchjjalaaDoor.statementChains
open Go.ChangeShapes Go.WideShapes Go.ChangeAt Go.RowKit
set_option linter.unusedVariables false
theorem own : ownKnob Tryd.prog.godebug = none := by kernel_rfl
theorem laidOut : laidOutB Tryd.prog = true := by kernel_rfl
def IsRow (k : IntKind) (w : World) (a : Option Addr) (len cap : Nat) (zs : List Int) : Prop :=
  (a = none ∧ len = 0 ∧ cap = 0 ∧ zs = []) ∨
  ∃ x, a = some x ∧ len ≤ cap ∧ cap ≤ maxLen ∧ zs.length = cap ∧ (∀ i, i < zs.length → w.cell? (x.add i) = some (.int k (zs.getD i 0))) ∧ ∀ n ∈ zs, (Lit.int k n).wf = true
set_option maxRecDepth 100000 in
theorem lifted (os : Os) (started : os.Started) (H : Type) (enc : TypeId × Value → H) :
    ReturnsInHanded {} Tryd.checked os 5 .any (fun w args => (Rows.statementChainsSpec.pre enc Tryd.prog Tryd.f5 Rows.statementChainsRow.domain false w args ∧ laidMetH Tryd.prog Gla.Lst w) ∧ sizedMet enc Tryd.prog Tryd.f5 (OpenSpec.ofChange Rows.statementChainsSpec) false w args) (Rows.statementChainsSpec.post enc Tryd.prog Tryd.f5 false true false false) := by
  refine returnsInHanded_of_change_and (C := Tryd.checked) (X := fun w _ => laidMetH Tryd.prog Gla.Lst w) (fun _ _ _ hh h => h.of_heap hh) own started (by kernel_rfl) Tryd.func5
    (ChangeSpec.witness_shaped (enc := enc) (C := Tryd.checked) (os := os) (X := fun w _ => laidMetH Tryd.prog Gla.Lst w) false (World.laidAll Tryd.prog os Gla.Lst) #[.slice none 0 0, .int .u8 0, .int .u8 0] 8 (World.laidAll_os _ _ _)
      (World.shaped_of_ZipB (by kernel_rfl) (by kernel_rfl)) (by kernel_rfl) (by kernel_rfl) (by kernel_rfl)
      (by rw [MakeChecks.laidMetH_plain _ _ _ (by kernel_rfl)]; exact laidMet_laidAll _ (by kernel_rfl) (by kernel_rfl))) ?_
  intro W base args ds gs before hval0 hW hcnd hsz0 hL _
  have hval : ∀ (j : Nat) t v, Tryd.f5.params[j]? = some t → args[j]? = some v → Value.okWide Tryd.prog W .any base t v := hval0
  have hW' := hW
  obtain ⟨p, q, hA0, hV, rfl, hfz, hnd⟩ := hW
  have hA : DataW.TrodAll enc Tryd.prog W 0 (fun _ => true) true Tryd.f5.params.toList args.toList ds p := hA0
  rw [Tryd.params5] at hA hval
  obtain ⟨v0, vs0, d0, ds0, p0, q0, hargs, rfl, rfl, h0, r0⟩ := trodAll_cons hA
  obtain ⟨v1, vs1, d1, ds1, p1, q1, rfl, rfl, rfl, h1, r1⟩ := trodAll_cons r0
  obtain ⟨v2, vs2, d2, ds2, p2, q2, rfl, rfl, rfl, h2, r2⟩ := trodAll_cons r1
  obtain ⟨rfl, rfl, rfl⟩ := trodAll_nil r2
  obtain rfl : args = #[v0, v1, v2] := by cases args; simp_all
  obtain ⟨rfl, rfl⟩ := trodVars_none hV
  obtain ⟨a0, len0, cap0, rfl⟩ := okWide_slice Tryd.underlying22 (hval 0 22 v0 rfl rfl)
  have k0 := h0
  have lt0 : ∀ x ∈ p0, x.block < W.heap.size := by obtain ⟨m, hm⟩ := k0; exact DataW.trod_lt m _ _ _ hm
  obtain ⟨z0, w0⟩ : ∃ zs, IsRow .i64 W a0 len0 cap0 zs := by
    obtain ⟨fuel, hf⟩ := h0
    rcases open_ints Tryd.underlying22 Tryd.underlying3 (by kernel_rfl) hf with ⟨hcs, _⟩ | ⟨x, l, c, zs, hcs, _, hl, hm, hz, _, hcell, hwz⟩
    · simp [Value.cells] at hcs
      obtain ⟨rfl, rfl, rfl⟩ := hcs
      exact ⟨[], .inl ⟨rfl, rfl, rfl, rfl⟩⟩
    · simp [Value.cells] at hcs
      obtain ⟨rfl, rfl, rfl⟩ := hcs
      exact ⟨zs, .inr ⟨_, rfl, hl, hm, by simpa using hz, hcell, hwz⟩⟩
  obtain ⟨a1, rfl, rfl, rfl, w1⟩ := open_int Tryd.underlying5 (hval 1 5 v1 rfl rfl) h1
  obtain ⟨a2, rfl, rfl, rfl, w2⟩ := open_int Tryd.underlying5 (hval 2 5 v2 rfl rfl) h2
  clear hA0 hval0 hsz0
  obtain ⟨l0, rfl, hr0, hm0, hw0, hc0⟩ := Go.Proofs.YtcalkhlchjjalaaDoorW.PrintWords.ReadsInt.ofRowC w0
  have b1 : 0 ≤ a1 ∧ a1 ≤ 255 := by simpa [Lit.wf, IntKind.min, IntKind.max, IntKind.signed, IntKind.bits] using w1
  have b2 : 0 ≤ a2 ∧ a2 ≤ 255 := by simpa [Lit.wf, IntKind.min, IntKind.max, IntKind.signed, IntKind.bits] using w2
  refine (Gsc.chains_x a0 cap0 l0 a1 a2 W (Go.Proofs.YtcalkhlchjjalaaDoorW.PrintWords.Kd.C_of_reads (d := (0 : Int)) (h1 := fun _ => rfl) hr0) hc0 b1 b2 (Gla.GL_of_laid hL)).mono fun e W' ⟨he, bel⟩ => ?_
  subst he
  exact ⟨_, rfl, _, _, _, [], _, [], hW', trodAll_mk1 (shut_bool Tryd.underlying4 _), (trodAll_cons_mk (Below.trod laidOut (by kernel_rfl) (of_decide_eq_true (by kernel_rfl)) k0 bel lt0) (trodAll_cons_mk (shut_int Tryd.underlying5 w1) (trodAll_cons_mk (shut_int Tryd.underlying5 w2) trodAll_mk0))), rfl, bel.frame _, fun h => by cases h⟩
theorem over : Rows.StatementChainsSaid :=
  OpenClaim.holds_of_wide 5 Tryd.f5 rfl rfl rfl rfl rfl rfl rfl ⟨rfl, rfl, rfl, rfl, rfl⟩ rfl rfl rfl rfl rfl (by kernel_rfl) Tryd.func5 (by kernel_rfl)
    (of_decide_eq_true (by kernel_rfl)) (by unfold Func.isWrapper; first | (rw [if_pos (by decide +kernel)]; kernel_rfl) | (rw [if_neg (by decide +kernel)]; exact ⟨rfl, rfl⟩))
    (fun os started H enc _ => lifted os started H enc)
theorem card : Rows.StatementChainsCardSaid :=
  Claim7.holds_tied_plain_at .later [] [.wider, .wider, .data] true (true, "5d651258c026d4f3c1937d3a0b343ce8ca524cb81f341bc712b54841b9e85cc9") false over (fun _ h => by cases h) (by kernel_rfl) (fun _ h => by cases h) statementChains_row_tie rfl ⟨rfl, rfl⟩ (by kernel_rfl) rfl
    (fun f fn hf hfn => by
      obtain rfl : f = 5 := Option.some.inj ((show Tryd.prog.funcNamed "storagebarter/storagebarterlaw15.StatementChains" = some 5 by kernel_rfl).symm.trans hf) |>.symm
      obtain rfl : fn = Tryd.f5 := (Option.some.inj (Tryd.func5.symm.trans hfn)).symm
      exact ⟨by kernel_rfl, fun j t ht => by
        rw [Tryd.params5] at ht
        have hm : t ∈ [22, 5] := by have := Array.mem_of_getElem? ht; simp at this; simp; omega
        have hall : ([22, 5].all fun u => !Tryd.prog.wantsStandIn u) = true := by kernel_rfl
        exact (show Tryd.prog.wantsStandIn t = false by simpa using List.all_eq_true.1 hall t hm)⟩)
    (by kernel_rfl)
end Go.Proofs.YtcalkhlchjjalaaDoor.statementChains
namespace Go.Proofs.YtcalkhlchjjalaaDoor
/-- The card, under a short name, for the claim. -/
theorem statementChains_holds : Rows.StatementChainsCardSaid := statementChains.card
#print axioms statementChains_holds
end Go.Proofs.YtcalkhlchjjalaaDoor
