/- StatementMarksCardSaid -/
import Derived.Test.YtcalkhlchjjalaaDoorCStatementMarks3
import Derived.Test.YtcalkhlchjjalaaDoorCStatementMarks4
import Derived.Deep.RegionHeld3
import Derived.Deep.DeepCutAuto
import Derived.Deep.CutBlock
import Derived.IntWalk
import Derived.Test.YtcalkhlchjjalaaDoorRows
import Derived.Test.YtcalkhlchjjalaaDoorCards
import Derived.Test.YtcalkhlchjjalaaDoorTie
import Derived.WalkKit
import Derived.ProofKit
import Derived.OpenShut
import Derived.ChangeOld
import Derived.Below
import Derived.SizedLaws
import Derived.LaidMore
import Derived.Lay
import Derived.SevenTiedAt
import Derived.Stop.Joined
import Derived.Test.YtcalkhlchjjalaaDoorCStatementMarks1
namespace Go.Proofs.YtcalkhlchjjalaaDoor.Q
open Go.RowKit Go.Proofs.YtcalkhlchjjalaaDoorW.PrintWords Go.Proofs.YtcalkhlchjjalaaDoorW.PrintLast Go.Proofs.YtcalkhlchjjalaaDoorW.PrintMore Go.Proofs.YtcalkhlchjjalaaDoor.Gput
attribute [local go_sem] max2_int min2_int max_two min_two max_three min_three max_four min_four   -- for this text's walks alone
set_option linter.unusedVariables false
set_option linter.unusedSimpArgs false
def statement_Contradict.f (a0_0 : Int) (a0_1 : Int) (a0_2 : Int) (a0_3 : Int) (a0_4 : Int) (a0_5 : Int) (a0_6 : Int) (a0_7 : Int) (a0_8 : Int) (a0_9 : Int) (a0_10 : Int) (a1_0 : Int) (a1_1 : Int) (a1_2 : Int) (a1_3 : Int) (a1_4 : Int) (a1_5 : Int) (a1_6 : Int) (a1_7 : Int) (a1_8 : Int) (a1_9 : Int) (a1_10 : Int) : Option (Bool) := (statement_Valid.f a0_0 a0_1 a0_2 a0_3 a0_4 a0_5 a0_6 a0_7 a0_8 a0_9 a0_10).bind fun t126 => (if t126 = true then ((statement_Valid.f a1_0 a1_1 a1_2 a1_3 a1_4 a1_5 a1_6 a1_7 a1_8 a1_9 a1_10).bind fun t127 => (if t127 = true then (if a0_0 = a1_0 then (if a0_1 = a1_1 then (if a0_2 = a1_2 then ((statement_Same.f a0_0 a0_1 a0_2 a0_3 a0_4 a0_5 a0_6 a0_7 a0_8 a0_9 a0_10 a1_0 a1_1 a1_2 a1_3 a1_4 a1_5 a1_6 a1_7 a1_8 a1_9 a1_10).bind fun t128 => (some (!t128))) else (some false)) else (some false)) else (some false)) else (some false))) else (some false))
set_option maxHeartbeats 8000000 in
set_option maxRecDepth 100000 in
theorem statement_Contradict.calls (a0_0 : Int) (a0_1 : Int) (a0_2 : Int) (a0_3 : Int) (a0_4 : Int) (a0_5 : Int) (a0_6 : Int) (a0_7 : Int) (a0_8 : Int) (a0_9 : Int) (a0_10 : Int) (a1_0 : Int) (a1_1 : Int) (a1_2 : Int) (a1_3 : Int) (a1_4 : Int) (a1_5 : Int) (a1_6 : Int) (a1_7 : Int) (a1_8 : Int) (a1_9 : Int) (a1_10 : Int) (r : Bool) (w : World) (h : statement_Contradict.f a0_0 a0_1 a0_2 a0_3 a0_4 a0_5 a0_6 a0_7 a0_8 a0_9 a0_10 a1_0 a1_1 a1_2 a1_3 a1_4 a1_5 a1_6 a1_7 a1_8 a1_9 a1_10 = some r) (hGL : GL w := by first | exact hGL | exact Aside0.out HGL | exact GL.step (Aside0.out HGL) (by repeat (first | (with_reducible first | exact HB.out | apply below_alloc | apply pw_below_drewN | apply below_drew1 | refine below_set ?_ (Aside0.out (by assumption))) | exact HB.out))) :
    Calls Tryd.prog 21 #[.agg #[.int .i64 a0_0, .int .i64 a0_1, .int .i64 a0_2, .int .i64 a0_3, .int .i64 a0_4, .int .i64 a0_5, .int .i64 a0_6, .int .i64 a0_7, .int .i64 a0_8, .int .i64 a0_9, .int .i64 a0_10], .agg #[.int .i64 a1_0, .int .i64 a1_1, .int .i64 a1_2, .int .i64 a1_3, .int .i64 a1_4, .int .i64 a1_5, .int .i64 a1_6, .int .i64 a1_7, .int .i64 a1_8, .int .i64 a1_9, .int .i64 a1_10]] w fun e w' => e = .returned (.bool r) ∧ Below w.heap.size w w' := by
  have HGL := Aside0.mk hGL
  clear hGL
  have hu39 := Tryd.underlying39
  have HB := Aside0.mk (Below.refl w.heap.size w)
  have H : ((statement_Valid.f a0_0 a0_1 a0_2 a0_3 a0_4 a0_5 a0_6 a0_7 a0_8 a0_9 a0_10).bind fun t126 => (if t126 = true then ((statement_Valid.f a1_0 a1_1 a1_2 a1_3 a1_4 a1_5 a1_6 a1_7 a1_8 a1_9 a1_10).bind fun t127 => (if t127 = true then (if a0_0 = a1_0 then (if a0_1 = a1_1 then (if a0_2 = a1_2 then ((statement_Same.f a0_0 a0_1 a0_2 a0_3 a0_4 a0_5 a0_6 a0_7 a0_8 a0_9 a0_10 a1_0 a1_1 a1_2 a1_3 a1_4 a1_5 a1_6 a1_7 a1_8 a1_9 a1_10).bind fun t128 => (some (!t128))) else (some false)) else (some false)) else (some false)) else (some false))) else (some false))) = some r := h
  clear h
  replace H := Option.bind_eq_some_iff.mp H
  obtain ⟨t126, A30, H⟩ := H
  replace H : (if t126 = true then ((statement_Valid.f a1_0 a1_1 a1_2 a1_3 a1_4 a1_5 a1_6 a1_7 a1_8 a1_9 a1_10).bind fun t127 => (if t127 = true then (if a0_0 = a1_0 then (if a0_1 = a1_1 then (if a0_2 = a1_2 then ((statement_Same.f a0_0 a0_1 a0_2 a0_3 a0_4 a0_5 a0_6 a0_7 a0_8 a0_9 a0_10 a1_0 a1_1 a1_2 a1_3 a1_4 a1_5 a1_6 a1_7 a1_8 a1_9 a1_10).bind fun t128 => (some (!t128))) else (some false)) else (some false)) else (some false)) else (some false))) else (some false)) = some r := H
  have A3 := Aside0.mk A30
  clear A30
  by_cases c4 : t126 = true
  · subst c4
    have H1 : ((statement_Valid.f a1_0 a1_1 a1_2 a1_3 a1_4 a1_5 a1_6 a1_7 a1_8 a1_9 a1_10).bind fun t127 => (if t127 = true then (if a0_0 = a1_0 then (if a0_1 = a1_1 then (if a0_2 = a1_2 then ((statement_Same.f a0_0 a0_1 a0_2 a0_3 a0_4 a0_5 a0_6 a0_7 a0_8 a0_9 a0_10 a1_0 a1_1 a1_2 a1_3 a1_4 a1_5 a1_6 a1_7 a1_8 a1_9 a1_10).bind fun t128 => (some (!t128))) else (some false)) else (some false)) else (some false)) else (some false))) = some r := by rw [if_pos rfl] at H; exact H
    clear H
    have H := H1
    clear H1
    replace H := Option.bind_eq_some_iff.mp H
    obtain ⟨t127, A50, H⟩ := H
    replace H : (if t127 = true then (if a0_0 = a1_0 then (if a0_1 = a1_1 then (if a0_2 = a1_2 then ((statement_Same.f a0_0 a0_1 a0_2 a0_3 a0_4 a0_5 a0_6 a0_7 a0_8 a0_9 a0_10 a1_0 a1_1 a1_2 a1_3 a1_4 a1_5 a1_6 a1_7 a1_8 a1_9 a1_10).bind fun t128 => (some (!t128))) else (some false)) else (some false)) else (some false)) else (some false)) = some r := H
    have A5 := Aside0.mk A50
    clear A50
    by_cases c6 : t127 = true
    · subst c6
      have H1 : (if a0_0 = a1_0 then (if a0_1 = a1_1 then (if a0_2 = a1_2 then ((statement_Same.f a0_0 a0_1 a0_2 a0_3 a0_4 a0_5 a0_6 a0_7 a0_8 a0_9 a0_10 a1_0 a1_1 a1_2 a1_3 a1_4 a1_5 a1_6 a1_7 a1_8 a1_9 a1_10).bind fun t128 => (some (!t128))) else (some false)) else (some false)) else (some false)) = some r := by rw [if_pos rfl] at H; exact H
      clear H
      have H := H1
      clear H1
      by_cases c7 : a0_0 = a1_0
      · rw [if_pos c7] at H
        have c7b0 : (a0_0 == a1_0) = true := beq_iff_eq.mpr c7
        have c7b1 : (a0_0 != a1_0) = false := bne_eq_false_iff_eq.mpr c7
        clear c7
        by_cases c8 : a0_1 = a1_1
        · rw [if_pos c8] at H
          have c8b0 : (a0_1 == a1_1) = true := beq_iff_eq.mpr c8
          have c8b1 : (a0_1 != a1_1) = false := bne_eq_false_iff_eq.mpr c8
          clear c8
          by_cases c9 : a0_2 = a1_2
          · rw [if_pos c9] at H
            have c9b0 : (a0_2 == a1_2) = true := beq_iff_eq.mpr c9
            have c9b1 : (a0_2 != a1_2) = false := bne_eq_false_iff_eq.mpr c9
            clear c9
            replace H := Option.bind_eq_some_iff.mp H
            obtain ⟨t128, A100, H⟩ := H
            replace H : (some (!t128)) = some r := H
            have A10 := Aside0.mk A100
            clear A100
            obtain rfl := Option.some.inj H
            go_enter Tryd.func21, Tryd.ntmps21
            go_wp2_with (first | ((with_reducible refine gate_dst (N := 2) rfl ?_); refine box_event ?hg (N := 2) ?hd (cs := #[.int .i64 a0_0, .int .i64 a0_1, .int .i64 a0_2, .int .i64 a0_3, .int .i64 a0_4, .int .i64 a0_5, .int .i64 a0_6, .int .i64 a0_7, .int .i64 a0_8, .int .i64 a0_9, .int .i64 a0_10]) (t := 39) ?hr ?_; (case hd => rfl); (case hg => rfl); (case hr => first | (go_simp; done) | (go_simp; rfl)); intro gb124 hg w11 hbox hb; have n0_ := Aside0.mk (below_step (by repeat (first | (with_reducible first | exact HB.out | apply below_alloc | apply pw_below_drewN | apply below_drew1) | exact HB.out)) hb); have n1_ := Aside0.mk (hbox); have n2_ := Aside0.mk ((by rw [hg]; exact (below_size (by repeat (first | (with_reducible first | exact HB.out | apply below_alloc | apply pw_below_drewN | apply below_drew1) | exact HB.out))) : w.heap.size ≤ gb124)); have n3_ := Aside0.mk ((by rw [hg]; exact (below_size (by repeat (first | (with_reducible first | exact HB.out | apply below_alloc | apply pw_below_drewN | apply below_drew1) | exact HB.out))) : w.heap.size ≤ gb124)); clear HB; have HB := n0_; have BK124 := n1_; have GW124 := n2_; have GE124 := n3_; clear n0_ n1_ n2_ n3_; clear hb hbox hg) | ((with_reducible refine gate_dst (N := 3) rfl ?_); refine box_event ?hg (N := 3) ?hd (cs := #[.int .i64 a1_0, .int .i64 a1_1, .int .i64 a1_2, .int .i64 a1_3, .int .i64 a1_4, .int .i64 a1_5, .int .i64 a1_6, .int .i64 a1_7, .int .i64 a1_8, .int .i64 a1_9, .int .i64 a1_10]) (t := 39) ?hr ?_; (case hd => rfl); (case hg => rfl); (case hr => first | (go_simp; done) | (go_simp; rfl)); intro gb125 hg w12 hbox hb; have n0_ := Aside0.mk (blk_below (g := gb124) (o := .cells #[.int .i64 a0_0, .int .i64 a0_1, .int .i64 a0_2, .int .i64 a0_3, .int .i64 a0_4, .int .i64 a0_5, .int .i64 a0_6, .int .i64 a0_7, .int .i64 a0_8, .int .i64 a0_9, .int .i64 a0_10] 39 (0, 0)) (by (with_reducible repeat (first | refine blk_drewN ?_ _ | refine blk_drew ?_ | refine blk_alloc ?_ _)); exact BK124.out) hb); have n1_ := Aside0.mk (below_step (by repeat (first | (with_reducible first | exact HB.out | apply below_alloc | apply pw_below_drewN | apply below_drew1 | refine below_set ?_ GE124.out) | exact HB.out)) hb); have n2_ := Aside0.mk (hbox); have n3_ := Aside0.mk ((by rw [hg]; exact (below_size (by repeat (first | (with_reducible first | exact HB.out | apply below_alloc | apply pw_below_drewN | apply below_drew1 | refine below_set ?_ GE124.out) | exact HB.out))) : w.heap.size ≤ gb125)); have n4_ := Aside0.mk ((by rw [hg]; exact (below_size (by repeat (first | (with_reducible first | exact HB.out | apply below_alloc | apply pw_below_drewN | apply below_drew1 | refine below_set ?_ GE124.out) | exact HB.out))) : w.heap.size ≤ gb125)); have n5_ := Aside0.mk ((by rw [hg]; exact Nat.ne_of_lt (blk_lt (g := gb124) (o := .cells #[.int .i64 a0_0, .int .i64 a0_1, .int .i64 a0_2, .int .i64 a0_3, .int .i64 a0_4, .int .i64 a0_5, .int .i64 a0_6, .int .i64 a0_7, .int .i64 a0_8, .int .i64 a0_9, .int .i64 a0_10] 39 (0, 0)) (by (with_reducible repeat (first | refine blk_drewN ?_ _ | refine blk_drew ?_ | refine blk_alloc ?_ _)); exact BK124.out)) : gb124 ≠ gb125)); have n6_ := Aside0.mk ((by rw [hg]; exact Nat.ne_of_gt (blk_lt (g := gb124) (o := .cells #[.int .i64 a0_0, .int .i64 a0_1, .int .i64 a0_2, .int .i64 a0_3, .int .i64 a0_4, .int .i64 a0_5, .int .i64 a0_6, .int .i64 a0_7, .int .i64 a0_8, .int .i64 a0_9, .int .i64 a0_10] 39 (0, 0)) (by (with_reducible repeat (first | refine blk_drewN ?_ _ | refine blk_drew ?_ | refine blk_alloc ?_ _)); exact BK124.out)) : gb125 ≠ gb124)); clear BK124; clear HB; have BK124 := n0_; have HB := n1_; have BK125 := n2_; have GW125 := n3_; have GE125 := n4_; have NB124_125 := n5_; have NB125_124 := n6_; clear n0_ n1_ n2_ n3_ n4_ n5_ n6_; clear hb hbox hg; have hnb13 := NB124_125.out; have hnc13 := NB125_124.out; have hcz14_0 : w12.cell? ⟨gb124, 0, none⟩ = some (.int .i64 a0_0) := (blk_cell BK124.out 0).trans rfl; have hcz14_1 : w12.cell? ⟨gb124, 1, none⟩ = some (.int .i64 a0_1) := (blk_cell BK124.out 1).trans rfl; have hcz14_2 : w12.cell? ⟨gb124, 2, none⟩ = some (.int .i64 a0_2) := (blk_cell BK124.out 2).trans rfl; have hcz14_3 : w12.cell? ⟨gb124, 3, none⟩ = some (.int .i64 a0_3) := (blk_cell BK124.out 3).trans rfl; have hcz14_4 : w12.cell? ⟨gb124, 4, none⟩ = some (.int .i64 a0_4) := (blk_cell BK124.out 4).trans rfl; have hcz14_5 : w12.cell? ⟨gb124, 5, none⟩ = some (.int .i64 a0_5) := (blk_cell BK124.out 5).trans rfl; have hcz14_6 : w12.cell? ⟨gb124, 6, none⟩ = some (.int .i64 a0_6) := (blk_cell BK124.out 6).trans rfl; have hcz14_7 : w12.cell? ⟨gb124, 7, none⟩ = some (.int .i64 a0_7) := (blk_cell BK124.out 7).trans rfl; have hcz14_8 : w12.cell? ⟨gb124, 8, none⟩ = some (.int .i64 a0_8) := (blk_cell BK124.out 8).trans rfl; have hcz14_9 : w12.cell? ⟨gb124, 9, none⟩ = some (.int .i64 a0_9) := (blk_cell BK124.out 9).trans rfl; have hcz14_10 : w12.cell? ⟨gb124, 10, none⟩ = some (.int .i64 a0_10) := (blk_cell BK124.out 10).trans rfl; have hfz14_0 := blk_frozen BK124.out 0; have hfz14_1 := blk_frozen BK124.out 1; have hfz14_2 := blk_frozen BK124.out 2; have hfz14_3 := blk_frozen BK124.out 3; have hfz14_4 := blk_frozen BK124.out 4; have hfz14_5 := blk_frozen BK124.out 5; have hfz14_6 := blk_frozen BK124.out 6; have hfz14_7 := blk_frozen BK124.out 7; have hfz14_8 := blk_frozen BK124.out 8; have hfz14_9 := blk_frozen BK124.out 9; have hfz14_10 := blk_frozen BK124.out 10) | ((with_reducible refine gate_callee (f := 24) rfl ?_); refine goesL_ (some 6) rfl rfl Tryd.func24 (by kernel_rfl) rfl #[.agg #[.int .i64 a0_0, .int .i64 a0_1, .int .i64 a0_2, .int .i64 a0_3, .int .i64 a0_4, .int .i64 a0_5, .int .i64 a0_6, .int .i64 a0_7, .int .i64 a0_8, .int .i64 a0_9, .int .i64 a0_10]] rfl (by (try simp only [List.map_toArray, List.map_cons, List.map_nil]); first | done | rfl | (simp only [List.length_drop, List.length_take]; rfl)) ?_; (with_reducible refine (statement_Valid.calls a0_0 a0_1 a0_2 a0_3 a0_4 a0_5 a0_6 a0_7 a0_8 a0_9 a0_10 true _ A3.out).mono ?_); rintro e w15 ⟨rfl, hb⟩; refine ⟨_, rfl, ?_⟩; have n0_ := Aside0.mk (blk_below (g := gb124) (o := .cells #[.int .i64 a0_0, .int .i64 a0_1, .int .i64 a0_2, .int .i64 a0_3, .int .i64 a0_4, .int .i64 a0_5, .int .i64 a0_6, .int .i64 a0_7, .int .i64 a0_8, .int .i64 a0_9, .int .i64 a0_10] 39 (0, 0)) (by (with_reducible repeat (first | refine blk_drewN ?_ _ | refine blk_drew ?_ | refine blk_alloc ?_ _)); exact BK124.out) hb); have n1_ := Aside0.mk (blk_below (g := gb125) (o := .cells #[.int .i64 a1_0, .int .i64 a1_1, .int .i64 a1_2, .int .i64 a1_3, .int .i64 a1_4, .int .i64 a1_5, .int .i64 a1_6, .int .i64 a1_7, .int .i64 a1_8, .int .i64 a1_9, .int .i64 a1_10] 39 (0, 0)) (by (with_reducible repeat (first | refine blk_drewN ?_ _ | refine blk_drew ?_ | refine blk_alloc ?_ _)); exact BK125.out) hb); have n2_ := Aside0.mk (below_step (by repeat (first | (with_reducible first | exact HB.out | apply below_alloc | apply pw_below_drewN | apply below_drew1 | refine below_set ?_ GE124.out | refine below_set ?_ GE125.out) | exact HB.out)) hb); clear BK124; clear BK125; clear HB; have BK124 := n0_; have BK125 := n1_; have HB := n2_; clear n0_ n1_ n2_; (try clear hb); (try clear hb2); (try clear hk); (try clear hi); have hcz16_0 : w15.cell? ⟨gb125, 0, none⟩ = some (.int .i64 a1_0) := (blk_cell BK125.out 0).trans rfl; have hcz16_1 : w15.cell? ⟨gb125, 1, none⟩ = some (.int .i64 a1_1) := (blk_cell BK125.out 1).trans rfl; have hcz16_2 : w15.cell? ⟨gb125, 2, none⟩ = some (.int .i64 a1_2) := (blk_cell BK125.out 2).trans rfl; have hcz16_3 : w15.cell? ⟨gb125, 3, none⟩ = some (.int .i64 a1_3) := (blk_cell BK125.out 3).trans rfl; have hcz16_4 : w15.cell? ⟨gb125, 4, none⟩ = some (.int .i64 a1_4) := (blk_cell BK125.out 4).trans rfl; have hcz16_5 : w15.cell? ⟨gb125, 5, none⟩ = some (.int .i64 a1_5) := (blk_cell BK125.out 5).trans rfl; have hcz16_6 : w15.cell? ⟨gb125, 6, none⟩ = some (.int .i64 a1_6) := (blk_cell BK125.out 6).trans rfl; have hcz16_7 : w15.cell? ⟨gb125, 7, none⟩ = some (.int .i64 a1_7) := (blk_cell BK125.out 7).trans rfl; have hcz16_8 : w15.cell? ⟨gb125, 8, none⟩ = some (.int .i64 a1_8) := (blk_cell BK125.out 8).trans rfl; have hcz16_9 : w15.cell? ⟨gb125, 9, none⟩ = some (.int .i64 a1_9) := (blk_cell BK125.out 9).trans rfl; have hcz16_10 : w15.cell? ⟨gb125, 10, none⟩ = some (.int .i64 a1_10) := (blk_cell BK125.out 10).trans rfl; have hfz16_0 := blk_frozen BK125.out 0; have hfz16_1 := blk_frozen BK125.out 1; have hfz16_2 := blk_frozen BK125.out 2; have hfz16_3 := blk_frozen BK125.out 3; have hfz16_4 := blk_frozen BK125.out 4; have hfz16_5 := blk_frozen BK125.out 5; have hfz16_6 := blk_frozen BK125.out 6; have hfz16_7 := blk_frozen BK125.out 7; have hfz16_8 := blk_frozen BK125.out 8; have hfz16_9 := blk_frozen BK125.out 9; have hfz16_10 := blk_frozen BK125.out 10) | (go_at_call 24; (with_reducible refine (statement_Valid.calls a1_0 a1_1 a1_2 a1_3 a1_4 a1_5 a1_6 a1_7 a1_8 a1_9 a1_10 true _ A5.out).mono ?_); rintro e w17 ⟨rfl, hb⟩; have n0_ := Aside0.mk (blk_below (g := gb124) (o := .cells #[.int .i64 a0_0, .int .i64 a0_1, .int .i64 a0_2, .int .i64 a0_3, .int .i64 a0_4, .int .i64 a0_5, .int .i64 a0_6, .int .i64 a0_7, .int .i64 a0_8, .int .i64 a0_9, .int .i64 a0_10] 39 (0, 0)) (by (with_reducible repeat (first | refine blk_drewN ?_ _ | refine blk_drew ?_ | refine blk_alloc ?_ _)); exact BK124.out) hb); have n1_ := Aside0.mk (blk_below (g := gb125) (o := .cells #[.int .i64 a1_0, .int .i64 a1_1, .int .i64 a1_2, .int .i64 a1_3, .int .i64 a1_4, .int .i64 a1_5, .int .i64 a1_6, .int .i64 a1_7, .int .i64 a1_8, .int .i64 a1_9, .int .i64 a1_10] 39 (0, 0)) (by (with_reducible repeat (first | refine blk_drewN ?_ _ | refine blk_drew ?_ | refine blk_alloc ?_ _)); exact BK125.out) hb); have n2_ := Aside0.mk (below_step (by repeat (first | (with_reducible first | exact HB.out | apply below_alloc | apply pw_below_drewN | apply below_drew1 | refine below_set ?_ GE124.out | refine below_set ?_ GE125.out) | exact HB.out)) hb); clear BK124; clear BK125; clear HB; have BK124 := n0_; have BK125 := n1_; have HB := n2_; clear n0_ n1_ n2_; (try clear hb); (try clear hb2); (try clear hk); (try clear hi); have hcz18_0 : w17.cell? ⟨gb124, 0, none⟩ = some (.int .i64 a0_0) := (blk_cell BK124.out 0).trans rfl; have hcz18_1 : w17.cell? ⟨gb124, 1, none⟩ = some (.int .i64 a0_1) := (blk_cell BK124.out 1).trans rfl; have hcz18_2 : w17.cell? ⟨gb124, 2, none⟩ = some (.int .i64 a0_2) := (blk_cell BK124.out 2).trans rfl; have hcz18_3 : w17.cell? ⟨gb124, 3, none⟩ = some (.int .i64 a0_3) := (blk_cell BK124.out 3).trans rfl; have hcz18_4 : w17.cell? ⟨gb124, 4, none⟩ = some (.int .i64 a0_4) := (blk_cell BK124.out 4).trans rfl; have hcz18_5 : w17.cell? ⟨gb124, 5, none⟩ = some (.int .i64 a0_5) := (blk_cell BK124.out 5).trans rfl; have hcz18_6 : w17.cell? ⟨gb124, 6, none⟩ = some (.int .i64 a0_6) := (blk_cell BK124.out 6).trans rfl; have hcz18_7 : w17.cell? ⟨gb124, 7, none⟩ = some (.int .i64 a0_7) := (blk_cell BK124.out 7).trans rfl; have hcz18_8 : w17.cell? ⟨gb124, 8, none⟩ = some (.int .i64 a0_8) := (blk_cell BK124.out 8).trans rfl; have hcz18_9 : w17.cell? ⟨gb124, 9, none⟩ = some (.int .i64 a0_9) := (blk_cell BK124.out 9).trans rfl; have hcz18_10 : w17.cell? ⟨gb124, 10, none⟩ = some (.int .i64 a0_10) := (blk_cell BK124.out 10).trans rfl; have hfz18_0 := blk_frozen BK124.out 0; have hfz18_1 := blk_frozen BK124.out 1; have hfz18_2 := blk_frozen BK124.out 2; have hfz18_3 := blk_frozen BK124.out 3; have hfz18_4 := blk_frozen BK124.out 4; have hfz18_5 := blk_frozen BK124.out 5; have hfz18_6 := blk_frozen BK124.out 6; have hfz18_7 := blk_frozen BK124.out 7; have hfz18_8 := blk_frozen BK124.out 8; have hfz18_9 := blk_frozen BK124.out 9; have hfz18_10 := blk_frozen BK124.out 10; have hcz19_0 : w17.cell? ⟨gb125, 0, none⟩ = some (.int .i64 a1_0) := (blk_cell BK125.out 0).trans rfl; have hcz19_1 : w17.cell? ⟨gb125, 1, none⟩ = some (.int .i64 a1_1) := (blk_cell BK125.out 1).trans rfl; have hcz19_2 : w17.cell? ⟨gb125, 2, none⟩ = some (.int .i64 a1_2) := (blk_cell BK125.out 2).trans rfl; have hcz19_3 : w17.cell? ⟨gb125, 3, none⟩ = some (.int .i64 a1_3) := (blk_cell BK125.out 3).trans rfl; have hcz19_4 : w17.cell? ⟨gb125, 4, none⟩ = some (.int .i64 a1_4) := (blk_cell BK125.out 4).trans rfl; have hcz19_5 : w17.cell? ⟨gb125, 5, none⟩ = some (.int .i64 a1_5) := (blk_cell BK125.out 5).trans rfl; have hcz19_6 : w17.cell? ⟨gb125, 6, none⟩ = some (.int .i64 a1_6) := (blk_cell BK125.out 6).trans rfl; have hcz19_7 : w17.cell? ⟨gb125, 7, none⟩ = some (.int .i64 a1_7) := (blk_cell BK125.out 7).trans rfl; have hcz19_8 : w17.cell? ⟨gb125, 8, none⟩ = some (.int .i64 a1_8) := (blk_cell BK125.out 8).trans rfl; have hcz19_9 : w17.cell? ⟨gb125, 9, none⟩ = some (.int .i64 a1_9) := (blk_cell BK125.out 9).trans rfl; have hcz19_10 : w17.cell? ⟨gb125, 10, none⟩ = some (.int .i64 a1_10) := (blk_cell BK125.out 10).trans rfl; have hfz19_0 := blk_frozen BK125.out 0; have hfz19_1 := blk_frozen BK125.out 1; have hfz19_2 := blk_frozen BK125.out 2; have hfz19_3 := blk_frozen BK125.out 3; have hfz19_4 := blk_frozen BK125.out 4; have hfz19_5 := blk_frozen BK125.out 5; have hfz19_6 := blk_frozen BK125.out 6; have hfz19_7 := blk_frozen BK125.out 7; have hfz19_8 := blk_frozen BK125.out 8; have hfz19_9 := blk_frozen BK125.out 9; have hfz19_10 := blk_frozen BK125.out 10) | (go_at_call 23; (with_reducible refine (statement_Same.calls a0_0 a0_1 a0_2 a0_3 a0_4 a0_5 a0_6 a0_7 a0_8 a0_9 a0_10 a1_0 a1_1 a1_2 a1_3 a1_4 a1_5 a1_6 a1_7 a1_8 a1_9 a1_10 t128 _ A10.out).mono ?_); rintro e w20 ⟨rfl, hb⟩; have n0_ := Aside0.mk (blk_below (g := gb124) (o := .cells #[.int .i64 a0_0, .int .i64 a0_1, .int .i64 a0_2, .int .i64 a0_3, .int .i64 a0_4, .int .i64 a0_5, .int .i64 a0_6, .int .i64 a0_7, .int .i64 a0_8, .int .i64 a0_9, .int .i64 a0_10] 39 (0, 0)) (by (with_reducible repeat (first | refine blk_drewN ?_ _ | refine blk_drew ?_ | refine blk_alloc ?_ _)); exact BK124.out) hb); have n1_ := Aside0.mk (blk_below (g := gb125) (o := .cells #[.int .i64 a1_0, .int .i64 a1_1, .int .i64 a1_2, .int .i64 a1_3, .int .i64 a1_4, .int .i64 a1_5, .int .i64 a1_6, .int .i64 a1_7, .int .i64 a1_8, .int .i64 a1_9, .int .i64 a1_10] 39 (0, 0)) (by (with_reducible repeat (first | refine blk_drewN ?_ _ | refine blk_drew ?_ | refine blk_alloc ?_ _)); exact BK125.out) hb); have n2_ := Aside0.mk (below_step (by repeat (first | (with_reducible first | exact HB.out | apply below_alloc | apply pw_below_drewN | apply below_drew1 | refine below_set ?_ GE124.out | refine below_set ?_ GE125.out) | exact HB.out)) hb); clear BK124; clear BK125; clear HB; have BK124 := n0_; have BK125 := n1_; have HB := n2_; clear n0_ n1_ n2_; (try clear hb); (try clear hb2); (try clear hk); (try clear hi)))
            go_ret
            exact ⟨by first | rfl | (simp [errW_none, errW_some] <;> rfl) | (simp [*, errW_none, errW_some] <;> rfl), by repeat (first | (with_reducible first | exact HB.out | apply below_alloc | apply pw_below_drewN | apply below_drew1 | refine below_set ?_ GE124.out | refine below_set ?_ GE125.out) | exact HB.out)⟩
          · rw [if_neg c9] at H
            have c9b0 : (a0_2 == a1_2) = false := beq_eq_false_iff_ne.mpr c9
            have c9b1 : (a0_2 != a1_2) = true := bne_iff_ne.mpr c9
            obtain rfl := Option.some.inj H
            go_enter Tryd.func21, Tryd.ntmps21
            go_wp2_with (first | ((with_reducible refine gate_dst (N := 2) rfl ?_); refine box_event ?hg (N := 2) ?hd (cs := #[.int .i64 a0_0, .int .i64 a0_1, .int .i64 a0_2, .int .i64 a0_3, .int .i64 a0_4, .int .i64 a0_5, .int .i64 a0_6, .int .i64 a0_7, .int .i64 a0_8, .int .i64 a0_9, .int .i64 a0_10]) (t := 39) ?hr ?_; (case hd => rfl); (case hg => rfl); (case hr => first | (go_simp; done) | (go_simp; rfl)); intro gb124 hg w21 hbox hb; have n0_ := Aside0.mk (below_step (by repeat (first | (with_reducible first | exact HB.out | apply below_alloc | apply pw_below_drewN | apply below_drew1) | exact HB.out)) hb); have n1_ := Aside0.mk (hbox); have n2_ := Aside0.mk ((by rw [hg]; exact (below_size (by repeat (first | (with_reducible first | exact HB.out | apply below_alloc | apply pw_below_drewN | apply below_drew1) | exact HB.out))) : w.heap.size ≤ gb124)); have n3_ := Aside0.mk ((by rw [hg]; exact (below_size (by repeat (first | (with_reducible first | exact HB.out | apply below_alloc | apply pw_below_drewN | apply below_drew1) | exact HB.out))) : w.heap.size ≤ gb124)); clear HB; have HB := n0_; have BK124 := n1_; have GW124 := n2_; have GE124 := n3_; clear n0_ n1_ n2_ n3_; clear hb hbox hg) | ((with_reducible refine gate_dst (N := 3) rfl ?_); refine box_event ?hg (N := 3) ?hd (cs := #[.int .i64 a1_0, .int .i64 a1_1, .int .i64 a1_2, .int .i64 a1_3, .int .i64 a1_4, .int .i64 a1_5, .int .i64 a1_6, .int .i64 a1_7, .int .i64 a1_8, .int .i64 a1_9, .int .i64 a1_10]) (t := 39) ?hr ?_; (case hd => rfl); (case hg => rfl); (case hr => first | (go_simp; done) | (go_simp; rfl)); intro gb125 hg w22 hbox hb; have n0_ := Aside0.mk (blk_below (g := gb124) (o := .cells #[.int .i64 a0_0, .int .i64 a0_1, .int .i64 a0_2, .int .i64 a0_3, .int .i64 a0_4, .int .i64 a0_5, .int .i64 a0_6, .int .i64 a0_7, .int .i64 a0_8, .int .i64 a0_9, .int .i64 a0_10] 39 (0, 0)) (by (with_reducible repeat (first | refine blk_drewN ?_ _ | refine blk_drew ?_ | refine blk_alloc ?_ _)); exact BK124.out) hb); have n1_ := Aside0.mk (below_step (by repeat (first | (with_reducible first | exact HB.out | apply below_alloc | apply pw_below_drewN | apply below_drew1 | refine below_set ?_ GE124.out) | exact HB.out)) hb); have n2_ := Aside0.mk (hbox); have n3_ := Aside0.mk ((by rw [hg]; exact (below_size (by repeat (first | (with_reducible first | exact HB.out | apply below_alloc | apply pw_below_drewN | apply below_drew1 | refine below_set ?_ GE124.out) | exact HB.out))) : w.heap.size ≤ gb125)); have n4_ := Aside0.mk ((by rw [hg]; exact (below_size (by repeat (first | (with_reducible first | exact HB.out | apply below_alloc | apply pw_below_drewN | apply below_drew1 | refine below_set ?_ GE124.out) | exact HB.out))) : w.heap.size ≤ gb125)); have n5_ := Aside0.mk ((by rw [hg]; exact Nat.ne_of_lt (blk_lt (g := gb124) (o := .cells #[.int .i64 a0_0, .int .i64 a0_1, .int .i64 a0_2, .int .i64 a0_3, .int .i64 a0_4, .int .i64 a0_5, .int .i64 a0_6, .int .i64 a0_7, .int .i64 a0_8, .int .i64 a0_9, .int .i64 a0_10] 39 (0, 0)) (by (with_reducible repeat (first | refine blk_drewN ?_ _ | refine blk_drew ?_ | refine blk_alloc ?_ _)); exact BK124.out)) : gb124 ≠ gb125)); have n6_ := Aside0.mk ((by rw [hg]; exact Nat.ne_of_gt (blk_lt (g := gb124) (o := .cells #[.int .i64 a0_0, .int .i64 a0_1, .int .i64 a0_2, .int .i64 a0_3, .int .i64 a0_4, .int .i64 a0_5, .int .i64 a0_6, .int .i64 a0_7, .int .i64 a0_8, .int .i64 a0_9, .int .i64 a0_10] 39 (0, 0)) (by (with_reducible repeat (first | refine blk_drewN ?_ _ | refine blk_drew ?_ | refine blk_alloc ?_ _)); exact BK124.out)) : gb125 ≠ gb124)); clear BK124; clear HB; have BK124 := n0_; have HB := n1_; have BK125 := n2_; have GW125 := n3_; have GE125 := n4_; have NB124_125 := n5_; have NB125_124 := n6_; clear n0_ n1_ n2_ n3_ n4_ n5_ n6_; clear hb hbox hg; have hnb23 := NB124_125.out; have hnc23 := NB125_124.out; have hcz24_0 : w22.cell? ⟨gb124, 0, none⟩ = some (.int .i64 a0_0) := (blk_cell BK124.out 0).trans rfl; have hcz24_1 : w22.cell? ⟨gb124, 1, none⟩ = some (.int .i64 a0_1) := (blk_cell BK124.out 1).trans rfl; have hcz24_2 : w22.cell? ⟨gb124, 2, none⟩ = some (.int .i64 a0_2) := (blk_cell BK124.out 2).trans rfl; have hcz24_3 : w22.cell? ⟨gb124, 3, none⟩ = some (.int .i64 a0_3) := (blk_cell BK124.out 3).trans rfl; have hcz24_4 : w22.cell? ⟨gb124, 4, none⟩ = some (.int .i64 a0_4) := (blk_cell BK124.out 4).trans rfl; have hcz24_5 : w22.cell? ⟨gb124, 5, none⟩ = some (.int .i64 a0_5) := (blk_cell BK124.out 5).trans rfl; have hcz24_6 : w22.cell? ⟨gb124, 6, none⟩ = some (.int .i64 a0_6) := (blk_cell BK124.out 6).trans rfl; have hcz24_7 : w22.cell? ⟨gb124, 7, none⟩ = some (.int .i64 a0_7) := (blk_cell BK124.out 7).trans rfl; have hcz24_8 : w22.cell? ⟨gb124, 8, none⟩ = some (.int .i64 a0_8) := (blk_cell BK124.out 8).trans rfl; have hcz24_9 : w22.cell? ⟨gb124, 9, none⟩ = some (.int .i64 a0_9) := (blk_cell BK124.out 9).trans rfl; have hcz24_10 : w22.cell? ⟨gb124, 10, none⟩ = some (.int .i64 a0_10) := (blk_cell BK124.out 10).trans rfl; have hfz24_0 := blk_frozen BK124.out 0; have hfz24_1 := blk_frozen BK124.out 1; have hfz24_2 := blk_frozen BK124.out 2; have hfz24_3 := blk_frozen BK124.out 3; have hfz24_4 := blk_frozen BK124.out 4; have hfz24_5 := blk_frozen BK124.out 5; have hfz24_6 := blk_frozen BK124.out 6; have hfz24_7 := blk_frozen BK124.out 7; have hfz24_8 := blk_frozen BK124.out 8; have hfz24_9 := blk_frozen BK124.out 9; have hfz24_10 := blk_frozen BK124.out 10) | ((with_reducible refine gate_callee (f := 24) rfl ?_); refine goesL_ (some 6) rfl rfl Tryd.func24 (by kernel_rfl) rfl #[.agg #[.int .i64 a0_0, .int .i64 a0_1, .int .i64 a0_2, .int .i64 a0_3, .int .i64 a0_4, .int .i64 a0_5, .int .i64 a0_6, .int .i64 a0_7, .int .i64 a0_8, .int .i64 a0_9, .int .i64 a0_10]] rfl (by (try simp only [List.map_toArray, List.map_cons, List.map_nil]); first | done | rfl | (simp only [List.length_drop, List.length_take]; rfl)) ?_; (with_reducible refine (statement_Valid.calls a0_0 a0_1 a0_2 a0_3 a0_4 a0_5 a0_6 a0_7 a0_8 a0_9 a0_10 true _ A3.out).mono ?_); rintro e w25 ⟨rfl, hb⟩; refine ⟨_, rfl, ?_⟩; have n0_ := Aside0.mk (blk_below (g := gb124) (o := .cells #[.int .i64 a0_0, .int .i64 a0_1, .int .i64 a0_2, .int .i64 a0_3, .int .i64 a0_4, .int .i64 a0_5, .int .i64 a0_6, .int .i64 a0_7, .int .i64 a0_8, .int .i64 a0_9, .int .i64 a0_10] 39 (0, 0)) (by (with_reducible repeat (first | refine blk_drewN ?_ _ | refine blk_drew ?_ | refine blk_alloc ?_ _)); exact BK124.out) hb); have n1_ := Aside0.mk (blk_below (g := gb125) (o := .cells #[.int .i64 a1_0, .int .i64 a1_1, .int .i64 a1_2, .int .i64 a1_3, .int .i64 a1_4, .int .i64 a1_5, .int .i64 a1_6, .int .i64 a1_7, .int .i64 a1_8, .int .i64 a1_9, .int .i64 a1_10] 39 (0, 0)) (by (with_reducible repeat (first | refine blk_drewN ?_ _ | refine blk_drew ?_ | refine blk_alloc ?_ _)); exact BK125.out) hb); have n2_ := Aside0.mk (below_step (by repeat (first | (with_reducible first | exact HB.out | apply below_alloc | apply pw_below_drewN | apply below_drew1 | refine below_set ?_ GE124.out | refine below_set ?_ GE125.out) | exact HB.out)) hb); clear BK124; clear BK125; clear HB; have BK124 := n0_; have BK125 := n1_; have HB := n2_; clear n0_ n1_ n2_; (try clear hb); (try clear hb2); (try clear hk); (try clear hi); have hcz26_0 : w25.cell? ⟨gb125, 0, none⟩ = some (.int .i64 a1_0) := (blk_cell BK125.out 0).trans rfl; have hcz26_1 : w25.cell? ⟨gb125, 1, none⟩ = some (.int .i64 a1_1) := (blk_cell BK125.out 1).trans rfl; have hcz26_2 : w25.cell? ⟨gb125, 2, none⟩ = some (.int .i64 a1_2) := (blk_cell BK125.out 2).trans rfl; have hcz26_3 : w25.cell? ⟨gb125, 3, none⟩ = some (.int .i64 a1_3) := (blk_cell BK125.out 3).trans rfl; have hcz26_4 : w25.cell? ⟨gb125, 4, none⟩ = some (.int .i64 a1_4) := (blk_cell BK125.out 4).trans rfl; have hcz26_5 : w25.cell? ⟨gb125, 5, none⟩ = some (.int .i64 a1_5) := (blk_cell BK125.out 5).trans rfl; have hcz26_6 : w25.cell? ⟨gb125, 6, none⟩ = some (.int .i64 a1_6) := (blk_cell BK125.out 6).trans rfl; have hcz26_7 : w25.cell? ⟨gb125, 7, none⟩ = some (.int .i64 a1_7) := (blk_cell BK125.out 7).trans rfl; have hcz26_8 : w25.cell? ⟨gb125, 8, none⟩ = some (.int .i64 a1_8) := (blk_cell BK125.out 8).trans rfl; have hcz26_9 : w25.cell? ⟨gb125, 9, none⟩ = some (.int .i64 a1_9) := (blk_cell BK125.out 9).trans rfl; have hcz26_10 : w25.cell? ⟨gb125, 10, none⟩ = some (.int .i64 a1_10) := (blk_cell BK125.out 10).trans rfl; have hfz26_0 := blk_frozen BK125.out 0; have hfz26_1 := blk_frozen BK125.out 1; have hfz26_2 := blk_frozen BK125.out 2; have hfz26_3 := blk_frozen BK125.out 3; have hfz26_4 := blk_frozen BK125.out 4; have hfz26_5 := blk_frozen BK125.out 5; have hfz26_6 := blk_frozen BK125.out 6; have hfz26_7 := blk_frozen BK125.out 7; have hfz26_8 := blk_frozen BK125.out 8; have hfz26_9 := blk_frozen BK125.out 9; have hfz26_10 := blk_frozen BK125.out 10) | (go_at_call 24; (with_reducible refine (statement_Valid.calls a1_0 a1_1 a1_2 a1_3 a1_4 a1_5 a1_6 a1_7 a1_8 a1_9 a1_10 true _ A5.out).mono ?_); rintro e w27 ⟨rfl, hb⟩; have n0_ := Aside0.mk (blk_below (g := gb124) (o := .cells #[.int .i64 a0_0, .int .i64 a0_1, .int .i64 a0_2, .int .i64 a0_3, .int .i64 a0_4, .int .i64 a0_5, .int .i64 a0_6, .int .i64 a0_7, .int .i64 a0_8, .int .i64 a0_9, .int .i64 a0_10] 39 (0, 0)) (by (with_reducible repeat (first | refine blk_drewN ?_ _ | refine blk_drew ?_ | refine blk_alloc ?_ _)); exact BK124.out) hb); have n1_ := Aside0.mk (blk_below (g := gb125) (o := .cells #[.int .i64 a1_0, .int .i64 a1_1, .int .i64 a1_2, .int .i64 a1_3, .int .i64 a1_4, .int .i64 a1_5, .int .i64 a1_6, .int .i64 a1_7, .int .i64 a1_8, .int .i64 a1_9, .int .i64 a1_10] 39 (0, 0)) (by (with_reducible repeat (first | refine blk_drewN ?_ _ | refine blk_drew ?_ | refine blk_alloc ?_ _)); exact BK125.out) hb); have n2_ := Aside0.mk (below_step (by repeat (first | (with_reducible first | exact HB.out | apply below_alloc | apply pw_below_drewN | apply below_drew1 | refine below_set ?_ GE124.out | refine below_set ?_ GE125.out) | exact HB.out)) hb); clear BK124; clear BK125; clear HB; have BK124 := n0_; have BK125 := n1_; have HB := n2_; clear n0_ n1_ n2_; (try clear hb); (try clear hb2); (try clear hk); (try clear hi); have hcz28_0 : w27.cell? ⟨gb124, 0, none⟩ = some (.int .i64 a0_0) := (blk_cell BK124.out 0).trans rfl; have hcz28_1 : w27.cell? ⟨gb124, 1, none⟩ = some (.int .i64 a0_1) := (blk_cell BK124.out 1).trans rfl; have hcz28_2 : w27.cell? ⟨gb124, 2, none⟩ = some (.int .i64 a0_2) := (blk_cell BK124.out 2).trans rfl; have hcz28_3 : w27.cell? ⟨gb124, 3, none⟩ = some (.int .i64 a0_3) := (blk_cell BK124.out 3).trans rfl; have hcz28_4 : w27.cell? ⟨gb124, 4, none⟩ = some (.int .i64 a0_4) := (blk_cell BK124.out 4).trans rfl; have hcz28_5 : w27.cell? ⟨gb124, 5, none⟩ = some (.int .i64 a0_5) := (blk_cell BK124.out 5).trans rfl; have hcz28_6 : w27.cell? ⟨gb124, 6, none⟩ = some (.int .i64 a0_6) := (blk_cell BK124.out 6).trans rfl; have hcz28_7 : w27.cell? ⟨gb124, 7, none⟩ = some (.int .i64 a0_7) := (blk_cell BK124.out 7).trans rfl; have hcz28_8 : w27.cell? ⟨gb124, 8, none⟩ = some (.int .i64 a0_8) := (blk_cell BK124.out 8).trans rfl; have hcz28_9 : w27.cell? ⟨gb124, 9, none⟩ = some (.int .i64 a0_9) := (blk_cell BK124.out 9).trans rfl; have hcz28_10 : w27.cell? ⟨gb124, 10, none⟩ = some (.int .i64 a0_10) := (blk_cell BK124.out 10).trans rfl; have hfz28_0 := blk_frozen BK124.out 0; have hfz28_1 := blk_frozen BK124.out 1; have hfz28_2 := blk_frozen BK124.out 2; have hfz28_3 := blk_frozen BK124.out 3; have hfz28_4 := blk_frozen BK124.out 4; have hfz28_5 := blk_frozen BK124.out 5; have hfz28_6 := blk_frozen BK124.out 6; have hfz28_7 := blk_frozen BK124.out 7; have hfz28_8 := blk_frozen BK124.out 8; have hfz28_9 := blk_frozen BK124.out 9; have hfz28_10 := blk_frozen BK124.out 10; have hcz29_0 : w27.cell? ⟨gb125, 0, none⟩ = some (.int .i64 a1_0) := (blk_cell BK125.out 0).trans rfl; have hcz29_1 : w27.cell? ⟨gb125, 1, none⟩ = some (.int .i64 a1_1) := (blk_cell BK125.out 1).trans rfl; have hcz29_2 : w27.cell? ⟨gb125, 2, none⟩ = some (.int .i64 a1_2) := (blk_cell BK125.out 2).trans rfl; have hcz29_3 : w27.cell? ⟨gb125, 3, none⟩ = some (.int .i64 a1_3) := (blk_cell BK125.out 3).trans rfl; have hcz29_4 : w27.cell? ⟨gb125, 4, none⟩ = some (.int .i64 a1_4) := (blk_cell BK125.out 4).trans rfl; have hcz29_5 : w27.cell? ⟨gb125, 5, none⟩ = some (.int .i64 a1_5) := (blk_cell BK125.out 5).trans rfl; have hcz29_6 : w27.cell? ⟨gb125, 6, none⟩ = some (.int .i64 a1_6) := (blk_cell BK125.out 6).trans rfl; have hcz29_7 : w27.cell? ⟨gb125, 7, none⟩ = some (.int .i64 a1_7) := (blk_cell BK125.out 7).trans rfl; have hcz29_8 : w27.cell? ⟨gb125, 8, none⟩ = some (.int .i64 a1_8) := (blk_cell BK125.out 8).trans rfl; have hcz29_9 : w27.cell? ⟨gb125, 9, none⟩ = some (.int .i64 a1_9) := (blk_cell BK125.out 9).trans rfl; have hcz29_10 : w27.cell? ⟨gb125, 10, none⟩ = some (.int .i64 a1_10) := (blk_cell BK125.out 10).trans rfl; have hfz29_0 := blk_frozen BK125.out 0; have hfz29_1 := blk_frozen BK125.out 1; have hfz29_2 := blk_frozen BK125.out 2; have hfz29_3 := blk_frozen BK125.out 3; have hfz29_4 := blk_frozen BK125.out 4; have hfz29_5 := blk_frozen BK125.out 5; have hfz29_6 := blk_frozen BK125.out 6; have hfz29_7 := blk_frozen BK125.out 7; have hfz29_8 := blk_frozen BK125.out 8; have hfz29_9 := blk_frozen BK125.out 9; have hfz29_10 := blk_frozen BK125.out 10))
            go_ret
            exact ⟨by first | rfl | (simp [errW_none, errW_some] <;> rfl) | (simp [*, errW_none, errW_some] <;> rfl), by repeat (first | (with_reducible first | exact HB.out | apply below_alloc | apply pw_below_drewN | apply below_drew1 | refine below_set ?_ GE124.out | refine below_set ?_ GE125.out) | exact HB.out)⟩
        · rw [if_neg c8] at H
          have c8b0 : (a0_1 == a1_1) = false := beq_eq_false_iff_ne.mpr c8
          have c8b1 : (a0_1 != a1_1) = true := bne_iff_ne.mpr c8
          obtain rfl := Option.some.inj H
          go_enter Tryd.func21, Tryd.ntmps21
          go_wp2_with (first | ((with_reducible refine gate_dst (N := 2) rfl ?_); refine box_event ?hg (N := 2) ?hd (cs := #[.int .i64 a0_0, .int .i64 a0_1, .int .i64 a0_2, .int .i64 a0_3, .int .i64 a0_4, .int .i64 a0_5, .int .i64 a0_6, .int .i64 a0_7, .int .i64 a0_8, .int .i64 a0_9, .int .i64 a0_10]) (t := 39) ?hr ?_; (case hd => rfl); (case hg => rfl); (case hr => first | (go_simp; done) | (go_simp; rfl)); intro gb124 hg w30 hbox hb; have n0_ := Aside0.mk (below_step (by repeat (first | (with_reducible first | exact HB.out | apply below_alloc | apply pw_below_drewN | apply below_drew1) | exact HB.out)) hb); have n1_ := Aside0.mk (hbox); have n2_ := Aside0.mk ((by rw [hg]; exact (below_size (by repeat (first | (with_reducible first | exact HB.out | apply below_alloc | apply pw_below_drewN | apply below_drew1) | exact HB.out))) : w.heap.size ≤ gb124)); have n3_ := Aside0.mk ((by rw [hg]; exact (below_size (by repeat (first | (with_reducible first | exact HB.out | apply below_alloc | apply pw_below_drewN | apply below_drew1) | exact HB.out))) : w.heap.size ≤ gb124)); clear HB; have HB := n0_; have BK124 := n1_; have GW124 := n2_; have GE124 := n3_; clear n0_ n1_ n2_ n3_; clear hb hbox hg) | ((with_reducible refine gate_dst (N := 3) rfl ?_); refine box_event ?hg (N := 3) ?hd (cs := #[.int .i64 a1_0, .int .i64 a1_1, .int .i64 a1_2, .int .i64 a1_3, .int .i64 a1_4, .int .i64 a1_5, .int .i64 a1_6, .int .i64 a1_7, .int .i64 a1_8, .int .i64 a1_9, .int .i64 a1_10]) (t := 39) ?hr ?_; (case hd => rfl); (case hg => rfl); (case hr => first | (go_simp; done) | (go_simp; rfl)); intro gb125 hg w31 hbox hb; have n0_ := Aside0.mk (blk_below (g := gb124) (o := .cells #[.int .i64 a0_0, .int .i64 a0_1, .int .i64 a0_2, .int .i64 a0_3, .int .i64 a0_4, .int .i64 a0_5, .int .i64 a0_6, .int .i64 a0_7, .int .i64 a0_8, .int .i64 a0_9, .int .i64 a0_10] 39 (0, 0)) (by (with_reducible repeat (first | refine blk_drewN ?_ _ | refine blk_drew ?_ | refine blk_alloc ?_ _)); exact BK124.out) hb); have n1_ := Aside0.mk (below_step (by repeat (first | (with_reducible first | exact HB.out | apply below_alloc | apply pw_below_drewN | apply below_drew1 | refine below_set ?_ GE124.out) | exact HB.out)) hb); have n2_ := Aside0.mk (hbox); have n3_ := Aside0.mk ((by rw [hg]; exact (below_size (by repeat (first | (with_reducible first | exact HB.out | apply below_alloc | apply pw_below_drewN | apply below_drew1 | refine below_set ?_ GE124.out) | exact HB.out))) : w.heap.size ≤ gb125)); have n4_ := Aside0.mk ((by rw [hg]; exact (below_size (by repeat (first | (with_reducible first | exact HB.out | apply below_alloc | apply pw_below_drewN | apply below_drew1 | refine below_set ?_ GE124.out) | exact HB.out))) : w.heap.size ≤ gb125)); have n5_ := Aside0.mk ((by rw [hg]; exact Nat.ne_of_lt (blk_lt (g := gb124) (o := .cells #[.int .i64 a0_0, .int .i64 a0_1, .int .i64 a0_2, .int .i64 a0_3, .int .i64 a0_4, .int .i64 a0_5, .int .i64 a0_6, .int .i64 a0_7, .int .i64 a0_8, .int .i64 a0_9, .int .i64 a0_10] 39 (0, 0)) (by (with_reducible repeat (first | refine blk_drewN ?_ _ | refine blk_drew ?_ | refine blk_alloc ?_ _)); exact BK124.out)) : gb124 ≠ gb125)); have n6_ := Aside0.mk ((by rw [hg]; exact Nat.ne_of_gt (blk_lt (g := gb124) (o := .cells #[.int .i64 a0_0, .int .i64 a0_1, .int .i64 a0_2, .int .i64 a0_3, .int .i64 a0_4, .int .i64 a0_5, .int .i64 a0_6, .int .i64 a0_7, .int .i64 a0_8, .int .i64 a0_9, .int .i64 a0_10] 39 (0, 0)) (by (with_reducible repeat (first | refine blk_drewN ?_ _ | refine blk_drew ?_ | refine blk_alloc ?_ _)); exact BK124.out)) : gb125 ≠ gb124)); clear BK124; clear HB; have BK124 := n0_; have HB := n1_; have BK125 := n2_; have GW125 := n3_; have GE125 := n4_; have NB124_125 := n5_; have NB125_124 := n6_; clear n0_ n1_ n2_ n3_ n4_ n5_ n6_; clear hb hbox hg; have hnb32 := NB124_125.out; have hnc32 := NB125_124.out; have hcz33_0 : w31.cell? ⟨gb124, 0, none⟩ = some (.int .i64 a0_0) := (blk_cell BK124.out 0).trans rfl; have hcz33_1 : w31.cell? ⟨gb124, 1, none⟩ = some (.int .i64 a0_1) := (blk_cell BK124.out 1).trans rfl; have hcz33_2 : w31.cell? ⟨gb124, 2, none⟩ = some (.int .i64 a0_2) := (blk_cell BK124.out 2).trans rfl; have hcz33_3 : w31.cell? ⟨gb124, 3, none⟩ = some (.int .i64 a0_3) := (blk_cell BK124.out 3).trans rfl; have hcz33_4 : w31.cell? ⟨gb124, 4, none⟩ = some (.int .i64 a0_4) := (blk_cell BK124.out 4).trans rfl; have hcz33_5 : w31.cell? ⟨gb124, 5, none⟩ = some (.int .i64 a0_5) := (blk_cell BK124.out 5).trans rfl; have hcz33_6 : w31.cell? ⟨gb124, 6, none⟩ = some (.int .i64 a0_6) := (blk_cell BK124.out 6).trans rfl; have hcz33_7 : w31.cell? ⟨gb124, 7, none⟩ = some (.int .i64 a0_7) := (blk_cell BK124.out 7).trans rfl; have hcz33_8 : w31.cell? ⟨gb124, 8, none⟩ = some (.int .i64 a0_8) := (blk_cell BK124.out 8).trans rfl; have hcz33_9 : w31.cell? ⟨gb124, 9, none⟩ = some (.int .i64 a0_9) := (blk_cell BK124.out 9).trans rfl; have hcz33_10 : w31.cell? ⟨gb124, 10, none⟩ = some (.int .i64 a0_10) := (blk_cell BK124.out 10).trans rfl; have hfz33_0 := blk_frozen BK124.out 0; have hfz33_1 := blk_frozen BK124.out 1; have hfz33_2 := blk_frozen BK124.out 2; have hfz33_3 := blk_frozen BK124.out 3; have hfz33_4 := blk_frozen BK124.out 4; have hfz33_5 := blk_frozen BK124.out 5; have hfz33_6 := blk_frozen BK124.out 6; have hfz33_7 := blk_frozen BK124.out 7; have hfz33_8 := blk_frozen BK124.out 8; have hfz33_9 := blk_frozen BK124.out 9; have hfz33_10 := blk_frozen BK124.out 10) | ((with_reducible refine gate_callee (f := 24) rfl ?_); refine goesL_ (some 6) rfl rfl Tryd.func24 (by kernel_rfl) rfl #[.agg #[.int .i64 a0_0, .int .i64 a0_1, .int .i64 a0_2, .int .i64 a0_3, .int .i64 a0_4, .int .i64 a0_5, .int .i64 a0_6, .int .i64 a0_7, .int .i64 a0_8, .int .i64 a0_9, .int .i64 a0_10]] rfl (by (try simp only [List.map_toArray, List.map_cons, List.map_nil]); first | done | rfl | (simp only [List.length_drop, List.length_take]; rfl)) ?_; (with_reducible refine (statement_Valid.calls a0_0 a0_1 a0_2 a0_3 a0_4 a0_5 a0_6 a0_7 a0_8 a0_9 a0_10 true _ A3.out).mono ?_); rintro e w34 ⟨rfl, hb⟩; refine ⟨_, rfl, ?_⟩; have n0_ := Aside0.mk (blk_below (g := gb124) (o := .cells #[.int .i64 a0_0, .int .i64 a0_1, .int .i64 a0_2, .int .i64 a0_3, .int .i64 a0_4, .int .i64 a0_5, .int .i64 a0_6, .int .i64 a0_7, .int .i64 a0_8, .int .i64 a0_9, .int .i64 a0_10] 39 (0, 0)) (by (with_reducible repeat (first | refine blk_drewN ?_ _ | refine blk_drew ?_ | refine blk_alloc ?_ _)); exact BK124.out) hb); have n1_ := Aside0.mk (blk_below (g := gb125) (o := .cells #[.int .i64 a1_0, .int .i64 a1_1, .int .i64 a1_2, .int .i64 a1_3, .int .i64 a1_4, .int .i64 a1_5, .int .i64 a1_6, .int .i64 a1_7, .int .i64 a1_8, .int .i64 a1_9, .int .i64 a1_10] 39 (0, 0)) (by (with_reducible repeat (first | refine blk_drewN ?_ _ | refine blk_drew ?_ | refine blk_alloc ?_ _)); exact BK125.out) hb); have n2_ := Aside0.mk (below_step (by repeat (first | (with_reducible first | exact HB.out | apply below_alloc | apply pw_below_drewN | apply below_drew1 | refine below_set ?_ GE124.out | refine below_set ?_ GE125.out) | exact HB.out)) hb); clear BK124; clear BK125; clear HB; have BK124 := n0_; have BK125 := n1_; have HB := n2_; clear n0_ n1_ n2_; (try clear hb); (try clear hb2); (try clear hk); (try clear hi); have hcz35_0 : w34.cell? ⟨gb125, 0, none⟩ = some (.int .i64 a1_0) := (blk_cell BK125.out 0).trans rfl; have hcz35_1 : w34.cell? ⟨gb125, 1, none⟩ = some (.int .i64 a1_1) := (blk_cell BK125.out 1).trans rfl; have hcz35_2 : w34.cell? ⟨gb125, 2, none⟩ = some (.int .i64 a1_2) := (blk_cell BK125.out 2).trans rfl; have hcz35_3 : w34.cell? ⟨gb125, 3, none⟩ = some (.int .i64 a1_3) := (blk_cell BK125.out 3).trans rfl; have hcz35_4 : w34.cell? ⟨gb125, 4, none⟩ = some (.int .i64 a1_4) := (blk_cell BK125.out 4).trans rfl; have hcz35_5 : w34.cell? ⟨gb125, 5, none⟩ = some (.int .i64 a1_5) := (blk_cell BK125.out 5).trans rfl; have hcz35_6 : w34.cell? ⟨gb125, 6, none⟩ = some (.int .i64 a1_6) := (blk_cell BK125.out 6).trans rfl; have hcz35_7 : w34.cell? ⟨gb125, 7, none⟩ = some (.int .i64 a1_7) := (blk_cell BK125.out 7).trans rfl; have hcz35_8 : w34.cell? ⟨gb125, 8, none⟩ = some (.int .i64 a1_8) := (blk_cell BK125.out 8).trans rfl; have hcz35_9 : w34.cell? ⟨gb125, 9, none⟩ = some (.int .i64 a1_9) := (blk_cell BK125.out 9).trans rfl; have hcz35_10 : w34.cell? ⟨gb125, 10, none⟩ = some (.int .i64 a1_10) := (blk_cell BK125.out 10).trans rfl; have hfz35_0 := blk_frozen BK125.out 0; have hfz35_1 := blk_frozen BK125.out 1; have hfz35_2 := blk_frozen BK125.out 2; have hfz35_3 := blk_frozen BK125.out 3; have hfz35_4 := blk_frozen BK125.out 4; have hfz35_5 := blk_frozen BK125.out 5; have hfz35_6 := blk_frozen BK125.out 6; have hfz35_7 := blk_frozen BK125.out 7; have hfz35_8 := blk_frozen BK125.out 8; have hfz35_9 := blk_frozen BK125.out 9; have hfz35_10 := blk_frozen BK125.out 10) | (go_at_call 24; (with_reducible refine (statement_Valid.calls a1_0 a1_1 a1_2 a1_3 a1_4 a1_5 a1_6 a1_7 a1_8 a1_9 a1_10 true _ A5.out).mono ?_); rintro e w36 ⟨rfl, hb⟩; have n0_ := Aside0.mk (blk_below (g := gb124) (o := .cells #[.int .i64 a0_0, .int .i64 a0_1, .int .i64 a0_2, .int .i64 a0_3, .int .i64 a0_4, .int .i64 a0_5, .int .i64 a0_6, .int .i64 a0_7, .int .i64 a0_8, .int .i64 a0_9, .int .i64 a0_10] 39 (0, 0)) (by (with_reducible repeat (first | refine blk_drewN ?_ _ | refine blk_drew ?_ | refine blk_alloc ?_ _)); exact BK124.out) hb); have n1_ := Aside0.mk (blk_below (g := gb125) (o := .cells #[.int .i64 a1_0, .int .i64 a1_1, .int .i64 a1_2, .int .i64 a1_3, .int .i64 a1_4, .int .i64 a1_5, .int .i64 a1_6, .int .i64 a1_7, .int .i64 a1_8, .int .i64 a1_9, .int .i64 a1_10] 39 (0, 0)) (by (with_reducible repeat (first | refine blk_drewN ?_ _ | refine blk_drew ?_ | refine blk_alloc ?_ _)); exact BK125.out) hb); have n2_ := Aside0.mk (below_step (by repeat (first | (with_reducible first | exact HB.out | apply below_alloc | apply pw_below_drewN | apply below_drew1 | refine below_set ?_ GE124.out | refine below_set ?_ GE125.out) | exact HB.out)) hb); clear BK124; clear BK125; clear HB; have BK124 := n0_; have BK125 := n1_; have HB := n2_; clear n0_ n1_ n2_; (try clear hb); (try clear hb2); (try clear hk); (try clear hi); have hcz37_0 : w36.cell? ⟨gb124, 0, none⟩ = some (.int .i64 a0_0) := (blk_cell BK124.out 0).trans rfl; have hcz37_1 : w36.cell? ⟨gb124, 1, none⟩ = some (.int .i64 a0_1) := (blk_cell BK124.out 1).trans rfl; have hcz37_2 : w36.cell? ⟨gb124, 2, none⟩ = some (.int .i64 a0_2) := (blk_cell BK124.out 2).trans rfl; have hcz37_3 : w36.cell? ⟨gb124, 3, none⟩ = some (.int .i64 a0_3) := (blk_cell BK124.out 3).trans rfl; have hcz37_4 : w36.cell? ⟨gb124, 4, none⟩ = some (.int .i64 a0_4) := (blk_cell BK124.out 4).trans rfl; have hcz37_5 : w36.cell? ⟨gb124, 5, none⟩ = some (.int .i64 a0_5) := (blk_cell BK124.out 5).trans rfl; have hcz37_6 : w36.cell? ⟨gb124, 6, none⟩ = some (.int .i64 a0_6) := (blk_cell BK124.out 6).trans rfl; have hcz37_7 : w36.cell? ⟨gb124, 7, none⟩ = some (.int .i64 a0_7) := (blk_cell BK124.out 7).trans rfl; have hcz37_8 : w36.cell? ⟨gb124, 8, none⟩ = some (.int .i64 a0_8) := (blk_cell BK124.out 8).trans rfl; have hcz37_9 : w36.cell? ⟨gb124, 9, none⟩ = some (.int .i64 a0_9) := (blk_cell BK124.out 9).trans rfl; have hcz37_10 : w36.cell? ⟨gb124, 10, none⟩ = some (.int .i64 a0_10) := (blk_cell BK124.out 10).trans rfl; have hfz37_0 := blk_frozen BK124.out 0; have hfz37_1 := blk_frozen BK124.out 1; have hfz37_2 := blk_frozen BK124.out 2; have hfz37_3 := blk_frozen BK124.out 3; have hfz37_4 := blk_frozen BK124.out 4; have hfz37_5 := blk_frozen BK124.out 5; have hfz37_6 := blk_frozen BK124.out 6; have hfz37_7 := blk_frozen BK124.out 7; have hfz37_8 := blk_frozen BK124.out 8; have hfz37_9 := blk_frozen BK124.out 9; have hfz37_10 := blk_frozen BK124.out 10; have hcz38_0 : w36.cell? ⟨gb125, 0, none⟩ = some (.int .i64 a1_0) := (blk_cell BK125.out 0).trans rfl; have hcz38_1 : w36.cell? ⟨gb125, 1, none⟩ = some (.int .i64 a1_1) := (blk_cell BK125.out 1).trans rfl; have hcz38_2 : w36.cell? ⟨gb125, 2, none⟩ = some (.int .i64 a1_2) := (blk_cell BK125.out 2).trans rfl; have hcz38_3 : w36.cell? ⟨gb125, 3, none⟩ = some (.int .i64 a1_3) := (blk_cell BK125.out 3).trans rfl; have hcz38_4 : w36.cell? ⟨gb125, 4, none⟩ = some (.int .i64 a1_4) := (blk_cell BK125.out 4).trans rfl; have hcz38_5 : w36.cell? ⟨gb125, 5, none⟩ = some (.int .i64 a1_5) := (blk_cell BK125.out 5).trans rfl; have hcz38_6 : w36.cell? ⟨gb125, 6, none⟩ = some (.int .i64 a1_6) := (blk_cell BK125.out 6).trans rfl; have hcz38_7 : w36.cell? ⟨gb125, 7, none⟩ = some (.int .i64 a1_7) := (blk_cell BK125.out 7).trans rfl; have hcz38_8 : w36.cell? ⟨gb125, 8, none⟩ = some (.int .i64 a1_8) := (blk_cell BK125.out 8).trans rfl; have hcz38_9 : w36.cell? ⟨gb125, 9, none⟩ = some (.int .i64 a1_9) := (blk_cell BK125.out 9).trans rfl; have hcz38_10 : w36.cell? ⟨gb125, 10, none⟩ = some (.int .i64 a1_10) := (blk_cell BK125.out 10).trans rfl; have hfz38_0 := blk_frozen BK125.out 0; have hfz38_1 := blk_frozen BK125.out 1; have hfz38_2 := blk_frozen BK125.out 2; have hfz38_3 := blk_frozen BK125.out 3; have hfz38_4 := blk_frozen BK125.out 4; have hfz38_5 := blk_frozen BK125.out 5; have hfz38_6 := blk_frozen BK125.out 6; have hfz38_7 := blk_frozen BK125.out 7; have hfz38_8 := blk_frozen BK125.out 8; have hfz38_9 := blk_frozen BK125.out 9; have hfz38_10 := blk_frozen BK125.out 10))
          go_ret
          exact ⟨by first | rfl | (simp [errW_none, errW_some] <;> rfl) | (simp [*, errW_none, errW_some] <;> rfl), by repeat (first | (with_reducible first | exact HB.out | apply below_alloc | apply pw_below_drewN | apply below_drew1 | refine below_set ?_ GE124.out | refine below_set ?_ GE125.out) | exact HB.out)⟩
      · rw [if_neg c7] at H
        have c7b0 : (a0_0 == a1_0) = false := beq_eq_false_iff_ne.mpr c7
        have c7b1 : (a0_0 != a1_0) = true := bne_iff_ne.mpr c7
        obtain rfl := Option.some.inj H
        go_enter Tryd.func21, Tryd.ntmps21
        go_wp2_with (first | ((with_reducible refine gate_dst (N := 2) rfl ?_); refine box_event ?hg (N := 2) ?hd (cs := #[.int .i64 a0_0, .int .i64 a0_1, .int .i64 a0_2, .int .i64 a0_3, .int .i64 a0_4, .int .i64 a0_5, .int .i64 a0_6, .int .i64 a0_7, .int .i64 a0_8, .int .i64 a0_9, .int .i64 a0_10]) (t := 39) ?hr ?_; (case hd => rfl); (case hg => rfl); (case hr => first | (go_simp; done) | (go_simp; rfl)); intro gb124 hg w39 hbox hb; have n0_ := Aside0.mk (below_step (by repeat (first | (with_reducible first | exact HB.out | apply below_alloc | apply pw_below_drewN | apply below_drew1) | exact HB.out)) hb); have n1_ := Aside0.mk (hbox); have n2_ := Aside0.mk ((by rw [hg]; exact (below_size (by repeat (first | (with_reducible first | exact HB.out | apply below_alloc | apply pw_below_drewN | apply below_drew1) | exact HB.out))) : w.heap.size ≤ gb124)); have n3_ := Aside0.mk ((by rw [hg]; exact (below_size (by repeat (first | (with_reducible first | exact HB.out | apply below_alloc | apply pw_below_drewN | apply below_drew1) | exact HB.out))) : w.heap.size ≤ gb124)); clear HB; have HB := n0_; have BK124 := n1_; have GW124 := n2_; have GE124 := n3_; clear n0_ n1_ n2_ n3_; clear hb hbox hg) | ((with_reducible refine gate_dst (N := 3) rfl ?_); refine box_event ?hg (N := 3) ?hd (cs := #[.int .i64 a1_0, .int .i64 a1_1, .int .i64 a1_2, .int .i64 a1_3, .int .i64 a1_4, .int .i64 a1_5, .int .i64 a1_6, .int .i64 a1_7, .int .i64 a1_8, .int .i64 a1_9, .int .i64 a1_10]) (t := 39) ?hr ?_; (case hd => rfl); (case hg => rfl); (case hr => first | (go_simp; done) | (go_simp; rfl)); intro gb125 hg w40 hbox hb; have n0_ := Aside0.mk (blk_below (g := gb124) (o := .cells #[.int .i64 a0_0, .int .i64 a0_1, .int .i64 a0_2, .int .i64 a0_3, .int .i64 a0_4, .int .i64 a0_5, .int .i64 a0_6, .int .i64 a0_7, .int .i64 a0_8, .int .i64 a0_9, .int .i64 a0_10] 39 (0, 0)) (by (with_reducible repeat (first | refine blk_drewN ?_ _ | refine blk_drew ?_ | refine blk_alloc ?_ _)); exact BK124.out) hb); have n1_ := Aside0.mk (below_step (by repeat (first | (with_reducible first | exact HB.out | apply below_alloc | apply pw_below_drewN | apply below_drew1 | refine below_set ?_ GE124.out) | exact HB.out)) hb); have n2_ := Aside0.mk (hbox); have n3_ := Aside0.mk ((by rw [hg]; exact (below_size (by repeat (first | (with_reducible first | exact HB.out | apply below_alloc | apply pw_below_drewN | apply below_drew1 | refine below_set ?_ GE124.out) | exact HB.out))) : w.heap.size ≤ gb125)); have n4_ := Aside0.mk ((by rw [hg]; exact (below_size (by repeat (first | (with_reducible first | exact HB.out | apply below_alloc | apply pw_below_drewN | apply below_drew1 | refine below_set ?_ GE124.out) | exact HB.out))) : w.heap.size ≤ gb125)); have n5_ := Aside0.mk ((by rw [hg]; exact Nat.ne_of_lt (blk_lt (g := gb124) (o := .cells #[.int .i64 a0_0, .int .i64 a0_1, .int .i64 a0_2, .int .i64 a0_3, .int .i64 a0_4, .int .i64 a0_5, .int .i64 a0_6, .int .i64 a0_7, .int .i64 a0_8, .int .i64 a0_9, .int .i64 a0_10] 39 (0, 0)) (by (with_reducible repeat (first | refine blk_drewN ?_ _ | refine blk_drew ?_ | refine blk_alloc ?_ _)); exact BK124.out)) : gb124 ≠ gb125)); have n6_ := Aside0.mk ((by rw [hg]; exact Nat.ne_of_gt (blk_lt (g := gb124) (o := .cells #[.int .i64 a0_0, .int .i64 a0_1, .int .i64 a0_2, .int .i64 a0_3, .int .i64 a0_4, .int .i64 a0_5, .int .i64 a0_6, .int .i64 a0_7, .int .i64 a0_8, .int .i64 a0_9, .int .i64 a0_10] 39 (0, 0)) (by (with_reducible repeat (first | refine blk_drewN ?_ _ | refine blk_drew ?_ | refine blk_alloc ?_ _)); exact BK124.out)) : gb125 ≠ gb124)); clear BK124; clear HB; have BK124 := n0_; have HB := n1_; have BK125 := n2_; have GW125 := n3_; have GE125 := n4_; have NB124_125 := n5_; have NB125_124 := n6_; clear n0_ n1_ n2_ n3_ n4_ n5_ n6_; clear hb hbox hg; have hnb41 := NB124_125.out; have hnc41 := NB125_124.out; have hcz42_0 : w40.cell? ⟨gb124, 0, none⟩ = some (.int .i64 a0_0) := (blk_cell BK124.out 0).trans rfl; have hcz42_1 : w40.cell? ⟨gb124, 1, none⟩ = some (.int .i64 a0_1) := (blk_cell BK124.out 1).trans rfl; have hcz42_2 : w40.cell? ⟨gb124, 2, none⟩ = some (.int .i64 a0_2) := (blk_cell BK124.out 2).trans rfl; have hcz42_3 : w40.cell? ⟨gb124, 3, none⟩ = some (.int .i64 a0_3) := (blk_cell BK124.out 3).trans rfl; have hcz42_4 : w40.cell? ⟨gb124, 4, none⟩ = some (.int .i64 a0_4) := (blk_cell BK124.out 4).trans rfl; have hcz42_5 : w40.cell? ⟨gb124, 5, none⟩ = some (.int .i64 a0_5) := (blk_cell BK124.out 5).trans rfl; have hcz42_6 : w40.cell? ⟨gb124, 6, none⟩ = some (.int .i64 a0_6) := (blk_cell BK124.out 6).trans rfl; have hcz42_7 : w40.cell? ⟨gb124, 7, none⟩ = some (.int .i64 a0_7) := (blk_cell BK124.out 7).trans rfl; have hcz42_8 : w40.cell? ⟨gb124, 8, none⟩ = some (.int .i64 a0_8) := (blk_cell BK124.out 8).trans rfl; have hcz42_9 : w40.cell? ⟨gb124, 9, none⟩ = some (.int .i64 a0_9) := (blk_cell BK124.out 9).trans rfl; have hcz42_10 : w40.cell? ⟨gb124, 10, none⟩ = some (.int .i64 a0_10) := (blk_cell BK124.out 10).trans rfl; have hfz42_0 := blk_frozen BK124.out 0; have hfz42_1 := blk_frozen BK124.out 1; have hfz42_2 := blk_frozen BK124.out 2; have hfz42_3 := blk_frozen BK124.out 3; have hfz42_4 := blk_frozen BK124.out 4; have hfz42_5 := blk_frozen BK124.out 5; have hfz42_6 := blk_frozen BK124.out 6; have hfz42_7 := blk_frozen BK124.out 7; have hfz42_8 := blk_frozen BK124.out 8; have hfz42_9 := blk_frozen BK124.out 9; have hfz42_10 := blk_frozen BK124.out 10) | ((with_reducible refine gate_callee (f := 24) rfl ?_); refine goesL_ (some 6) rfl rfl Tryd.func24 (by kernel_rfl) rfl #[.agg #[.int .i64 a0_0, .int .i64 a0_1, .int .i64 a0_2, .int .i64 a0_3, .int .i64 a0_4, .int .i64 a0_5, .int .i64 a0_6, .int .i64 a0_7, .int .i64 a0_8, .int .i64 a0_9, .int .i64 a0_10]] rfl (by (try simp only [List.map_toArray, List.map_cons, List.map_nil]); first | done | rfl | (simp only [List.length_drop, List.length_take]; rfl)) ?_; (with_reducible refine (statement_Valid.calls a0_0 a0_1 a0_2 a0_3 a0_4 a0_5 a0_6 a0_7 a0_8 a0_9 a0_10 true _ A3.out).mono ?_); rintro e w43 ⟨rfl, hb⟩; refine ⟨_, rfl, ?_⟩; have n0_ := Aside0.mk (blk_below (g := gb124) (o := .cells #[.int .i64 a0_0, .int .i64 a0_1, .int .i64 a0_2, .int .i64 a0_3, .int .i64 a0_4, .int .i64 a0_5, .int .i64 a0_6, .int .i64 a0_7, .int .i64 a0_8, .int .i64 a0_9, .int .i64 a0_10] 39 (0, 0)) (by (with_reducible repeat (first | refine blk_drewN ?_ _ | refine blk_drew ?_ | refine blk_alloc ?_ _)); exact BK124.out) hb); have n1_ := Aside0.mk (blk_below (g := gb125) (o := .cells #[.int .i64 a1_0, .int .i64 a1_1, .int .i64 a1_2, .int .i64 a1_3, .int .i64 a1_4, .int .i64 a1_5, .int .i64 a1_6, .int .i64 a1_7, .int .i64 a1_8, .int .i64 a1_9, .int .i64 a1_10] 39 (0, 0)) (by (with_reducible repeat (first | refine blk_drewN ?_ _ | refine blk_drew ?_ | refine blk_alloc ?_ _)); exact BK125.out) hb); have n2_ := Aside0.mk (below_step (by repeat (first | (with_reducible first | exact HB.out | apply below_alloc | apply pw_below_drewN | apply below_drew1 | refine below_set ?_ GE124.out | refine below_set ?_ GE125.out) | exact HB.out)) hb); clear BK124; clear BK125; clear HB; have BK124 := n0_; have BK125 := n1_; have HB := n2_; clear n0_ n1_ n2_; (try clear hb); (try clear hb2); (try clear hk); (try clear hi); have hcz44_0 : w43.cell? ⟨gb125, 0, none⟩ = some (.int .i64 a1_0) := (blk_cell BK125.out 0).trans rfl; have hcz44_1 : w43.cell? ⟨gb125, 1, none⟩ = some (.int .i64 a1_1) := (blk_cell BK125.out 1).trans rfl; have hcz44_2 : w43.cell? ⟨gb125, 2, none⟩ = some (.int .i64 a1_2) := (blk_cell BK125.out 2).trans rfl; have hcz44_3 : w43.cell? ⟨gb125, 3, none⟩ = some (.int .i64 a1_3) := (blk_cell BK125.out 3).trans rfl; have hcz44_4 : w43.cell? ⟨gb125, 4, none⟩ = some (.int .i64 a1_4) := (blk_cell BK125.out 4).trans rfl; have hcz44_5 : w43.cell? ⟨gb125, 5, none⟩ = some (.int .i64 a1_5) := (blk_cell BK125.out 5).trans rfl; have hcz44_6 : w43.cell? ⟨gb125, 6, none⟩ = some (.int .i64 a1_6) := (blk_cell BK125.out 6).trans rfl; have hcz44_7 : w43.cell? ⟨gb125, 7, none⟩ = some (.int .i64 a1_7) := (blk_cell BK125.out 7).trans rfl; have hcz44_8 : w43.cell? ⟨gb125, 8, none⟩ = some (.int .i64 a1_8) := (blk_cell BK125.out 8).trans rfl; have hcz44_9 : w43.cell? ⟨gb125, 9, none⟩ = some (.int .i64 a1_9) := (blk_cell BK125.out 9).trans rfl; have hcz44_10 : w43.cell? ⟨gb125, 10, none⟩ = some (.int .i64 a1_10) := (blk_cell BK125.out 10).trans rfl; have hfz44_0 := blk_frozen BK125.out 0; have hfz44_1 := blk_frozen BK125.out 1; have hfz44_2 := blk_frozen BK125.out 2; have hfz44_3 := blk_frozen BK125.out 3; have hfz44_4 := blk_frozen BK125.out 4; have hfz44_5 := blk_frozen BK125.out 5; have hfz44_6 := blk_frozen BK125.out 6; have hfz44_7 := blk_frozen BK125.out 7; have hfz44_8 := blk_frozen BK125.out 8; have hfz44_9 := blk_frozen BK125.out 9; have hfz44_10 := blk_frozen BK125.out 10) | (go_at_call 24; (with_reducible refine (statement_Valid.calls a1_0 a1_1 a1_2 a1_3 a1_4 a1_5 a1_6 a1_7 a1_8 a1_9 a1_10 true _ A5.out).mono ?_); rintro e w45 ⟨rfl, hb⟩; have n0_ := Aside0.mk (blk_below (g := gb124) (o := .cells #[.int .i64 a0_0, .int .i64 a0_1, .int .i64 a0_2, .int .i64 a0_3, .int .i64 a0_4, .int .i64 a0_5, .int .i64 a0_6, .int .i64 a0_7, .int .i64 a0_8, .int .i64 a0_9, .int .i64 a0_10] 39 (0, 0)) (by (with_reducible repeat (first | refine blk_drewN ?_ _ | refine blk_drew ?_ | refine blk_alloc ?_ _)); exact BK124.out) hb); have n1_ := Aside0.mk (blk_below (g := gb125) (o := .cells #[.int .i64 a1_0, .int .i64 a1_1, .int .i64 a1_2, .int .i64 a1_3, .int .i64 a1_4, .int .i64 a1_5, .int .i64 a1_6, .int .i64 a1_7, .int .i64 a1_8, .int .i64 a1_9, .int .i64 a1_10] 39 (0, 0)) (by (with_reducible repeat (first | refine blk_drewN ?_ _ | refine blk_drew ?_ | refine blk_alloc ?_ _)); exact BK125.out) hb); have n2_ := Aside0.mk (below_step (by repeat (first | (with_reducible first | exact HB.out | apply below_alloc | apply pw_below_drewN | apply below_drew1 | refine below_set ?_ GE124.out | refine below_set ?_ GE125.out) | exact HB.out)) hb); clear BK124; clear BK125; clear HB; have BK124 := n0_; have BK125 := n1_; have HB := n2_; clear n0_ n1_ n2_; (try clear hb); (try clear hb2); (try clear hk); (try clear hi); have hcz46_0 : w45.cell? ⟨gb124, 0, none⟩ = some (.int .i64 a0_0) := (blk_cell BK124.out 0).trans rfl; have hcz46_1 : w45.cell? ⟨gb124, 1, none⟩ = some (.int .i64 a0_1) := (blk_cell BK124.out 1).trans rfl; have hcz46_2 : w45.cell? ⟨gb124, 2, none⟩ = some (.int .i64 a0_2) := (blk_cell BK124.out 2).trans rfl; have hcz46_3 : w45.cell? ⟨gb124, 3, none⟩ = some (.int .i64 a0_3) := (blk_cell BK124.out 3).trans rfl; have hcz46_4 : w45.cell? ⟨gb124, 4, none⟩ = some (.int .i64 a0_4) := (blk_cell BK124.out 4).trans rfl; have hcz46_5 : w45.cell? ⟨gb124, 5, none⟩ = some (.int .i64 a0_5) := (blk_cell BK124.out 5).trans rfl; have hcz46_6 : w45.cell? ⟨gb124, 6, none⟩ = some (.int .i64 a0_6) := (blk_cell BK124.out 6).trans rfl; have hcz46_7 : w45.cell? ⟨gb124, 7, none⟩ = some (.int .i64 a0_7) := (blk_cell BK124.out 7).trans rfl; have hcz46_8 : w45.cell? ⟨gb124, 8, none⟩ = some (.int .i64 a0_8) := (blk_cell BK124.out 8).trans rfl; have hcz46_9 : w45.cell? ⟨gb124, 9, none⟩ = some (.int .i64 a0_9) := (blk_cell BK124.out 9).trans rfl; have hcz46_10 : w45.cell? ⟨gb124, 10, none⟩ = some (.int .i64 a0_10) := (blk_cell BK124.out 10).trans rfl; have hfz46_0 := blk_frozen BK124.out 0; have hfz46_1 := blk_frozen BK124.out 1; have hfz46_2 := blk_frozen BK124.out 2; have hfz46_3 := blk_frozen BK124.out 3; have hfz46_4 := blk_frozen BK124.out 4; have hfz46_5 := blk_frozen BK124.out 5; have hfz46_6 := blk_frozen BK124.out 6; have hfz46_7 := blk_frozen BK124.out 7; have hfz46_8 := blk_frozen BK124.out 8; have hfz46_9 := blk_frozen BK124.out 9; have hfz46_10 := blk_frozen BK124.out 10; have hcz47_0 : w45.cell? ⟨gb125, 0, none⟩ = some (.int .i64 a1_0) := (blk_cell BK125.out 0).trans rfl; have hcz47_1 : w45.cell? ⟨gb125, 1, none⟩ = some (.int .i64 a1_1) := (blk_cell BK125.out 1).trans rfl; have hcz47_2 : w45.cell? ⟨gb125, 2, none⟩ = some (.int .i64 a1_2) := (blk_cell BK125.out 2).trans rfl; have hcz47_3 : w45.cell? ⟨gb125, 3, none⟩ = some (.int .i64 a1_3) := (blk_cell BK125.out 3).trans rfl; have hcz47_4 : w45.cell? ⟨gb125, 4, none⟩ = some (.int .i64 a1_4) := (blk_cell BK125.out 4).trans rfl; have hcz47_5 : w45.cell? ⟨gb125, 5, none⟩ = some (.int .i64 a1_5) := (blk_cell BK125.out 5).trans rfl; have hcz47_6 : w45.cell? ⟨gb125, 6, none⟩ = some (.int .i64 a1_6) := (blk_cell BK125.out 6).trans rfl; have hcz47_7 : w45.cell? ⟨gb125, 7, none⟩ = some (.int .i64 a1_7) := (blk_cell BK125.out 7).trans rfl; have hcz47_8 : w45.cell? ⟨gb125, 8, none⟩ = some (.int .i64 a1_8) := (blk_cell BK125.out 8).trans rfl; have hcz47_9 : w45.cell? ⟨gb125, 9, none⟩ = some (.int .i64 a1_9) := (blk_cell BK125.out 9).trans rfl; have hcz47_10 : w45.cell? ⟨gb125, 10, none⟩ = some (.int .i64 a1_10) := (blk_cell BK125.out 10).trans rfl; have hfz47_0 := blk_frozen BK125.out 0; have hfz47_1 := blk_frozen BK125.out 1; have hfz47_2 := blk_frozen BK125.out 2; have hfz47_3 := blk_frozen BK125.out 3; have hfz47_4 := blk_frozen BK125.out 4; have hfz47_5 := blk_frozen BK125.out 5; have hfz47_6 := blk_frozen BK125.out 6; have hfz47_7 := blk_frozen BK125.out 7; have hfz47_8 := blk_frozen BK125.out 8; have hfz47_9 := blk_frozen BK125.out 9; have hfz47_10 := blk_frozen BK125.out 10))
        go_ret
        exact ⟨by first | rfl | (simp [errW_none, errW_some] <;> rfl) | (simp [*, errW_none, errW_some] <;> rfl), by repeat (first | (with_reducible first | exact HB.out | apply below_alloc | apply pw_below_drewN | apply below_drew1 | refine below_set ?_ GE124.out | refine below_set ?_ GE125.out) | exact HB.out)⟩
    · replace c6 := Bool.eq_false_iff.mpr c6
      subst c6
      have H1 : (some false) = some r := by rw [if_neg (show ¬ (false = true) by decide)] at H; exact H
      clear H
      have H := H1
      clear H1
      obtain rfl := Option.some.inj H
      go_enter Tryd.func21, Tryd.ntmps21
      go_wp2_with (first | ((with_reducible refine gate_dst (N := 2) rfl ?_); refine box_event ?hg (N := 2) ?hd (cs := #[.int .i64 a0_0, .int .i64 a0_1, .int .i64 a0_2, .int .i64 a0_3, .int .i64 a0_4, .int .i64 a0_5, .int .i64 a0_6, .int .i64 a0_7, .int .i64 a0_8, .int .i64 a0_9, .int .i64 a0_10]) (t := 39) ?hr ?_; (case hd => rfl); (case hg => rfl); (case hr => first | (go_simp; done) | (go_simp; rfl)); intro gb124 hg w48 hbox hb; have n0_ := Aside0.mk (below_step (by repeat (first | (with_reducible first | exact HB.out | apply below_alloc | apply pw_below_drewN | apply below_drew1) | exact HB.out)) hb); have n1_ := Aside0.mk (hbox); have n2_ := Aside0.mk ((by rw [hg]; exact (below_size (by repeat (first | (with_reducible first | exact HB.out | apply below_alloc | apply pw_below_drewN | apply below_drew1) | exact HB.out))) : w.heap.size ≤ gb124)); have n3_ := Aside0.mk ((by rw [hg]; exact (below_size (by repeat (first | (with_reducible first | exact HB.out | apply below_alloc | apply pw_below_drewN | apply below_drew1) | exact HB.out))) : w.heap.size ≤ gb124)); clear HB; have HB := n0_; have BK124 := n1_; have GW124 := n2_; have GE124 := n3_; clear n0_ n1_ n2_ n3_; clear hb hbox hg) | ((with_reducible refine gate_dst (N := 3) rfl ?_); refine box_event ?hg (N := 3) ?hd (cs := #[.int .i64 a1_0, .int .i64 a1_1, .int .i64 a1_2, .int .i64 a1_3, .int .i64 a1_4, .int .i64 a1_5, .int .i64 a1_6, .int .i64 a1_7, .int .i64 a1_8, .int .i64 a1_9, .int .i64 a1_10]) (t := 39) ?hr ?_; (case hd => rfl); (case hg => rfl); (case hr => first | (go_simp; done) | (go_simp; rfl)); intro gb125 hg w49 hbox hb; have n0_ := Aside0.mk (blk_below (g := gb124) (o := .cells #[.int .i64 a0_0, .int .i64 a0_1, .int .i64 a0_2, .int .i64 a0_3, .int .i64 a0_4, .int .i64 a0_5, .int .i64 a0_6, .int .i64 a0_7, .int .i64 a0_8, .int .i64 a0_9, .int .i64 a0_10] 39 (0, 0)) (by (with_reducible repeat (first | refine blk_drewN ?_ _ | refine blk_drew ?_ | refine blk_alloc ?_ _)); exact BK124.out) hb); have n1_ := Aside0.mk (below_step (by repeat (first | (with_reducible first | exact HB.out | apply below_alloc | apply pw_below_drewN | apply below_drew1 | refine below_set ?_ GE124.out) | exact HB.out)) hb); have n2_ := Aside0.mk (hbox); have n3_ := Aside0.mk ((by rw [hg]; exact (below_size (by repeat (first | (with_reducible first | exact HB.out | apply below_alloc | apply pw_below_drewN | apply below_drew1 | refine below_set ?_ GE124.out) | exact HB.out))) : w.heap.size ≤ gb125)); have n4_ := Aside0.mk ((by rw [hg]; exact (below_size (by repeat (first | (with_reducible first | exact HB.out | apply below_alloc | apply pw_below_drewN | apply below_drew1 | refine below_set ?_ GE124.out) | exact HB.out))) : w.heap.size ≤ gb125)); have n5_ := Aside0.mk ((by rw [hg]; exact Nat.ne_of_lt (blk_lt (g := gb124) (o := .cells #[.int .i64 a0_0, .int .i64 a0_1, .int .i64 a0_2, .int .i64 a0_3, .int .i64 a0_4, .int .i64 a0_5, .int .i64 a0_6, .int .i64 a0_7, .int .i64 a0_8, .int .i64 a0_9, .int .i64 a0_10] 39 (0, 0)) (by (with_reducible repeat (first | refine blk_drewN ?_ _ | refine blk_drew ?_ | refine blk_alloc ?_ _)); exact BK124.out)) : gb124 ≠ gb125)); have n6_ := Aside0.mk ((by rw [hg]; exact Nat.ne_of_gt (blk_lt (g := gb124) (o := .cells #[.int .i64 a0_0, .int .i64 a0_1, .int .i64 a0_2, .int .i64 a0_3, .int .i64 a0_4, .int .i64 a0_5, .int .i64 a0_6, .int .i64 a0_7, .int .i64 a0_8, .int .i64 a0_9, .int .i64 a0_10] 39 (0, 0)) (by (with_reducible repeat (first | refine blk_drewN ?_ _ | refine blk_drew ?_ | refine blk_alloc ?_ _)); exact BK124.out)) : gb125 ≠ gb124)); clear BK124; clear HB; have BK124 := n0_; have HB := n1_; have BK125 := n2_; have GW125 := n3_; have GE125 := n4_; have NB124_125 := n5_; have NB125_124 := n6_; clear n0_ n1_ n2_ n3_ n4_ n5_ n6_; clear hb hbox hg; have hnb50 := NB124_125.out; have hnc50 := NB125_124.out; have hcz51_0 : w49.cell? ⟨gb124, 0, none⟩ = some (.int .i64 a0_0) := (blk_cell BK124.out 0).trans rfl; have hcz51_1 : w49.cell? ⟨gb124, 1, none⟩ = some (.int .i64 a0_1) := (blk_cell BK124.out 1).trans rfl; have hcz51_2 : w49.cell? ⟨gb124, 2, none⟩ = some (.int .i64 a0_2) := (blk_cell BK124.out 2).trans rfl; have hcz51_3 : w49.cell? ⟨gb124, 3, none⟩ = some (.int .i64 a0_3) := (blk_cell BK124.out 3).trans rfl; have hcz51_4 : w49.cell? ⟨gb124, 4, none⟩ = some (.int .i64 a0_4) := (blk_cell BK124.out 4).trans rfl; have hcz51_5 : w49.cell? ⟨gb124, 5, none⟩ = some (.int .i64 a0_5) := (blk_cell BK124.out 5).trans rfl; have hcz51_6 : w49.cell? ⟨gb124, 6, none⟩ = some (.int .i64 a0_6) := (blk_cell BK124.out 6).trans rfl; have hcz51_7 : w49.cell? ⟨gb124, 7, none⟩ = some (.int .i64 a0_7) := (blk_cell BK124.out 7).trans rfl; have hcz51_8 : w49.cell? ⟨gb124, 8, none⟩ = some (.int .i64 a0_8) := (blk_cell BK124.out 8).trans rfl; have hcz51_9 : w49.cell? ⟨gb124, 9, none⟩ = some (.int .i64 a0_9) := (blk_cell BK124.out 9).trans rfl; have hcz51_10 : w49.cell? ⟨gb124, 10, none⟩ = some (.int .i64 a0_10) := (blk_cell BK124.out 10).trans rfl; have hfz51_0 := blk_frozen BK124.out 0; have hfz51_1 := blk_frozen BK124.out 1; have hfz51_2 := blk_frozen BK124.out 2; have hfz51_3 := blk_frozen BK124.out 3; have hfz51_4 := blk_frozen BK124.out 4; have hfz51_5 := blk_frozen BK124.out 5; have hfz51_6 := blk_frozen BK124.out 6; have hfz51_7 := blk_frozen BK124.out 7; have hfz51_8 := blk_frozen BK124.out 8; have hfz51_9 := blk_frozen BK124.out 9; have hfz51_10 := blk_frozen BK124.out 10) | ((with_reducible refine gate_callee (f := 24) rfl ?_); refine goesL_ (some 6) rfl rfl Tryd.func24 (by kernel_rfl) rfl #[.agg #[.int .i64 a0_0, .int .i64 a0_1, .int .i64 a0_2, .int .i64 a0_3, .int .i64 a0_4, .int .i64 a0_5, .int .i64 a0_6, .int .i64 a0_7, .int .i64 a0_8, .int .i64 a0_9, .int .i64 a0_10]] rfl (by (try simp only [List.map_toArray, List.map_cons, List.map_nil]); first | done | rfl | (simp only [List.length_drop, List.length_take]; rfl)) ?_; (with_reducible refine (statement_Valid.calls a0_0 a0_1 a0_2 a0_3 a0_4 a0_5 a0_6 a0_7 a0_8 a0_9 a0_10 true _ A3.out).mono ?_); rintro e w52 ⟨rfl, hb⟩; refine ⟨_, rfl, ?_⟩; have n0_ := Aside0.mk (blk_below (g := gb124) (o := .cells #[.int .i64 a0_0, .int .i64 a0_1, .int .i64 a0_2, .int .i64 a0_3, .int .i64 a0_4, .int .i64 a0_5, .int .i64 a0_6, .int .i64 a0_7, .int .i64 a0_8, .int .i64 a0_9, .int .i64 a0_10] 39 (0, 0)) (by (with_reducible repeat (first | refine blk_drewN ?_ _ | refine blk_drew ?_ | refine blk_alloc ?_ _)); exact BK124.out) hb); have n1_ := Aside0.mk (blk_below (g := gb125) (o := .cells #[.int .i64 a1_0, .int .i64 a1_1, .int .i64 a1_2, .int .i64 a1_3, .int .i64 a1_4, .int .i64 a1_5, .int .i64 a1_6, .int .i64 a1_7, .int .i64 a1_8, .int .i64 a1_9, .int .i64 a1_10] 39 (0, 0)) (by (with_reducible repeat (first | refine blk_drewN ?_ _ | refine blk_drew ?_ | refine blk_alloc ?_ _)); exact BK125.out) hb); have n2_ := Aside0.mk (below_step (by repeat (first | (with_reducible first | exact HB.out | apply below_alloc | apply pw_below_drewN | apply below_drew1 | refine below_set ?_ GE124.out | refine below_set ?_ GE125.out) | exact HB.out)) hb); clear BK124; clear BK125; clear HB; have BK124 := n0_; have BK125 := n1_; have HB := n2_; clear n0_ n1_ n2_; (try clear hb); (try clear hb2); (try clear hk); (try clear hi); have hcz53_0 : w52.cell? ⟨gb125, 0, none⟩ = some (.int .i64 a1_0) := (blk_cell BK125.out 0).trans rfl; have hcz53_1 : w52.cell? ⟨gb125, 1, none⟩ = some (.int .i64 a1_1) := (blk_cell BK125.out 1).trans rfl; have hcz53_2 : w52.cell? ⟨gb125, 2, none⟩ = some (.int .i64 a1_2) := (blk_cell BK125.out 2).trans rfl; have hcz53_3 : w52.cell? ⟨gb125, 3, none⟩ = some (.int .i64 a1_3) := (blk_cell BK125.out 3).trans rfl; have hcz53_4 : w52.cell? ⟨gb125, 4, none⟩ = some (.int .i64 a1_4) := (blk_cell BK125.out 4).trans rfl; have hcz53_5 : w52.cell? ⟨gb125, 5, none⟩ = some (.int .i64 a1_5) := (blk_cell BK125.out 5).trans rfl; have hcz53_6 : w52.cell? ⟨gb125, 6, none⟩ = some (.int .i64 a1_6) := (blk_cell BK125.out 6).trans rfl; have hcz53_7 : w52.cell? ⟨gb125, 7, none⟩ = some (.int .i64 a1_7) := (blk_cell BK125.out 7).trans rfl; have hcz53_8 : w52.cell? ⟨gb125, 8, none⟩ = some (.int .i64 a1_8) := (blk_cell BK125.out 8).trans rfl; have hcz53_9 : w52.cell? ⟨gb125, 9, none⟩ = some (.int .i64 a1_9) := (blk_cell BK125.out 9).trans rfl; have hcz53_10 : w52.cell? ⟨gb125, 10, none⟩ = some (.int .i64 a1_10) := (blk_cell BK125.out 10).trans rfl; have hfz53_0 := blk_frozen BK125.out 0; have hfz53_1 := blk_frozen BK125.out 1; have hfz53_2 := blk_frozen BK125.out 2; have hfz53_3 := blk_frozen BK125.out 3; have hfz53_4 := blk_frozen BK125.out 4; have hfz53_5 := blk_frozen BK125.out 5; have hfz53_6 := blk_frozen BK125.out 6; have hfz53_7 := blk_frozen BK125.out 7; have hfz53_8 := blk_frozen BK125.out 8; have hfz53_9 := blk_frozen BK125.out 9; have hfz53_10 := blk_frozen BK125.out 10) | (go_at_call 24; (with_reducible refine (statement_Valid.calls a1_0 a1_1 a1_2 a1_3 a1_4 a1_5 a1_6 a1_7 a1_8 a1_9 a1_10 false _ A5.out).mono ?_); rintro e w54 ⟨rfl, hb⟩; have n0_ := Aside0.mk (blk_below (g := gb124) (o := .cells #[.int .i64 a0_0, .int .i64 a0_1, .int .i64 a0_2, .int .i64 a0_3, .int .i64 a0_4, .int .i64 a0_5, .int .i64 a0_6, .int .i64 a0_7, .int .i64 a0_8, .int .i64 a0_9, .int .i64 a0_10] 39 (0, 0)) (by (with_reducible repeat (first | refine blk_drewN ?_ _ | refine blk_drew ?_ | refine blk_alloc ?_ _)); exact BK124.out) hb); have n1_ := Aside0.mk (blk_below (g := gb125) (o := .cells #[.int .i64 a1_0, .int .i64 a1_1, .int .i64 a1_2, .int .i64 a1_3, .int .i64 a1_4, .int .i64 a1_5, .int .i64 a1_6, .int .i64 a1_7, .int .i64 a1_8, .int .i64 a1_9, .int .i64 a1_10] 39 (0, 0)) (by (with_reducible repeat (first | refine blk_drewN ?_ _ | refine blk_drew ?_ | refine blk_alloc ?_ _)); exact BK125.out) hb); have n2_ := Aside0.mk (below_step (by repeat (first | (with_reducible first | exact HB.out | apply below_alloc | apply pw_below_drewN | apply below_drew1 | refine below_set ?_ GE124.out | refine below_set ?_ GE125.out) | exact HB.out)) hb); clear BK124; clear BK125; clear HB; have BK124 := n0_; have BK125 := n1_; have HB := n2_; clear n0_ n1_ n2_; (try clear hb); (try clear hb2); (try clear hk); (try clear hi)))
      go_ret
      exact ⟨by first | rfl | (simp [errW_none, errW_some] <;> rfl) | (simp [*, errW_none, errW_some] <;> rfl), by repeat (first | (with_reducible first | exact HB.out | apply below_alloc | apply pw_below_drewN | apply below_drew1 | refine below_set ?_ GE124.out | refine below_set ?_ GE125.out) | exact HB.out)⟩
  · replace c4 := Bool.eq_false_iff.mpr c4
    subst c4
    have H1 : (some false) = some r := by rw [if_neg (show ¬ (false = true) by decide)] at H; exact H
    clear H
    have H := H1
    clear H1
    obtain rfl := Option.some.inj H
    go_enter Tryd.func21, Tryd.ntmps21
    go_wp2_with (first | ((with_reducible refine gate_dst (N := 2) rfl ?_); refine box_event ?hg (N := 2) ?hd (cs := #[.int .i64 a0_0, .int .i64 a0_1, .int .i64 a0_2, .int .i64 a0_3, .int .i64 a0_4, .int .i64 a0_5, .int .i64 a0_6, .int .i64 a0_7, .int .i64 a0_8, .int .i64 a0_9, .int .i64 a0_10]) (t := 39) ?hr ?_; (case hd => rfl); (case hg => rfl); (case hr => first | (go_simp; done) | (go_simp; rfl)); intro gb124 hg w55 hbox hb; have n0_ := Aside0.mk (below_step (by repeat (first | (with_reducible first | exact HB.out | apply below_alloc | apply pw_below_drewN | apply below_drew1) | exact HB.out)) hb); have n1_ := Aside0.mk (hbox); have n2_ := Aside0.mk ((by rw [hg]; exact (below_size (by repeat (first | (with_reducible first | exact HB.out | apply below_alloc | apply pw_below_drewN | apply below_drew1) | exact HB.out))) : w.heap.size ≤ gb124)); have n3_ := Aside0.mk ((by rw [hg]; exact (below_size (by repeat (first | (with_reducible first | exact HB.out | apply below_alloc | apply pw_below_drewN | apply below_drew1) | exact HB.out))) : w.heap.size ≤ gb124)); clear HB; have HB := n0_; have BK124 := n1_; have GW124 := n2_; have GE124 := n3_; clear n0_ n1_ n2_ n3_; clear hb hbox hg) | ((with_reducible refine gate_dst (N := 3) rfl ?_); refine box_event ?hg (N := 3) ?hd (cs := #[.int .i64 a1_0, .int .i64 a1_1, .int .i64 a1_2, .int .i64 a1_3, .int .i64 a1_4, .int .i64 a1_5, .int .i64 a1_6, .int .i64 a1_7, .int .i64 a1_8, .int .i64 a1_9, .int .i64 a1_10]) (t := 39) ?hr ?_; (case hd => rfl); (case hg => rfl); (case hr => first | (go_simp; done) | (go_simp; rfl)); intro gb125 hg w56 hbox hb; have n0_ := Aside0.mk (blk_below (g := gb124) (o := .cells #[.int .i64 a0_0, .int .i64 a0_1, .int .i64 a0_2, .int .i64 a0_3, .int .i64 a0_4, .int .i64 a0_5, .int .i64 a0_6, .int .i64 a0_7, .int .i64 a0_8, .int .i64 a0_9, .int .i64 a0_10] 39 (0, 0)) (by (with_reducible repeat (first | refine blk_drewN ?_ _ | refine blk_drew ?_ | refine blk_alloc ?_ _)); exact BK124.out) hb); have n1_ := Aside0.mk (below_step (by repeat (first | (with_reducible first | exact HB.out | apply below_alloc | apply pw_below_drewN | apply below_drew1 | refine below_set ?_ GE124.out) | exact HB.out)) hb); have n2_ := Aside0.mk (hbox); have n3_ := Aside0.mk ((by rw [hg]; exact (below_size (by repeat (first | (with_reducible first | exact HB.out | apply below_alloc | apply pw_below_drewN | apply below_drew1 | refine below_set ?_ GE124.out) | exact HB.out))) : w.heap.size ≤ gb125)); have n4_ := Aside0.mk ((by rw [hg]; exact (below_size (by repeat (first | (with_reducible first | exact HB.out | apply below_alloc | apply pw_below_drewN | apply below_drew1 | refine below_set ?_ GE124.out) | exact HB.out))) : w.heap.size ≤ gb125)); have n5_ := Aside0.mk ((by rw [hg]; exact Nat.ne_of_lt (blk_lt (g := gb124) (o := .cells #[.int .i64 a0_0, .int .i64 a0_1, .int .i64 a0_2, .int .i64 a0_3, .int .i64 a0_4, .int .i64 a0_5, .int .i64 a0_6, .int .i64 a0_7, .int .i64 a0_8, .int .i64 a0_9, .int .i64 a0_10] 39 (0, 0)) (by (with_reducible repeat (first | refine blk_drewN ?_ _ | refine blk_drew ?_ | refine blk_alloc ?_ _)); exact BK124.out)) : gb124 ≠ gb125)); have n6_ := Aside0.mk ((by rw [hg]; exact Nat.ne_of_gt (blk_lt (g := gb124) (o := .cells #[.int .i64 a0_0, .int .i64 a0_1, .int .i64 a0_2, .int .i64 a0_3, .int .i64 a0_4, .int .i64 a0_5, .int .i64 a0_6, .int .i64 a0_7, .int .i64 a0_8, .int .i64 a0_9, .int .i64 a0_10] 39 (0, 0)) (by (with_reducible repeat (first | refine blk_drewN ?_ _ | refine blk_drew ?_ | refine blk_alloc ?_ _)); exact BK124.out)) : gb125 ≠ gb124)); clear BK124; clear HB; have BK124 := n0_; have HB := n1_; have BK125 := n2_; have GW125 := n3_; have GE125 := n4_; have NB124_125 := n5_; have NB125_124 := n6_; clear n0_ n1_ n2_ n3_ n4_ n5_ n6_; clear hb hbox hg; have hnb57 := NB124_125.out; have hnc57 := NB125_124.out; have hcz58_0 : w56.cell? ⟨gb124, 0, none⟩ = some (.int .i64 a0_0) := (blk_cell BK124.out 0).trans rfl; have hcz58_1 : w56.cell? ⟨gb124, 1, none⟩ = some (.int .i64 a0_1) := (blk_cell BK124.out 1).trans rfl; have hcz58_2 : w56.cell? ⟨gb124, 2, none⟩ = some (.int .i64 a0_2) := (blk_cell BK124.out 2).trans rfl; have hcz58_3 : w56.cell? ⟨gb124, 3, none⟩ = some (.int .i64 a0_3) := (blk_cell BK124.out 3).trans rfl; have hcz58_4 : w56.cell? ⟨gb124, 4, none⟩ = some (.int .i64 a0_4) := (blk_cell BK124.out 4).trans rfl; have hcz58_5 : w56.cell? ⟨gb124, 5, none⟩ = some (.int .i64 a0_5) := (blk_cell BK124.out 5).trans rfl; have hcz58_6 : w56.cell? ⟨gb124, 6, none⟩ = some (.int .i64 a0_6) := (blk_cell BK124.out 6).trans rfl; have hcz58_7 : w56.cell? ⟨gb124, 7, none⟩ = some (.int .i64 a0_7) := (blk_cell BK124.out 7).trans rfl; have hcz58_8 : w56.cell? ⟨gb124, 8, none⟩ = some (.int .i64 a0_8) := (blk_cell BK124.out 8).trans rfl; have hcz58_9 : w56.cell? ⟨gb124, 9, none⟩ = some (.int .i64 a0_9) := (blk_cell BK124.out 9).trans rfl; have hcz58_10 : w56.cell? ⟨gb124, 10, none⟩ = some (.int .i64 a0_10) := (blk_cell BK124.out 10).trans rfl; have hfz58_0 := blk_frozen BK124.out 0; have hfz58_1 := blk_frozen BK124.out 1; have hfz58_2 := blk_frozen BK124.out 2; have hfz58_3 := blk_frozen BK124.out 3; have hfz58_4 := blk_frozen BK124.out 4; have hfz58_5 := blk_frozen BK124.out 5; have hfz58_6 := blk_frozen BK124.out 6; have hfz58_7 := blk_frozen BK124.out 7; have hfz58_8 := blk_frozen BK124.out 8; have hfz58_9 := blk_frozen BK124.out 9; have hfz58_10 := blk_frozen BK124.out 10) | ((with_reducible refine gate_callee (f := 24) rfl ?_); refine goesL_ (some 6) rfl rfl Tryd.func24 (by kernel_rfl) rfl #[.agg #[.int .i64 a0_0, .int .i64 a0_1, .int .i64 a0_2, .int .i64 a0_3, .int .i64 a0_4, .int .i64 a0_5, .int .i64 a0_6, .int .i64 a0_7, .int .i64 a0_8, .int .i64 a0_9, .int .i64 a0_10]] rfl (by (try simp only [List.map_toArray, List.map_cons, List.map_nil]); first | done | rfl | (simp only [List.length_drop, List.length_take]; rfl)) ?_; (with_reducible refine (statement_Valid.calls a0_0 a0_1 a0_2 a0_3 a0_4 a0_5 a0_6 a0_7 a0_8 a0_9 a0_10 false _ A3.out).mono ?_); rintro e w59 ⟨rfl, hb⟩; refine ⟨_, rfl, ?_⟩; have n0_ := Aside0.mk (blk_below (g := gb124) (o := .cells #[.int .i64 a0_0, .int .i64 a0_1, .int .i64 a0_2, .int .i64 a0_3, .int .i64 a0_4, .int .i64 a0_5, .int .i64 a0_6, .int .i64 a0_7, .int .i64 a0_8, .int .i64 a0_9, .int .i64 a0_10] 39 (0, 0)) (by (with_reducible repeat (first | refine blk_drewN ?_ _ | refine blk_drew ?_ | refine blk_alloc ?_ _)); exact BK124.out) hb); have n1_ := Aside0.mk (blk_below (g := gb125) (o := .cells #[.int .i64 a1_0, .int .i64 a1_1, .int .i64 a1_2, .int .i64 a1_3, .int .i64 a1_4, .int .i64 a1_5, .int .i64 a1_6, .int .i64 a1_7, .int .i64 a1_8, .int .i64 a1_9, .int .i64 a1_10] 39 (0, 0)) (by (with_reducible repeat (first | refine blk_drewN ?_ _ | refine blk_drew ?_ | refine blk_alloc ?_ _)); exact BK125.out) hb); have n2_ := Aside0.mk (below_step (by repeat (first | (with_reducible first | exact HB.out | apply below_alloc | apply pw_below_drewN | apply below_drew1 | refine below_set ?_ GE124.out | refine below_set ?_ GE125.out) | exact HB.out)) hb); clear BK124; clear BK125; clear HB; have BK124 := n0_; have BK125 := n1_; have HB := n2_; clear n0_ n1_ n2_; (try clear hb); (try clear hb2); (try clear hk); (try clear hi)))
    go_ret
    exact ⟨by first | rfl | (simp [errW_none, errW_some] <;> rfl) | (simp [*, errW_none, errW_some] <;> rfl), by repeat (first | (with_reducible first | exact HB.out | apply below_alloc | apply pw_below_drewN | apply below_drew1 | refine below_set ?_ GE124.out | refine below_set ?_ GE125.out) | exact HB.out)⟩
end Go.Proofs.YtcalkhlchjjalaaDoor.Q

namespace Go.Proofs.YtcalkhlchjjalaaDoor.Q
open Go Go.RowKit Go.Proofs Go.Proofs.YtcalkhlchjjalaaDoor.Gm Go.Proofs.YtcalkhlchjjalaaDoor.Gdm Go.Proofs.YtcalkhlchjjalaaDoor.Gmr Go.Proofs.YtcalkhlchjjalaaDoor.Gsy Go.Proofs.YtcalkhlchjjalaaDoor.Gnx Go.Proofs.YtcalkhlchjjalaaDoor.Gck Go.Proofs.YtcalkhlchjjalaaDoor.Ggd Go.Proofs.YtcalkhlchjjalaaDoorW.PrintWords Go.Proofs.YtcalkhlchjjalaaDoorW.PrintLast Go.Proofs.YtcalkhlchjjalaaDoorW.PrintMore
set_option linter.unusedVariables false
def sm1 : Int := mk_ 7 (bts ⟨1, 2, 1, 0, 5, 1, 3, 9, 10, 8, 0⟩)
def sA : S39 := ⟨1, 2, 1, 0, 5, 1, 3, 9, 10, 8, sm1⟩
def sdg : Int := dg 1 (bts sA)
def sm2 : Int := mk_ 7 (bts ⟨1, 2, 2, sdg, 6, 3, 3, 0, 0, 0, 0⟩)
def sB : S39 := ⟨1, 2, 2, sdg, 6, 3, 3, 0, 0, 0, sm2⟩
def sP : List S25 := [⟨1, 7⟩]
theorem n1_ok : nxt [] 1 7 2 5 1 3 9 10 8 = (sA, 0) := by
  unfold nxt
  rw [if_neg (by decide), if_neg (by decide), if_neg (by simp)]
  show fin 1 7 2 1 0 5 1 3 9 10 8 = _
  unfold fin
  rw [if_pos (by decide)]
  rfl
theorem n2_ok : nxt [sA] 1 7 2 6 3 3 0 0 0 = (sB, 0) := by
  have hr := dg_range (bts sA) 1 (by omega)
  have hd : 0 ≤ sdg ∧ sdg < 2147483647 := hr
  unfold nxt
  rw [if_neg (by decide), if_neg (by decide), if_neg (by rintro ⟨s, hs, h⟩; rw [List.mem_singleton.1 hs] at h; revert h; unfold sA; simp)]
  show (if (6 : Int) < sA.f4 then _ else fin 1 7 2 2 sdg 6 3 3 0 0 0) = _
  rw [if_neg (by unfold sA; simp only; omega)]
  unfold fin
  rw [if_pos ((vldS_iff _).2 ⟨by simp only; omega, by simp only; omega, by simp, by simp only; omega, by simp only; omega, ⟨by simp only; omega, by simp only; omega⟩, .inl (by simp only; omega), by simp only; omega, by simp only; omega, by simp only; omega, by decide⟩)]
  rfl
theorem i64_ {x : Int} (h : -1000000 ≤ x ∧ x ≤ 1000000) : I64 x := by unfold I64; omega
theorem g1_ok : Gd 1 7 2 [sA] := (Gd.nil 1 7 2).snoc n1_ok (i64_ (by omega)) (i64_ (by omega)) (i64_ (by omega)) (i64_ (by omega)) (i64_ (by omega)) (i64_ (by omega)) (i64_ (by omega)) (i64_ (by omega))
theorem g2_ok : Gd 1 7 2 [sA, sB] := g1_ok.snoc n2_ok (i64_ (by omega)) (i64_ (by omega)) (i64_ (by omega)) (i64_ (by omega)) (i64_ (by omega)) (i64_ (by omega)) (i64_ (by omega)) (i64_ (by omega))
theorem hP : Holds sP 1 7 := ⟨by decide, by decide, by decide⟩
theorem sP_wf : sP.all (fun p => (Lit.int .i64 p.f1).wf) = true := by decide
theorem wA : W64 sA := g1_ok.w64 sA (by simp)
theorem wB : W64 sB := g2_ok.w64 sB (by simp)
theorem vA : vldS sA = true := (g2_ok 0 (by simp)).v
theorem vB : vldS sB = true := (g2_ok 1 (by simp)).v
section
variable (w : World)
theorem next1_x (hG : GL w) : Calls Tryd.prog 14 #[.slice none 0 0, .agg #[.int .i64 1, .int .i64 7], .int .i64 2, .int .i64 5, .int .i64 1, .int .i64 3, .int .i64 9, .int .i64 10, .int .i64 8] w fun e w' =>
    e = .returned (.tuple #[.agg #[.int .i64 1, .int .i64 2, .int .i64 1, .int .i64 0, .int .i64 5, .int .i64 1, .int .i64 3, .int .i64 9, .int .i64 10, .int .i64 8, .int .i64 sm1], .int .i64 0]) ∧ Below w.heap.size w w' :=
  next_x none 0 [] 1 7 2 5 1 3 9 10 8 w (Kd.C_nil _ _) (Nat.le_refl _) hG (by simp) (i64_ (by omega)) (i64_ (by omega)) (i64_ (by omega)) (i64_ (by omega)) (i64_ (by omega)) (i64_ (by omega)) (i64_ (by omega)) (i64_ (by omega)) sA 0 n1_ok
theorem next2_x (A : Option Addr) (hC : Kd.C k39 w A 1 [sA]) (hG : GL w) : Calls Tryd.prog 14 #[.slice A 1 1, .agg #[.int .i64 1, .int .i64 7], .int .i64 2, .int .i64 6, .int .i64 3, .int .i64 3, .int .i64 0, .int .i64 0, .int .i64 0] w fun e w' =>
    e = .returned (.tuple #[.agg #[.int .i64 1, .int .i64 2, .int .i64 2, .int .i64 sdg, .int .i64 6, .int .i64 3, .int .i64 3, .int .i64 0, .int .i64 0, .int .i64 0, .int .i64 sm2], .int .i64 0]) ∧ Below w.heap.size w w' :=
  next_x A 1 [sA] 1 7 2 6 3 3 0 0 0 w hC (Nat.le_refl _) hG (fun s hs => by rw [List.mem_singleton.1 hs]; exact wA) (i64_ (by omega)) (i64_ (by omega)) (i64_ (by omega)) (i64_ (by omega)) (i64_ (by omega)) (i64_ (by omega)) (i64_ (by omega)) (i64_ (by omega)) sB 0 n2_ok
theorem bytesA_x : Calls Tryd.prog 25 #[.agg #[.int .i64 1, .int .i64 2, .int .i64 1, .int .i64 0, .int .i64 5, .int .i64 1, .int .i64 3, .int .i64 9, .int .i64 10, .int .i64 8, .int .i64 sm1]] w fun e w' => e = .returned (.string (B (bts sA))) ∧ Below w.heap.size w w' := bytes_x 1 2 1 0 5 1 3 9 10 8 sm1 wA w
theorem sumA_x : Calls Tryd.prog 26 #[.string (B (bts sA))] w fun e w' => e = .returned (.int .i64 sdg) ∧ Below w.heap.size w w' := sum_x _ (Nat.le_trans (bts_len wA) (by omega)) w
theorem check2_x (A9 A0 : Option Addr) (h9 : Kd.C k25 w A9 1 sP) (h0 : Kd.C k39 w A0 2 [sA, sB]) (hG : GL w) : Calls Tryd.prog 18 #[.slice A9 1 1, .slice A0 2 2] w fun e w' => e = .returned (.int .i64 0) ∧ Below w.heap.size w w' :=
  check_x A9 1 sP A0 2 [sA, sB] w h9 (Nat.le_refl _) h0 (Nat.le_refl _) hG sP_wf g2_ok.w64 0 (g2_ok.chk hP (by decide))
theorem verB_x (A9 : Option Addr) (h9 : Kd.C k25 w A9 1 sP) (hG : GL w) : Calls Tryd.prog 20 #[.slice A9 1 1, .agg #[.int .i64 1, .int .i64 2, .int .i64 2, .int .i64 sdg, .int .i64 6, .int .i64 3, .int .i64 3, .int .i64 0, .int .i64 0, .int .i64 0, .int .i64 sm2]] w fun e w' => e = .returned (.bool true) ∧ Below w.heap.size w w' :=
  statement_Verified.calls 200 A9 1 sP 1 2 2 sdg 6 3 3 0 0 0 sm2 true w h9 (Nat.le_refl _) (by have h := Verified_eq sP sP_wf sB wB 200 (Nat.le_refl _); rw [verS_ok hP vB rfl rfl] at h; exact h) hG
theorem con_x (hG : GL w) : Calls Tryd.prog 21 #[.agg #[.int .i64 1, .int .i64 2, .int .i64 1, .int .i64 0, .int .i64 5, .int .i64 1, .int .i64 3, .int .i64 9, .int .i64 10, .int .i64 8, .int .i64 sm1], .agg #[.int .i64 1, .int .i64 2, .int .i64 2, .int .i64 sdg, .int .i64 6, .int .i64 3, .int .i64 3, .int .i64 0, .int .i64 0, .int .i64 0, .int .i64 sm2]] w fun e w' => e = .returned (.bool false) ∧ Below w.heap.size w w' :=
  statement_Contradict.calls 1 2 1 0 5 1 3 9 10 8 sm1 1 2 2 sdg 6 3 3 0 0 0 sm2 false w (by
    unfold statement_Contradict.f statement_Valid.f
    rw [Option.bind_some, if_pos (show vldB 1 2 1 0 5 1 3 9 10 8 sm1 = true from vA), Option.bind_some, if_pos (show vldB 1 2 2 sdg 6 3 3 0 0 0 sm2 = true from vB), if_pos rfl, if_pos rfl, if_neg (by decide)]) hG
theorem same_x : Calls Tryd.prog 23 #[.agg #[.int .i64 1, .int .i64 2, .int .i64 1, .int .i64 0, .int .i64 5, .int .i64 1, .int .i64 3, .int .i64 9, .int .i64 10, .int .i64 8, .int .i64 sm1], .agg #[.int .i64 1, .int .i64 2, .int .i64 1, .int .i64 0, .int .i64 5, .int .i64 1, .int .i64 3, .int .i64 9, .int .i64 10, .int .i64 8, .int .i64 sm1]] w fun e w' => e = .returned (.bool true) ∧ Below w.heap.size w w' :=
  statement_Same.calls 1 2 1 0 5 1 3 9 10 8 sm1 1 2 1 0 5 1 3 9 10 8 sm1 true w (by unfold statement_Same.f; rfl)
end
theorem repsA (W : World) : Reps ((k39).K W) (k39).sz [sA] [.int .i64 1, .int .i64 2, .int .i64 1, .int .i64 0, .int .i64 5, .int .i64 1, .int .i64 3, .int .i64 9, .int .i64 10, .int .i64 8, .int .i64 sm1] := Reps.front (k39_mk W sA) rfl (Reps.none _ _) rfl
theorem repsAB (W : World) : Reps ((k39).K W) (k39).sz [sA, sB] [.int .i64 1, .int .i64 2, .int .i64 1, .int .i64 0, .int .i64 5, .int .i64 1, .int .i64 3, .int .i64 9, .int .i64 10, .int .i64 8, .int .i64 sm1, .int .i64 1, .int .i64 2, .int .i64 2, .int .i64 sdg, .int .i64 6, .int .i64 3, .int .i64 3, .int .i64 0, .int .i64 0, .int .i64 0, .int .i64 sm2] := Reps.front (k39_mk W sA) rfl (Reps.front (k39_mk W sB) rfl (Reps.none _ _) rfl) rfl
theorem repsP (W : World) : Reps ((k25).K W) (k25).sz sP [.int .i64 1, .int .i64 7] := Reps.front (k25_mk W ⟨1, 7⟩) rfl (Reps.none _ _) rfl
/-- What the last statement of the check reads. -/
structure SnAll (w : World) (ga gb gp : Nat) (W : World) : Prop where
  hb : Below w.heap.size w W
  a : W.heap[ga]? = some (.cells #[.int .i64 1, .int .i64 2, .int .i64 1, .int .i64 0, .int .i64 5, .int .i64 1, .int .i64 3, .int .i64 9, .int .i64 10, .int .i64 8, .int .i64 sm1] 39 (0, 0))
  b : W.heap[gb]? = some (.cells #[.int .i64 1, .int .i64 2, .int .i64 2, .int .i64 sdg, .int .i64 6, .int .i64 3, .int .i64 3, .int .i64 0, .int .i64 0, .int .i64 0, .int .i64 sm2] 39 (0, 0))
  p : Kd.C k25 W (some ⟨gp, 0, none⟩) 1 sP
theorem SnAll.below {w W W' : World} {ga gb gp : Nat} (h : SnAll w ga gb gp W) (hb : Below W.heap.size W W') : SnAll w ga gb gp W' :=
  ⟨below_step h.hb hb, blk_below h.a hb, blk_below h.b hb, Kd.C_below h.p hb⟩
theorem SnAll.drew {w W : World} {ga gb gp : Nat} (h : SnAll w ga gb gp W) : SnAll w ga gb gp W.drew := h.below (below_drew1 (Below.refl _ _))
theorem SnAll.alloc {w W : World} {ga gb gp : Nat} (h : SnAll w ga gb gp W) (o : Obj) : SnAll w ga gb gp (W.alloc o) := h.below (below_alloc (Below.refl _ _) o)
theorem SnAll.all {w W : World} {ga gb gp : Nat} (h : SnAll w ga gb gp W) : (SnAll w ga gb gp W ∧ W.cell? ⟨ga, 0, none⟩ = some (.int .i64 1) ∧ W.cell? ⟨ga, 1, none⟩ = some (.int .i64 2) ∧ W.cell? ⟨ga, 2, none⟩ = some (.int .i64 1) ∧ W.cell? ⟨ga, 3, none⟩ = some (.int .i64 0) ∧ W.cell? ⟨ga, 4, none⟩ = some (.int .i64 5) ∧ W.cell? ⟨ga, 5, none⟩ = some (.int .i64 1) ∧ W.cell? ⟨ga, 6, none⟩ = some (.int .i64 3) ∧ W.cell? ⟨ga, 7, none⟩ = some (.int .i64 9) ∧ W.cell? ⟨ga, 8, none⟩ = some (.int .i64 10) ∧ W.cell? ⟨ga, 9, none⟩ = some (.int .i64 8) ∧ W.cell? ⟨ga, 10, none⟩ = some (.int .i64 sm1) ∧ W.cell? ⟨gb, 0, none⟩ = some (.int .i64 1) ∧ W.cell? ⟨gb, 1, none⟩ = some (.int .i64 2) ∧ W.cell? ⟨gb, 2, none⟩ = some (.int .i64 2) ∧ W.cell? ⟨gb, 3, none⟩ = some (.int .i64 sdg) ∧ W.cell? ⟨gb, 4, none⟩ = some (.int .i64 6) ∧ W.cell? ⟨gb, 5, none⟩ = some (.int .i64 3) ∧ W.cell? ⟨gb, 6, none⟩ = some (.int .i64 3) ∧ W.cell? ⟨gb, 7, none⟩ = some (.int .i64 0) ∧ W.cell? ⟨gb, 8, none⟩ = some (.int .i64 0) ∧ W.cell? ⟨gb, 9, none⟩ = some (.int .i64 0) ∧ W.cell? ⟨gb, 10, none⟩ = some (.int .i64 sm2)) := ⟨h, (blk_cell h.a 0).trans rfl, (blk_cell h.a 1).trans rfl, (blk_cell h.a 2).trans rfl, (blk_cell h.a 3).trans rfl, (blk_cell h.a 4).trans rfl, (blk_cell h.a 5).trans rfl, (blk_cell h.a 6).trans rfl, (blk_cell h.a 7).trans rfl, (blk_cell h.a 8).trans rfl, (blk_cell h.a 9).trans rfl, (blk_cell h.a 10).trans rfl, (blk_cell h.b 0).trans rfl, (blk_cell h.b 1).trans rfl, (blk_cell h.b 2).trans rfl, (blk_cell h.b 3).trans rfl, (blk_cell h.b 4).trans rfl, (blk_cell h.b 5).trans rfl, (blk_cell h.b 6).trans rfl, (blk_cell h.b 7).trans rfl, (blk_cell h.b 8).trans rfl, (blk_cell h.b 9).trans rfl, (blk_cell h.b 10).trans rfl⟩
theorem check_sn {w W W1 : World} {ga gb gp : Nat} (hG : GL w) (h : SnAll w ga gb gp W1) (hd : Below (W.alloc (.cells #[.int .i64 1, .int .i64 2, .int .i64 1, .int .i64 0, .int .i64 5, .int .i64 1, .int .i64 3, .int .i64 9, .int .i64 10, .int .i64 8, .int .i64 sm1, .int .i64 1, .int .i64 2, .int .i64 2, .int .i64 sdg, .int .i64 6, .int .i64 3, .int .i64 3, .int .i64 0, .int .i64 0, .int .i64 0, .int .i64 sm2] 39)).heap.size (W.alloc (.cells #[.int .i64 1, .int .i64 2, .int .i64 1, .int .i64 0, .int .i64 5, .int .i64 1, .int .i64 3, .int .i64 9, .int .i64 10, .int .i64 8, .int .i64 sm1, .int .i64 1, .int .i64 2, .int .i64 2, .int .i64 sdg, .int .i64 6, .int .i64 3, .int .i64 3, .int .i64 0, .int .i64 0, .int .i64 0, .int .i64 sm2] 39)) W1) : Calls Tryd.prog 18 #[.slice (some ⟨gp, 0, none⟩) 1 1, .slice (some ⟨W.heap.size, 0, none⟩) 2 2] W1 fun e w' => e = .returned (.int .i64 0) ∧ Below W1.heap.size W1 w' :=
  check2_x _ _ _ h.p (Kd.C_below (Grl.C_of_lit (k39) W 39 (repsAB _) (by decide)) hd) (hG.step h.hb)
section
variable {w W : World} {ga gb gp : Nat} (hG : GL w) (h : SnAll w ga gb gp W)
include hG h
theorem ver_sn : Calls Tryd.prog 20 #[.slice (some ⟨gp, 0, none⟩) 1 1, .agg #[.int .i64 1, .int .i64 2, .int .i64 2, .int .i64 sdg, .int .i64 6, .int .i64 3, .int .i64 3, .int .i64 0, .int .i64 0, .int .i64 0, .int .i64 sm2]] W fun e w' => e = .returned (.bool true) ∧ Below W.heap.size W w' := verB_x _ _ h.p (hG.step h.hb)
theorem con_sn : Calls Tryd.prog 21 #[.agg #[.int .i64 1, .int .i64 2, .int .i64 1, .int .i64 0, .int .i64 5, .int .i64 1, .int .i64 3, .int .i64 9, .int .i64 10, .int .i64 8, .int .i64 sm1], .agg #[.int .i64 1, .int .i64 2, .int .i64 2, .int .i64 sdg, .int .i64 6, .int .i64 3, .int .i64 3, .int .i64 0, .int .i64 0, .int .i64 0, .int .i64 sm2]] W fun e w' => e = .returned (.bool false) ∧ Below W.heap.size W w' := con_x _ (hG.step h.hb)
end
set_option maxRecDepth 100000 in
set_option maxHeartbeats 8000000 in
theorem sane_x (w : World) (hG : GL w) : Calls Tryd.prog 8 #[] w fun e w' => e = .returned (.bool true) ∧ Below w.heap.size w w' := by
  have mixed : (Tryd.prog).follows .mixedOrders = true := by kernel_rfl
  have hu39 := Tryd.underlying39
  have hu25 := Tryd.underlying25
  have HG := Aside0.mk hG
  clear hG
  go_enter Tryd.func8, Tryd.ntmps8
  go_upto_region 5 with (first | (go_at_call 14; with_reducible refine (next1_x _ ?gl).mono ?_; (case gl => exact HG.out.alloc _); rintro e w2 ⟨rfl, hb⟩; have HB := Aside0.mk (below_step (below_alloc (Below.refl w.heap.size w) (.cells #[.int .i64 1, .int .i64 7] 25)) hb); have HPB := Aside0.mk (blk_below (heap_alloc_new w (.cells #[.int .i64 1, .int .i64 7] 25)) hb); clear hb; have hp0 : w2.cell? ⟨w.heap.size, 0, none⟩ = some (.int .i64 1) := (blk_cell HPB.out 0).trans rfl; have hp1 : w2.cell? ⟨w.heap.size, 1, none⟩ = some (.int .i64 7) := (blk_cell HPB.out 1).trans rfl; have hpz : w.heap.size < w2.heap.size := blk_lt HPB.out; have HC1 : Aside0 (Kd.C k39 ((w2.alloc (.cells #[.int .i64 1, .int .i64 2, .int .i64 1, .int .i64 0, .int .i64 5, .int .i64 1, .int .i64 3, .int .i64 9, .int .i64 10, .int .i64 8, .int .i64 sm1] 39)).alloc (.cells #[.int .i64 1, .int .i64 2, .int .i64 1, .int .i64 0, .int .i64 5, .int .i64 1, .int .i64 3, .int .i64 9, .int .i64 10, .int .i64 8, .int .i64 sm1] 39)) (some ⟨w2.heap.size + 1, 0, none⟩) 1 [sA]) := ⟨by have h := Grl.C_of_lit (k39) (w2.alloc (.cells #[.int .i64 1, .int .i64 2, .int .i64 1, .int .i64 0, .int .i64 5, .int .i64 1, .int .i64 3, .int .i64 9, .int .i64 10, .int .i64 8, .int .i64 sm1] 39)) 39 (repsA _) (by decide); simpa using h⟩) | (go_at_call 14; with_reducible refine (next2_x _ _ HC1.out ?gl).mono ?_; (case gl => exact HG.out.step (below_alloc (below_alloc HB.out _) _)); rintro e w4 ⟨rfl, hb⟩; have n1_ := Aside0.mk (below_step (below_alloc (below_alloc HB.out _) _) hb); have HA := Aside0.mk (blk_below (blk_alloc (heap_alloc_new w2 (.cells #[.int .i64 1, .int .i64 2, .int .i64 1, .int .i64 0, .int .i64 5, .int .i64 1, .int .i64 3, .int .i64 9, .int .i64 10, .int .i64 8, .int .i64 sm1] 39)) (.cells #[.int .i64 1, .int .i64 2, .int .i64 1, .int .i64 0, .int .i64 5, .int .i64 1, .int .i64 3, .int .i64 9, .int .i64 10, .int .i64 8, .int .i64 sm1] 39)) hb); have n2_ := Aside0.mk (blk_below (blk_alloc (blk_alloc HPB.out _) _) hb); clear HB HPB hb HC1; have HB := n1_; have HPB := n2_; clear n1_ n2_; have hp0_ : w4.cell? ⟨w.heap.size, 0, none⟩ = some (.int .i64 1) := (blk_cell HPB.out 0).trans rfl; have hp1_ : w4.cell? ⟨w.heap.size, 1, none⟩ = some (.int .i64 7) := (blk_cell HPB.out 1).trans rfl; have hpz_ : w.heap.size < w4.heap.size := blk_lt HPB.out))
  have HS : SnAll w w2.heap.size w4.heap.size (w4.heap.size + 1) ((w4.alloc (.cells #[.int .i64 1, .int .i64 2, .int .i64 2, .int .i64 sdg, .int .i64 6, .int .i64 3, .int .i64 3, .int .i64 0, .int .i64 0, .int .i64 0, .int .i64 sm2] 39)).alloc (.cells #[.int .i64 1, .int .i64 7] 25)) :=
    ⟨below_alloc (below_alloc HB.out _) _, blk_alloc (blk_alloc HA.out _) _, blk_alloc (heap_alloc_new w4 _) _, by have h : Kd.C k25 _ _ 1 sP := Grl.C_of_lit (k25) (w4.alloc (.cells #[.int .i64 1, .int .i64 2, .int .i64 2, .int .i64 sdg, .int .i64 6, .int .i64 3, .int .i64 3, .int .i64 0, .int .i64 0, .int .i64 0, .int .i64 sm2] 39)) 25 (repsP _) (by decide); simpa using h⟩
  obtain ⟨W5, hW5⟩ : ∃ W5, W5 = ((w4.alloc (.cells #[.int .i64 1, .int .i64 2, .int .i64 2, .int .i64 sdg, .int .i64 6, .int .i64 3, .int .i64 3, .int .i64 0, .int .i64 0, .int .i64 0, .int .i64 sm2] 39)).alloc (.cells #[.int .i64 1, .int .i64 7] 25)) := ⟨_, rfl⟩
  rw [← hW5] at HS ⊢
  clear hW5 HB HPB HA hp0 hp1 hp0_ hp1_ hpz hpz_
  generalize w4.heap.size + 1 = gp at HS ⊢
  generalize w4.heap.size = gb at HS ⊢
  generalize w2.heap.size = ga at HS ⊢
  have HSA := HS.all
  go_region_held3 (fun W => (SnAll w ga gb gp W ∧ W.cell? ⟨ga, 0, none⟩ = some (.int .i64 1) ∧ W.cell? ⟨ga, 1, none⟩ = some (.int .i64 2) ∧ W.cell? ⟨ga, 2, none⟩ = some (.int .i64 1) ∧ W.cell? ⟨ga, 3, none⟩ = some (.int .i64 0) ∧ W.cell? ⟨ga, 4, none⟩ = some (.int .i64 5) ∧ W.cell? ⟨ga, 5, none⟩ = some (.int .i64 1) ∧ W.cell? ⟨ga, 6, none⟩ = some (.int .i64 3) ∧ W.cell? ⟨ga, 7, none⟩ = some (.int .i64 9) ∧ W.cell? ⟨ga, 8, none⟩ = some (.int .i64 10) ∧ W.cell? ⟨ga, 9, none⟩ = some (.int .i64 8) ∧ W.cell? ⟨ga, 10, none⟩ = some (.int .i64 sm1) ∧ W.cell? ⟨gb, 0, none⟩ = some (.int .i64 1) ∧ W.cell? ⟨gb, 1, none⟩ = some (.int .i64 2) ∧ W.cell? ⟨gb, 2, none⟩ = some (.int .i64 2) ∧ W.cell? ⟨gb, 3, none⟩ = some (.int .i64 sdg) ∧ W.cell? ⟨gb, 4, none⟩ = some (.int .i64 6) ∧ W.cell? ⟨gb, 5, none⟩ = some (.int .i64 3) ∧ W.cell? ⟨gb, 6, none⟩ = some (.int .i64 3) ∧ W.cell? ⟨gb, 7, none⟩ = some (.int .i64 0) ∧ W.cell? ⟨gb, 8, none⟩ = some (.int .i64 0) ∧ W.cell? ⟨gb, 9, none⟩ = some (.int .i64 0) ∧ W.cell? ⟨gb, 10, none⟩ = some (.int .i64 sm2))) (((try go_split_ands); first | (refine SnAll.all (SnAll.drew ?_); assumption) | (refine SnAll.all ?_; assumption) | (refine SnAll.all (SnAll.alloc ?_ _); assumption) | (refine SnAll.all (SnAll.below ?_ hb); assumption)))
    (first | (go_at_call 25; with_reducible refine (bytesA_x _).mono ?_; rintro e w' ⟨rfl, hb⟩) | (go_at_call 26; with_reducible refine (sumA_x _).mono ?_; rintro e w' ⟨rfl, hb⟩) | (go_at_call 18; (try go_split_ands); with_reducible refine (check_sn HG.out (by assumption) (Below.refl _ _)).mono ?_; rintro e w' ⟨rfl, hb⟩) | (go_at_call 20; (try go_split_ands); with_reducible refine (ver_sn HG.out (by assumption)).mono ?_; rintro e w' ⟨rfl, hb⟩) | (go_at_call 21; (try go_split_ands); with_reducible refine (con_sn HG.out (by assumption)).mono ?_; rintro e w' ⟨rfl, hb⟩) | (go_at_call 23; with_reducible refine (same_x _).mono ?_; rintro e w' ⟨rfl, hb⟩))
  all_goals
    (try go_split_ands)
    go_wp2
    go_ret
    refine ⟨rfl, ?_⟩
    refine SnAll.hb (ga := ga) (gb := gb) (gp := gp) ?_
    assumption
def storagebarterlaw15_sane.f : Option Bool := some true
theorem storagebarterlaw15_sane.calls (r : Bool) (w : World) (h : storagebarterlaw15_sane.f = some r) (hGL : GL w := by first | exact hGL | exact Aside0.out HGL | exact GL.step (Aside0.out HGL) (by repeat (first | (with_reducible first | exact HB.out | apply below_alloc | apply pw_below_drewN | apply below_drew1 | refine below_set ?_ (Aside0.out (by assumption))) | exact HB.out))) :
    Calls Tryd.prog 8 #[] w fun e w' => e = .returned (.bool r) ∧ Below w.heap.size w w' := by
  obtain rfl := Option.some.inj h
  exact sane_x w hGL
end Go.Proofs.YtcalkhlchjjalaaDoor.Q

namespace Go.Proofs.YtcalkhlchjjalaaDoor.Gcw
open Go Go.RowKit Go.Proofs Go.Proofs.YtcalkhlchjjalaaDoor.Gm Go.Proofs.YtcalkhlchjjalaaDoor.Gdm Go.Proofs.YtcalkhlchjjalaaDoor.Gmr Go.Proofs.YtcalkhlchjjalaaDoor.Gpp Go.Proofs.YtcalkhlchjjalaaDoor.Gsy Go.Proofs.YtcalkhlchjjalaaDoor.Gnx Go.Proofs.YtcalkhlchjjalaaDoor.Gck Go.Proofs.YtcalkhlchjjalaaDoor.Ggd Go.Proofs.YtcalkhlchjjalaaDoor.Q Go.Proofs.YtcalkhlchjjalaaDoorW.PrintWords Go.Proofs.YtcalkhlchjjalaaDoorW.PrintLast Go.Proofs.YtcalkhlchjjalaaDoorW.PrintMore
set_option linter.unusedVariables false
theorem holds_made {l : List S25} {sec : Int} (h : Made l sec) (hl : l.length ≤ 16) (j : Nat) (hj : j < l.length) : Holds l ((j : Int) + 1) l[j].f1 := by
  refine ⟨h.ck hl, ?_, (h.within hl _ (List.getElem_mem hj)).2⟩
  have h1 := Find_made h hl j hj
  rw [mFind_eq l (h.wf hl)] at h1
  exact Option.some.inj h1
theorem C_heap {W W' : World} {ad : Addr} {n : Nat} {xs : List S25} (h : Kd.C k25 W (some ad) n xs) (he : W'.heap[ad.block]? = W.heap[ad.block]?) : Kd.C k25 W' (some ad) n xs := by
  obtain ⟨h1, h2, h3⟩ := h
  refine ⟨h1, h2, fun hn => ?_⟩
  obtain ⟨a, ea, h4⟩ := h3 hn
  cases ea
  refine ⟨_, rfl, fun j p hj => ?_⟩
  obtain ⟨cs, g1, g2, g3⟩ := h4 j p hj
  refine ⟨cs, g1, ?_, fun i u hu => ?_⟩
  · rw [k25_open g2]; exact k25_mk _ _
  · rw [← g3 i u hu]
    have hbl : ∀ q, (ad.add q).block = ad.block := fun q => by unfold Addr.add; split <;> rfl
    unfold World.cell?
    rw [hbl, he]
/-- The deck, the people and the chain. -/
structure CW (w W : World) (gd : Nat) (L : List Int) (ad : Addr) (ps : List S25) (v9 : Value) (ch : List S39) : Prop where
  hb : Below w.heap.size w W
  dk : ∃ at_, 0 ≤ at_ ∧ IsS57 w W gd L at_
  pe : Kd.C k25 W (some ad) ps.length ps
  ty : ∃ cells, W.heap[ad.block]? = some (.cells cells 25 (0, 0))
  cr : Kd.R k39 39 W w.heap.size (fun _ => True) v9 ch
section
variable {w W W' : World} {gd : Nat} {L : List Int} {ad : Addr} {ps : List S25} {v9 v1 : Value} {ch ch' : List S39}
theorem CW.below (h : CW w W gd L ad ps v9 ch) (hb : Below W.heap.size W W') : CW w W' gd L ad ps v9 ch := by
  obtain ⟨at_, h0, hd⟩ := h.dk
  obtain ⟨cs, hc⟩ := h.ty
  have he := hb.block ad.block (blk_lt hc)
  exact ⟨below_step h.hb hb, ⟨at_, h0, hd.below hb⟩, C_heap h.pe he, ⟨cs, he.trans hc⟩, Kd.R_below h.cr hb⟩
theorem CW.alloc (h : CW w W gd L ad ps v9 ch) (o : Obj) : CW w (W.alloc o) gd L ad ps v9 ch := h.below (below_alloc (Below.refl _ _) o)
theorem CW.drew (h : CW w W gd L ad ps v9 ch) : CW w W.drew gd L ad ps v9 ch := h.below (below_drew1 (Below.refl _ _))
theorem CW.next {at_ : Int} (h : CW w W gd L ad ps v9 ch) (h0 : 0 ≤ at_) (hd : IsS57 w W' gd L at_) (hb : Below w.heap.size w W') (hk : KeepBut W W' gd none) : CW w W' gd L ad ps v9 ch := by
  obtain ⟨at0, -, A0, c0, hbg, -, -⟩ := h.dk
  obtain ⟨cs, hc⟩ := h.ty
  have hne : ad.block ≠ gd := by
    rintro e
    rw [e, hbg] at hc
    injection hc with hc
    injection hc with _ hc
    exact absurd hc (by decide)
  have he := hk.2 ad.block (blk_lt hc) hne (by simp)
  exact ⟨hb, ⟨at_, h0, hd⟩, C_heap h.pe he, ⟨cs, he.trans hc⟩, Kd.R_mono (Kd.R_keep (Kd.R_types h.cr hbg (by first | decide | (intro q hq; rcases List.mem_cons.1 hq with h_ | h_; (subst h_; decide); (first | (cases h_; done) | (simp [k39] at h_))))) hk (fun _ z => z.2)) (fun _ _ => trivial)⟩
theorem CW.app (h : CW w W gd L ad ps v9 ch) (hr : Kd.R k39 39 W' w.heap.size (fun _ => True) v1 ch') (hb : Below w.heap.size w W') (hg : W.grownBy W' v9.ownBlock) : CW w W' gd L ad ps v1 ch' := by
  obtain ⟨at_, h0, hd⟩ := h.dk
  obtain ⟨cs, hc⟩ := h.ty
  have he : W'.heap[ad.block]? = W.heap[ad.block]? := (blk_grown hc hg (Kd.R_ne h.cr hc (by decide))).trans hc.symm
  exact ⟨hb, ⟨at_, h0, hd.grown hg (hd.own_ne h.cr (by decide))⟩, C_heap h.pe he, ⟨cs, he.trans hc⟩, hr⟩
theorem CW.turn (h : CW w W gd L ad ps v9 ch) (hL : L.length ≤ 1000000) (n : Int) (hn : 1 ≤ n ∧ n ≤ 100000) : Calls Tryd.prog 16 #[.pointer (some ⟨gd, 0, none⟩), .int .i64 n] W fun e w' => ∃ t : Int, e = .returned (.int .i64 t) ∧ 0 ≤ t ∧ t < n ∧ CW w w' gd L ad ps v9 ch := by
  obtain ⟨at_, h0, hd⟩ := h.dk
  obtain ⟨t, a1, e, p, q, h1⟩ := next_ok L at_ n hn.1 (by omega) h0 hL
  refine (storagebartermake_Deck_Next.calls gd L at_ n t a1 w W hd h.hb e).mono fun e' w' z => ?_
  obtain ⟨rfl, z1, z2, z3⟩ := z
  exact ⟨t, rfl, p, q, h.next h1 z1 z2 z3⟩
/-- A block of one statement that was made besides. -/
structure ZB (w W : World) (gz : Nat) (v9 : Value) (cs : Array Value) : Prop where
  b : W.heap[gz]? = some (.cells cs 39 (0, 0))
  ne : some gz ≠ v9.ownBlock
  le : w.heap.size ≤ gz
theorem CW.made (h : CW w W gd L ad ps v9 ch) (cs : Array Value) : ZB w (W.alloc (.cells cs 39)) W.heap.size v9 cs :=
  ⟨heap_alloc_new W _, by have := Kd.R_ne_new h.cr 0; simpa using this, h.hb.size⟩
theorem ZB.below {gz : Nat} {cs : Array Value} (z : ZB w W gz v9 cs) (hb : Below W.heap.size W W') : ZB w W' gz v9 cs := ⟨blk_below z.b hb, z.ne, z.le⟩
theorem ZB.set {gz : Nat} {cs : Array Value} (z : ZB w W gz v9 cs) (i : Nat) (v : Value) : ZB w (W.setCell ⟨gz, i, none⟩ v) gz v9 (cs.setIfInBounds i v) := ⟨blk_put z.b i v rfl, z.ne, z.le⟩
theorem CW.far {gz : Nat} {cs : Array Value} (h : CW w W gd L ad ps v9 ch) (z : ZB w W gz v9 cs) (i : Nat) (v : Value) : CW w (W.setCell ⟨gz, i, none⟩ v) gd L ad ps v9 ch := by
  obtain ⟨at0, h0, hd⟩ := h.dk
  obtain ⟨A0, c0, hbg, hg1, hg2⟩ := id hd
  obtain ⟨cs2, hc⟩ := h.ty
  have n1 : gd ≠ gz := by
    rintro rfl
    rw [z.b] at hbg
    injection hbg with hbg
    injection hbg with _ hbg
    exact absurd hbg (by decide)
  have n2 : ad.block ≠ gz := by
    intro e
    rw [e, z.b] at hc
    injection hc with hc
    injection hc with _ hc
    exact absurd hc (by decide)
  have hc' := blk_far (p := ⟨gz, i, none⟩) hc n2 v
  have hr : Kd.R k39 39 W w.heap.size (fun k => k ≠ gz) v9 ch := ⟨fun k hk e => z.ne (by rw [hk, e]), h.cr.2.imp_ (fun p c hm => by rw [k39_openM hm]; exact k39_mkM _ _ _ _)⟩
  exact ⟨below_set h.hb z.le, ⟨at0, h0, hd.far n1 v⟩, C_heap h.pe (hc'.trans hc.symm), ⟨cs2, hc'⟩, Kd.R_mono (Kd.R_far (p := ⟨gz, i, none⟩) hr (fun _ hk => hk) v) (fun _ _ => trivial)⟩
theorem CW.far11 {gz : Nat} {cs : Array Value} (h : CW w W gd L ad ps v9 ch) (z : ZB w W gz v9 cs) (v0 v1 v2 v3 v4 v5 v6 v7 v8 va vb : Value) :
    CW w (((((((((((W.setCell ⟨gz, 0, none⟩ v0).setCell ⟨gz, 1, none⟩ v1).setCell ⟨gz, 2, none⟩ v2).setCell ⟨gz, 3, none⟩ v3).setCell ⟨gz, 4, none⟩ v4).setCell ⟨gz, 5, none⟩ v5).setCell ⟨gz, 6, none⟩ v6).setCell ⟨gz, 7, none⟩ v7).setCell ⟨gz, 8, none⟩ v8).setCell ⟨gz, 9, none⟩ va).setCell ⟨gz, 10, none⟩ vb) gd L ad ps v9 ch := by
  have c0 := h.far z 0 v0
  have z0 := z.set 0 v0
  have c1 := c0.far z0 1 v1
  have z1 := z0.set 1 v1
  have c2 := c1.far z1 2 v2
  have z2 := z1.set 2 v2
  have c3 := c2.far z2 3 v3
  have z3 := z2.set 3 v3
  have c4 := c3.far z3 4 v4
  have z4 := z3.set 4 v4
  have c5 := c4.far z4 5 v5
  have z5 := z4.set 5 v5
  have c6 := c5.far z5 6 v6
  have z6 := z5.set 6 v6
  have c7 := c6.far z6 7 v7
  have z7 := z6.set 7 v7
  have c8 := c7.far z7 8 v8
  have z8 := z7.set 8 v8
  have c9 := c8.far z8 9 va
  have z9 := z8.set 9 va
  exact c9.far z9 10 vb
theorem ZB.put11 {gz : Nat} {x0 x1 x2 x3 x4 x5 x6 x7 x8 x9 xa : Value} (z : ZB w W gz v9 #[x0, x1, x2, x3, x4, x5, x6, x7, x8, x9, xa]) (v0 v1 v2 v3 v4 v5 v6 v7 v8 v9_ va : Value) :
    ZB w (((((((((((W.setCell ⟨gz, 0, none⟩ v0).setCell ⟨gz, 1, none⟩ v1).setCell ⟨gz, 2, none⟩ v2).setCell ⟨gz, 3, none⟩ v3).setCell ⟨gz, 4, none⟩ v4).setCell ⟨gz, 5, none⟩ v5).setCell ⟨gz, 6, none⟩ v6).setCell ⟨gz, 7, none⟩ v7).setCell ⟨gz, 8, none⟩ v8).setCell ⟨gz, 9, none⟩ v9_).setCell ⟨gz, 10, none⟩ va) gz v9 #[v0, v1, v2, v3, v4, v5, v6, v7, v8, v9_, va] := ⟨Gnx.put11 _ _ _ _ _ _ _ _ _ _ _ _ _ _ _ _ _ _ _ _ _ _ z.b, z.ne, z.le⟩
theorem CW.turnZ {gz : Nat} {cs : Array Value} (h : CW w W gd L ad ps v9 ch) (z : ZB w W gz v9 cs) (hL : L.length ≤ 1000000) (n : Int) (hn : 1 ≤ n ∧ n ≤ 100000) : Calls Tryd.prog 16 #[.pointer (some ⟨gd, 0, none⟩), .int .i64 n] W fun e w' => ∃ t : Int, e = .returned (.int .i64 t) ∧ 0 ≤ t ∧ t < n ∧ CW w w' gd L ad ps v9 ch ∧ ZB w w' gz v9 cs := by
  obtain ⟨at_, h0, hd⟩ := h.dk
  obtain ⟨A0, c0, hbg, hg1, hg2⟩ := id hd
  have n1 : gz ≠ gd := by
    rintro rfl
    rw [z.b] at hbg
    injection hbg with hbg
    injection hbg with _ hbg
    exact absurd hbg (by decide)
  obtain ⟨t, a1, e, p, q, h1⟩ := next_ok L at_ n hn.1 (by omega) h0 hL
  refine (storagebartermake_Deck_Next.calls gd L at_ n t a1 w W hd h.hb e).mono fun e' w' y => ?_
  obtain ⟨rfl, z1, z2, z3⟩ := y
  exact ⟨t, rfl, p, q, h.next h1 z1 z2 z3, ⟨(z3.2 gz (blk_lt z.b) n1 (by simp)).trans z.b, z.ne, z.le⟩⟩
theorem CW.turnA {cs : Array Value} (h : CW w W gd L ad ps v9 ch) (hL : L.length ≤ 1000000) (n : Int) (hn : 1 ≤ n ∧ n ≤ 100000) : Calls Tryd.prog 16 #[.pointer (some ⟨gd, 0, none⟩), .int .i64 n] (W.alloc (.cells cs 39)) fun e w' => ∃ t : Int, e = .returned (.int .i64 t) ∧ 0 ≤ t ∧ t < n ∧ CW w w' gd L ad ps v9 ch ∧ ZB w w' W.heap.size v9 cs :=
  (h.alloc _).turnZ (h.made cs) hL n hn
end
end Go.Proofs.YtcalkhlchjjalaaDoor.Gcw

namespace Go.Proofs.YtcalkhlchjjalaaDoor.Q
open Go.RowKit Go.Proofs.YtcalkhlchjjalaaDoorW.PrintWords Go.Proofs.YtcalkhlchjjalaaDoorW.PrintLast Go.Proofs.YtcalkhlchjjalaaDoorW.PrintMore Go.Proofs.YtcalkhlchjjalaaDoor.Gput
attribute [local go_sem] max2_int min2_int max_two min_two max_three min_three max_four min_four   -- for this text's walks alone
set_option linter.unusedVariables false
set_option linter.unusedSimpArgs false
def storagebarterref15_Bytes.l0 : Nat → ByteArray → List Int → Int → Int → Option (ByteArray)
  | 0, _, _, _, _ => none
  | k + 1, x3, x26, x27, x28 => if x28 < x27 then (if 0 ≤ x28 then (if x28 < (x26.length : Int) then ((storagebarterref01_PutInt.f k x3 (rd x26 x28)).bind fun t148 => (storagebarterref15_Bytes.l0 k t148 x26 x27 (wrap64 (x28 + 1)))) else (none)) else (none)) else (some x3)
def storagebarterref15_Bytes.f (k : Nat) (a0_0 : Int) (a0_1 : Int) (a0_2 : Int) (a0_3 : Int) (a0_4 : Int) (a0_5 : Int) (a0_6 : Int) (a0_7 : Int) (a0_8 : Int) (a0_9 : Int) (a0_10 : Int) : Option (ByteArray) := (some (([a0_0, a0_1, a0_2, a0_3, a0_4, a0_5, a0_6, a0_7, a0_8, a0_9] : List Int) : List Int)).bind fun y144 => (storagebarterref15_Bytes.l0 k (⟨#[]⟩ : ByteArray) y144 (y144.length : Int) 0)
theorem storagebarterref15_Bytes.mono_l : ∀ k, (∀ y0 y1 y2 y3, LeO (storagebarterref15_Bytes.l0 k y0 y1 y2 y3) (storagebarterref15_Bytes.l0 (k + 1) y0 y1 y2 y3))
  | 0 => fun _ _ _ _ r h => by simp [storagebarterref15_Bytes.l0] at h
  | k + 1 => by
    have ih0 := storagebarterref15_Bytes.mono_l k
    · intro y0 y1 y2 y3
      unfold storagebarterref15_Bytes.l0
      repeat' first
      | (with_reducible exact ih0 _ _ _ _)
      | (with_reducible exact storagebarterref01_PutInt.mono _ _ _)
      | (with_reducible exact LeO.refl _)
      | (with_reducible exact LeO.none _)
      | (with_reducible refine LeO.ite ?_ ?_)
      | (with_reducible refine LeO.bind ?_ (fun _ => ?_))
      | exact ih0 _ _ _ _
      | exact storagebarterref01_PutInt.mono _ _ _
      | exact LeO.none _
      | refine LeO.ite ?_ ?_
      | refine LeO.bind ?_ (fun _ => ?_)
theorem storagebarterref15_Bytes.mono : ∀ a0 a1 a2 a3 a4 a5 a6 a7 a8 a9 a10 k, LeO (storagebarterref15_Bytes.f k a0 a1 a2 a3 a4 a5 a6 a7 a8 a9 a10) (storagebarterref15_Bytes.f (k + 1) a0 a1 a2 a3 a4 a5 a6 a7 a8 a9 a10) := by
  intro a0 a1 a2 a3 a4 a5 a6 a7 a8 a9 a10 k
  have ih0 := storagebarterref15_Bytes.mono_l k
  unfold storagebarterref15_Bytes.f
  repeat' first
      | (with_reducible exact ih0 _ _ _ _)
      | (with_reducible exact storagebarterref01_PutInt.mono _ _ _)
      | (with_reducible exact LeO.refl _)
      | (with_reducible exact LeO.none _)
      | (with_reducible refine LeO.ite ?_ ?_)
      | (with_reducible refine LeO.bind ?_ (fun _ => ?_))
      | exact ih0 _ _ _ _
      | exact storagebarterref01_PutInt.mono _ _ _
      | exact LeO.none _
      | refine LeO.ite ?_ ?_
      | refine LeO.bind ?_ (fun _ => ?_)
set_option maxHeartbeats 8000000 in
set_option maxRecDepth 100000 in
theorem storagebarterref15_Bytes.calls (k : Nat) (a0_0 : Int) (a0_1 : Int) (a0_2 : Int) (a0_3 : Int) (a0_4 : Int) (a0_5 : Int) (a0_6 : Int) (a0_7 : Int) (a0_8 : Int) (a0_9 : Int) (a0_10 : Int) (r : ByteArray) (w : World) (h : storagebarterref15_Bytes.f k a0_0 a0_1 a0_2 a0_3 a0_4 a0_5 a0_6 a0_7 a0_8 a0_9 a0_10 = some r) :
    Calls Tryd.prog 32 #[.agg #[.int .i64 a0_0, .int .i64 a0_1, .int .i64 a0_2, .int .i64 a0_3, .int .i64 a0_4, .int .i64 a0_5, .int .i64 a0_6, .int .i64 a0_7, .int .i64 a0_8, .int .i64 a0_9, .int .i64 a0_10]] w fun e w' => e = .returned (.string r) ∧ Below w.heap.size w w' := by
  have hu39 := Tryd.underlying39
  have HB := Aside0.mk (Below.refl w.heap.size w)
  have H : ((some (([a0_0, a0_1, a0_2, a0_3, a0_4, a0_5, a0_6, a0_7, a0_8, a0_9] : List Int) : List Int)).bind fun y144 => (storagebarterref15_Bytes.l0 k (⟨#[]⟩ : ByteArray) y144 (y144.length : Int) 0)) = some r := h
  clear h
  obtain ⟨y144, hy144⟩ : ∃ y_ : List Int, y_ = (([a0_0, a0_1, a0_2, a0_3, a0_4, a0_5, a0_6, a0_7, a0_8, a0_9] : List Int)) := ⟨_, rfl⟩
  replace H : (storagebarterref15_Bytes.l0 k (⟨#[]⟩ : ByteArray) y144 (y144.length : Int) 0) = some r := by first | (rw [hy144]; with_reducible exact H) | (have H2_ := (Option.bind_some _ _).symm.trans H; rw [hy144]; with_reducible exact H2_) | (have H2_ := (Option.bind_some _ _).symm.trans H; with_reducible exact H2_) | with_reducible exact H | (rw [hy144]; exact H) | exact H
  have Ny144 := Aside0.mk hy144
  clear hy144
  have H' := Aside0.mk H
  clear H
  go_enter Tryd.func32, Tryd.ntmps32
  go_wp2_with (first | ((with_reducible refine gate_dst (N := 1) rfl ?_); refine box_event ?hg (N := 1) ?hd (cs := #[.int .i64 a0_0, .int .i64 a0_1, .int .i64 a0_2, .int .i64 a0_3, .int .i64 a0_4, .int .i64 a0_5, .int .i64 a0_6, .int .i64 a0_7, .int .i64 a0_8, .int .i64 a0_9, .int .i64 a0_10]) (t := 39) ?hr ?_; (case hd => rfl); (case hg => rfl); (case hr => first | (go_simp; done) | (go_simp; rfl)); intro gb143 hg w2 hbox hb; have n0_ := Aside0.mk (below_step (by repeat (first | (with_reducible first | exact HB.out | apply below_alloc | apply pw_below_drewN | apply below_drew1) | exact HB.out)) hb); have n1_ := Aside0.mk (hbox); have n2_ := Aside0.mk ((by rw [hg]; exact (below_size (by repeat (first | (with_reducible first | exact HB.out | apply below_alloc | apply pw_below_drewN | apply below_drew1) | exact HB.out))) : w.heap.size ≤ gb143)); have n3_ := Aside0.mk ((by rw [hg]; exact (below_size (by repeat (first | (with_reducible first | exact HB.out | apply below_alloc | apply pw_below_drewN | apply below_drew1) | exact HB.out))) : w.heap.size ≤ gb143)); clear HB; have HB := n0_; have BK143 := n1_; have GW143 := n2_; have GE143 := n3_; clear n0_ n1_ n2_ n3_; clear hb hbox hg; have hcz3_0 : w2.cell? ⟨gb143, 0, none⟩ = some (.int .i64 a0_0) := (blk_cell BK143.out 0).trans rfl; have hcz3_1 : w2.cell? ⟨gb143, 1, none⟩ = some (.int .i64 a0_1) := (blk_cell BK143.out 1).trans rfl; have hcz3_2 : w2.cell? ⟨gb143, 2, none⟩ = some (.int .i64 a0_2) := (blk_cell BK143.out 2).trans rfl; have hcz3_3 : w2.cell? ⟨gb143, 3, none⟩ = some (.int .i64 a0_3) := (blk_cell BK143.out 3).trans rfl; have hcz3_4 : w2.cell? ⟨gb143, 4, none⟩ = some (.int .i64 a0_4) := (blk_cell BK143.out 4).trans rfl; have hcz3_5 : w2.cell? ⟨gb143, 5, none⟩ = some (.int .i64 a0_5) := (blk_cell BK143.out 5).trans rfl; have hcz3_6 : w2.cell? ⟨gb143, 6, none⟩ = some (.int .i64 a0_6) := (blk_cell BK143.out 6).trans rfl; have hcz3_7 : w2.cell? ⟨gb143, 7, none⟩ = some (.int .i64 a0_7) := (blk_cell BK143.out 7).trans rfl; have hcz3_8 : w2.cell? ⟨gb143, 8, none⟩ = some (.int .i64 a0_8) := (blk_cell BK143.out 8).trans rfl; have hcz3_9 : w2.cell? ⟨gb143, 9, none⟩ = some (.int .i64 a0_9) := (blk_cell BK143.out 9).trans rfl; have hcz3_10 : w2.cell? ⟨gb143, 10, none⟩ = some (.int .i64 a0_10) := (blk_cell BK143.out 10).trans rfl; have hfz3_0 := blk_frozen BK143.out 0; have hfz3_1 := blk_frozen BK143.out 1; have hfz3_2 := blk_frozen BK143.out 2; have hfz3_3 := blk_frozen BK143.out 3; have hfz3_4 := blk_frozen BK143.out 4; have hfz3_5 := blk_frozen BK143.out 5; have hfz3_6 := blk_frozen BK143.out 6; have hfz3_7 := blk_frozen BK143.out 7; have hfz3_8 := blk_frozen BK143.out 8; have hfz3_9 := blk_frozen BK143.out 9; have hfz3_10 := blk_frozen BK143.out 10) | ((with_reducible refine gate_dst (N := 26) rfl ?_); refine Kd.R_lit (Kd.int .i64) _ 3 ?hg (N := 26) ?hd (xs := ([a0_0, a0_1, a0_2, a0_3, a0_4, a0_5, a0_6, a0_7, a0_8, a0_9] : List Int)) (inner := [.int .i64 a0_0, .int .i64 a0_1, .int .i64 a0_2, .int .i64 a0_3, .int .i64 a0_4, .int .i64 a0_5, .int .i64 a0_6, .int .i64 a0_7, .int .i64 a0_8, .int .i64 a0_9]) (ok := fun _ => True) (okp := fun _ => True) ?hr ?hp (fun _ hk => hk) trivial (Below.refl _ _) (Nat.le_refl _) (by simp) ?_; (case hd => rfl); (case hg => rfl); (case hr => first | (go_simp; done) | (go_simp; rfl)); (case hp => exact (Reps.one (show Kd.M (Kd.int .i64) _ _ _ a0_0 [.int .i64 a0_0] from rfl) (Reps.one (show Kd.M (Kd.int .i64) _ _ _ a0_1 [.int .i64 a0_1] from rfl) (Reps.one (show Kd.M (Kd.int .i64) _ _ _ a0_2 [.int .i64 a0_2] from rfl) (Reps.one (show Kd.M (Kd.int .i64) _ _ _ a0_3 [.int .i64 a0_3] from rfl) (Reps.one (show Kd.M (Kd.int .i64) _ _ _ a0_4 [.int .i64 a0_4] from rfl) (Reps.one (show Kd.M (Kd.int .i64) _ _ _ a0_5 [.int .i64 a0_5] from rfl) (Reps.one (show Kd.M (Kd.int .i64) _ _ _ a0_6 [.int .i64 a0_6] from rfl) (Reps.one (show Kd.M (Kd.int .i64) _ _ _ a0_7 [.int .i64 a0_7] from rfl) (Reps.one (show Kd.M (Kd.int .i64) _ _ _ a0_8 [.int .i64 a0_8] from rfl) (Reps.one (show Kd.M (Kd.int .i64) _ _ _ a0_9 [.int .i64 a0_9] from rfl) (Reps.none _ _)))))))))))); intro v145 w4 ho5 hb hg_ hnew_; clear hg_ hnew_; (first | rw [← Ny144.out] at ho5 | (simp only [Int.reduceToNat] at ho5; rw [← Ny144.out] at ho5)); have n0_ := Aside0.mk (Kd.R_lower ho5 (below_size (by repeat (first | (with_reducible first | exact HB.out | apply below_alloc | apply pw_below_drewN | apply below_drew1 | refine below_set ?_ GE143.out) | exact HB.out)))); have n1_ := Aside0.mk (blk_below (g := gb143) (o := .cells #[.int .i64 a0_0, .int .i64 a0_1, .int .i64 a0_2, .int .i64 a0_3, .int .i64 a0_4, .int .i64 a0_5, .int .i64 a0_6, .int .i64 a0_7, .int .i64 a0_8, .int .i64 a0_9, .int .i64 a0_10] 39 (0, 0)) (by (with_reducible repeat (first | refine blk_drewN ?_ _ | refine blk_drew ?_ | refine blk_alloc ?_ _)); exact BK143.out) hb); have n2_ := Aside0.mk (below_step (by repeat (first | (with_reducible first | exact HB.out | apply below_alloc | apply pw_below_drewN | apply below_drew1 | refine below_set ?_ GE143.out) | exact HB.out)) hb); clear BK143; clear HB; have HO146 := n0_; have BK143 := n1_; have HB := n2_; clear n0_ n1_ n2_; clear hb ho5; obtain ⟨Ao6, co6, eo6⟩ := Kd.R_slice HO146.out; subst eo6))
  go_loopg [3, 28] k (fun kq v3 v28 w' => ∃ (x3_1 : ByteArray) (x28_1 : Int), v3 = .string x3_1 ∧ v28 = .int .i64 x28_1 ∧ Aside0 (storagebarterref15_Bytes.l0 kq x3_1 y144 (y144.length : Int) x28_1 = some r) ∧ Aside0 (kq ≤ k) ∧ Aside0 (Kd.R (Kd.int .i64) 3 w' w.heap.size (fun _ => True) (.slice Ao6 y144.length co6) y144) ∧ Aside0 (w'.heap[gb143]? = some (.cells #[.int .i64 a0_0, .int .i64 a0_1, .int .i64 a0_2, .int .i64 a0_3, .int .i64 a0_4, .int .i64 a0_5, .int .i64 a0_6, .int .i64 a0_7, .int .i64 a0_8, .int .i64 a0_9, .int .i64 a0_10] 39 (0, 0))) ∧ Aside0 (Below w.heap.size w w'))
  case atStart => exact ⟨((⟨#[]⟩ : ByteArray)), (0), (by first | rfl | (simp; done) | (simp [*]; done)), (by first | rfl | (simp; done) | (simp [*]; done)), H', ⟨Nat.le_refl _⟩, ⟨by (with_reducible repeat (first | apply Kd.R_alloc | apply Kd.R_drewN | apply Kd.R_drew)); exact HO146.out⟩, ⟨by (with_reducible repeat (first | refine blk_drewN ?_ _ | refine blk_drew ?_ | refine blk_alloc ?_ _)); exact BK143.out⟩, ⟨by repeat (first | (with_reducible first | exact HB.out | apply below_alloc | apply pw_below_drewN | apply below_drew1 | refine below_set ?_ GE143.out) | exact HB.out)⟩⟩
  case round =>
    clear H'
    try clear p2
    try clear c3
    try clear hcz3_0
    try clear hcz3_1
    try clear hcz3_10
    try clear hcz3_2
    try clear hcz3_3
    try clear hcz3_4
    try clear hcz3_5
    try clear hcz3_6
    try clear hcz3_7
    try clear hcz3_8
    try clear hcz3_9
    try clear hfz3_0
    try clear hfz3_1
    try clear hfz3_10
    try clear hfz3_2
    try clear hfz3_3
    try clear hfz3_4
    try clear hfz3_5
    try clear hfz3_6
    try clear hfz3_7
    try clear hfz3_8
    try clear hfz3_9
    obtain ⟨x3_1, x28_1, rfl, rfl, HA, HK1, HO_26, BK143, HB⟩ := hrel
    cases gk with
    | zero => exact absurd HA.out (by simp [storagebarterref15_Bytes.l0])
    | succ k1 =>
      have H := HA.out
      clear HA
      simp only [storagebarterref15_Bytes.l0] at H
      by_cases c7 : x28_1 < (y144.length : Int)
      · rw [if_pos c7] at H
        have c7b0 : decide (x28_1 < (y144.length : Int)) = true := decide_eq_true c7
        clear c7
        by_cases c8 : 0 ≤ x28_1
        · rw [if_pos c8] at H
          have c8b0 : decide (0 ≤ x28_1) = true := decide_eq_true c8
          clear c8
          by_cases c9 : x28_1 < (y144.length : Int)
          · rw [if_pos c9] at H
            have c9b0 : decide (x28_1 < (y144.length : Int)) = true := decide_eq_true c9
            clear c9
            replace H := Option.bind_eq_some_iff.mp H
            obtain ⟨t148, A100, H⟩ := H
            replace H : (storagebarterref15_Bytes.l0 k1 t148 y144 (y144.length : Int) (wrap64 (x28_1 + 1))) = some r := H
            have A10 := Aside0.mk A100
            clear A100
            have H' := Aside0.mk H
            clear H
            have p147 : 0 ≤ (x28_1 : Int) := of_decide_eq_true (by first | (with_reducible assumption) | assumption)
            have q147 : x28_1 < (y144.length : Int) := of_decide_eq_true (by first | (with_reducible assumption) | assumption)
            obtain ⟨ad147, e147, hx147_0⟩ := Kd.at_int (Kd.R_reads' HO_26.out).2.2 x28_1 p147 q147
            cases e147
            replace p147 := eq_true p147
            replace q147 := eq_true q147
            go_wp2_with (first | ((with_reducible refine gate_callee (f := 45) rfl ?_); refine goesL_ (some 34) rfl rfl Tryd.func45 (by kernel_rfl) rfl #[.string x3_1, .int .i64 (rd y144 x28_1)] rfl (by (try simp only [List.map_toArray, List.map_cons, List.map_nil]); first | done | rfl | (simp only [List.length_drop, List.length_take]; rfl)) ?_; (with_reducible refine (storagebarterref01_PutInt.calls k1 x3_1 (rd y144 x28_1) t148 _ A10.out).mono ?_); rintro e w11 ⟨rfl, hb⟩; refine ⟨_, rfl, ?_⟩; have n0_ := Aside0.mk (Kd.R_below (by (with_reducible repeat (first | apply Kd.R_alloc | apply Kd.R_drewN | apply Kd.R_drew)); exact HO_26.out) hb); have n1_ := Aside0.mk (blk_below (g := gb143) (o := .cells #[.int .i64 a0_0, .int .i64 a0_1, .int .i64 a0_2, .int .i64 a0_3, .int .i64 a0_4, .int .i64 a0_5, .int .i64 a0_6, .int .i64 a0_7, .int .i64 a0_8, .int .i64 a0_9, .int .i64 a0_10] 39 (0, 0)) (by (with_reducible repeat (first | refine blk_drewN ?_ _ | refine blk_drew ?_ | refine blk_alloc ?_ _)); exact BK143.out) hb); have n2_ := Aside0.mk (below_step (by repeat (first | (with_reducible first | exact HB.out | apply below_alloc | apply pw_below_drewN | apply below_drew1 | refine below_set ?_ GE143.out) | exact HB.out)) hb); clear HO_26; clear BK143; clear HB; have HO_26 := n0_; have BK143 := n1_; have HB := n2_; clear n0_ n1_ n2_; (try clear hb); (try clear hb2); (try clear hk); (try clear hi)))
            go_roundg k1
            case measure => have := HK1.out; omega
            case rel => exact ⟨(t148), (wrap64 (x28_1 + 1)), (by first | rfl | (simp; done) | (simp [*]; done)), (by first | rfl | (simp; done) | (simp [*]; done)), H', ⟨by have := HK1.out; omega⟩, ⟨by (with_reducible repeat (first | apply Kd.R_alloc | apply Kd.R_drewN | apply Kd.R_drew)); exact HO_26.out⟩, ⟨by (with_reducible repeat (first | refine blk_drewN ?_ _ | refine blk_drew ?_ | refine blk_alloc ?_ _)); exact BK143.out⟩, ⟨by repeat (first | (with_reducible first | exact HB.out | apply below_alloc | apply pw_below_drewN | apply below_drew1 | refine below_set ?_ GE143.out) | exact HB.out)⟩⟩
          · rw [if_neg c9] at H
            exact absurd H (by simp)
        · rw [if_neg c8] at H
          exact absurd H (by simp)
      · rw [if_neg c7] at H
        have c7b0 : decide (x28_1 < (y144.length : Int)) = false := decide_eq_false c7
        clear c7
        obtain rfl := Option.some.inj H
        go_wp2
        go_ret
        exact ⟨by first | rfl | (simp [errW_none, errW_some] <;> rfl) | (simp [*, errW_none, errW_some] <;> rfl), by repeat (first | (with_reducible first | exact HB.out | apply below_alloc | apply pw_below_drewN | apply below_drew1 | refine below_set ?_ GE143.out) | exact HB.out)⟩
end Go.Proofs.YtcalkhlchjjalaaDoor.Q

namespace Go.Proofs.YtcalkhlchjjalaaDoor.Q
open Go.RowKit Go.Proofs.YtcalkhlchjjalaaDoorW.PrintWords Go.Proofs.YtcalkhlchjjalaaDoorW.PrintLast Go.Proofs.YtcalkhlchjjalaaDoorW.PrintMore Go.Proofs.YtcalkhlchjjalaaDoor.Gput
attribute [local go_sem] max2_int min2_int max_two min_two max_three min_three max_four min_four   -- for this text's walks alone
set_option linter.unusedVariables false
set_option linter.unusedSimpArgs false
def storagebartermake_mark.f (k : Nat) (a0_0 : Int) (a0_1 : Int) (a1_0 : Int) (a1_1 : Int) (a1_2 : Int) (a1_3 : Int) (a1_4 : Int) (a1_5 : Int) (a1_6 : Int) (a1_7 : Int) (a1_8 : Int) (a1_9 : Int) (a1_10 : Int) : Option (Int) := (storagebarterref15_Bytes.f k a1_0 a1_1 a1_2 a1_3 a1_4 a1_5 a1_6 a1_7 a1_8 a1_9 a1_10).bind fun t228 => ((storagebarterref14_Sign.f k a0_1 t228).bind fun bt229 => (some bt229.1))
theorem storagebartermake_mark.mono : ∀ a0 a1 a2 a3 a4 a5 a6 a7 a8 a9 a10 a11 a12 k, LeO (storagebartermake_mark.f k a0 a1 a2 a3 a4 a5 a6 a7 a8 a9 a10 a11 a12) (storagebartermake_mark.f (k + 1) a0 a1 a2 a3 a4 a5 a6 a7 a8 a9 a10 a11 a12) := by
  intro a0 a1 a2 a3 a4 a5 a6 a7 a8 a9 a10 a11 a12 k
  unfold storagebartermake_mark.f
  repeat' first
      | (with_reducible exact storagebarterref14_Sign.mono _ _ _)
      | (with_reducible exact storagebarterref15_Bytes.mono _ _ _ _ _ _ _ _ _ _ _ _)
      | (with_reducible exact LeO.refl _)
      | (with_reducible exact LeO.none _)
      | (with_reducible refine LeO.ite ?_ ?_)
      | (with_reducible refine LeO.bind ?_ (fun _ => ?_))
      | exact storagebarterref14_Sign.mono _ _ _
      | exact storagebarterref15_Bytes.mono _ _ _ _ _ _ _ _ _ _ _ _
      | exact LeO.none _
      | refine LeO.ite ?_ ?_
      | refine LeO.bind ?_ (fun _ => ?_)
def storagebartermake_mark.T1 : Bool × List (List Nat × List Nat) := (true, [([], []), ([0], [0]), ([], []), ([2], [2]), ([1, 3, 3], [1, 3]), ([4], [4]), ([5], [5]), ([5], [5]), ([6, 4, 0, 1, 2, 3, 4, 5, 6], [6]), ([7, 8, 0, 1, 2, 3, 4, 5, 6, 7, 8], [7])])
def storagebartermake_mark.B1 : List Nat := [0, 1, 0, 4, 15, 31, 63, 63, 127, 511]
theorem storagebartermake_mark.tab1 : rtab .any (opsOf Tryd.f35 1) = storagebartermake_mark.T1 := by kernel_rfl
theorem storagebartermake_mark.bits1 : waitsOk storagebartermake_mark.T1.2 storagebartermake_mark.B1 = true := by kernel_rfl
set_option maxHeartbeats 8000000 in
set_option maxRecDepth 100000 in
theorem storagebartermake_mark.calls (k : Nat) (a0_0 : Int) (a0_1 : Int) (a1_0 : Int) (a1_1 : Int) (a1_2 : Int) (a1_3 : Int) (a1_4 : Int) (a1_5 : Int) (a1_6 : Int) (a1_7 : Int) (a1_8 : Int) (a1_9 : Int) (a1_10 : Int) (r : Int) (w : World) (h : storagebartermake_mark.f k a0_0 a0_1 a1_0 a1_1 a1_2 a1_3 a1_4 a1_5 a1_6 a1_7 a1_8 a1_9 a1_10 = some r) :
    Calls Tryd.prog 35 #[.agg #[.int .i64 a0_0, .int .i64 a0_1], .agg #[.int .i64 a1_0, .int .i64 a1_1, .int .i64 a1_2, .int .i64 a1_3, .int .i64 a1_4, .int .i64 a1_5, .int .i64 a1_6, .int .i64 a1_7, .int .i64 a1_8, .int .i64 a1_9, .int .i64 a1_10]] w fun e w' => e = .returned (.int .i64 r) ∧ Below w.heap.size w w' := by
  have hu25 := Tryd.underlying25
  have hu39 := Tryd.underlying39
  have HB := Aside0.mk (Below.refl w.heap.size w)
  have H : ((storagebarterref15_Bytes.f k a1_0 a1_1 a1_2 a1_3 a1_4 a1_5 a1_6 a1_7 a1_8 a1_9 a1_10).bind fun t228 => ((storagebarterref14_Sign.f k a0_1 t228).bind fun bt229 => (some bt229.1))) = some r := h
  clear h
  replace H := Option.bind_eq_some_iff.mp H
  obtain ⟨t228, A30, H⟩ := H
  replace H : ((storagebarterref14_Sign.f k a0_1 t228).bind fun bt229 => (some bt229.1)) = some r := H
  have A3 := Aside0.mk A30
  clear A30
  replace H := Option.bind_eq_some_iff.mp H
  obtain ⟨⟨t229, t230⟩, A40, H⟩ := H
  replace H : (some t229) = some r := H
  have A4 := Aside0.mk A40
  clear A40
  obtain rfl := Option.some.inj H
  go_enter Tryd.func35, Tryd.ntmps35
  try go_wp2_with (first | ((with_reducible refine gate_dst (N := 2) rfl ?_); refine box_event ?hg (N := 2) ?hd (cs := #[.int .i64 a0_0, .int .i64 a0_1]) (t := 25) ?hr ?_; (case hd => rfl); (case hg => rfl); (case hr => first | (go_simp; done) | (go_simp; rfl)); intro gb226 hg w5 hbox hb; have n0_ := Aside0.mk (below_step (by repeat (first | (with_reducible first | exact HB.out | apply below_alloc | apply pw_below_drewN | apply below_drew1) | exact HB.out)) hb); have n1_ := Aside0.mk (hbox); have n2_ := Aside0.mk ((by rw [hg]; exact (below_size (by repeat (first | (with_reducible first | exact HB.out | apply below_alloc | apply pw_below_drewN | apply below_drew1) | exact HB.out))) : w.heap.size ≤ gb226)); have n3_ := Aside0.mk ((by rw [hg]; exact (below_size (by repeat (first | (with_reducible first | exact HB.out | apply below_alloc | apply pw_below_drewN | apply below_drew1) | exact HB.out))) : w.heap.size ≤ gb226)); clear HB; have HB := n0_; have BK226 := n1_; have GW226 := n2_; have GE226 := n3_; clear n0_ n1_ n2_ n3_; clear hb hbox hg) | ((with_reducible refine gate_dst (N := 3) rfl ?_); refine box_event ?hg (N := 3) ?hd (cs := #[.int .i64 a1_0, .int .i64 a1_1, .int .i64 a1_2, .int .i64 a1_3, .int .i64 a1_4, .int .i64 a1_5, .int .i64 a1_6, .int .i64 a1_7, .int .i64 a1_8, .int .i64 a1_9, .int .i64 a1_10]) (t := 39) ?hr ?_; (case hd => rfl); (case hg => rfl); (case hr => first | (go_simp; done) | (go_simp; rfl)); intro gb227 hg w6 hbox hb; have n0_ := Aside0.mk (blk_below (g := gb226) (o := .cells #[.int .i64 a0_0, .int .i64 a0_1] 25 (0, 0)) (by (with_reducible repeat (first | refine blk_drewN ?_ _ | refine blk_drew ?_ | refine blk_alloc ?_ _)); exact BK226.out) hb); have n1_ := Aside0.mk (below_step (by repeat (first | (with_reducible first | exact HB.out | apply below_alloc | apply pw_below_drewN | apply below_drew1 | refine below_set ?_ GE226.out) | exact HB.out)) hb); have n2_ := Aside0.mk (hbox); have n3_ := Aside0.mk ((by rw [hg]; exact (below_size (by repeat (first | (with_reducible first | exact HB.out | apply below_alloc | apply pw_below_drewN | apply below_drew1 | refine below_set ?_ GE226.out) | exact HB.out))) : w.heap.size ≤ gb227)); have n4_ := Aside0.mk ((by rw [hg]; exact (below_size (by repeat (first | (with_reducible first | exact HB.out | apply below_alloc | apply pw_below_drewN | apply below_drew1 | refine below_set ?_ GE226.out) | exact HB.out))) : w.heap.size ≤ gb227)); have n5_ := Aside0.mk ((by rw [hg]; exact Nat.ne_of_lt (blk_lt (g := gb226) (o := .cells #[.int .i64 a0_0, .int .i64 a0_1] 25 (0, 0)) (by (with_reducible repeat (first | refine blk_drewN ?_ _ | refine blk_drew ?_ | refine blk_alloc ?_ _)); exact BK226.out)) : gb226 ≠ gb227)); have n6_ := Aside0.mk ((by rw [hg]; exact Nat.ne_of_gt (blk_lt (g := gb226) (o := .cells #[.int .i64 a0_0, .int .i64 a0_1] 25 (0, 0)) (by (with_reducible repeat (first | refine blk_drewN ?_ _ | refine blk_drew ?_ | refine blk_alloc ?_ _)); exact BK226.out)) : gb227 ≠ gb226)); clear BK226; clear HB; have BK226 := n0_; have HB := n1_; have BK227 := n2_; have GW227 := n3_; have GE227 := n4_; have NB226_227 := n5_; have NB227_226 := n6_; clear n0_ n1_ n2_ n3_ n4_ n5_ n6_; clear hb hbox hg))
  have n0_ := Aside0.mk (blk_drew BK226.out)
  have n1_ := Aside0.mk (blk_drew BK227.out)
  have n2_ := Aside0.mk (below_drew1 HB.out)
  clear BK226
  clear BK227
  clear HB
  have BK226 := n0_
  have BK227 := n1_
  have HB := n2_
  clear n0_ n1_ n2_
  refine start_ (n := 10) (S := fun w' => w'.cell? ⟨gb226, 0, none⟩ = some (.int .i64 a0_0) ∧ w'.cell? ⟨gb226, 1, none⟩ = some (.int .i64 a0_1) ∧ w'.cell? ⟨gb227, 0, none⟩ = some (.int .i64 a1_0) ∧ w'.cell? ⟨gb227, 1, none⟩ = some (.int .i64 a1_1) ∧ w'.cell? ⟨gb227, 2, none⟩ = some (.int .i64 a1_2) ∧ w'.cell? ⟨gb227, 3, none⟩ = some (.int .i64 a1_3) ∧ w'.cell? ⟨gb227, 4, none⟩ = some (.int .i64 a1_4) ∧ w'.cell? ⟨gb227, 5, none⟩ = some (.int .i64 a1_5) ∧ w'.cell? ⟨gb227, 6, none⟩ = some (.int .i64 a1_6) ∧ w'.cell? ⟨gb227, 7, none⟩ = some (.int .i64 a1_7) ∧ w'.cell? ⟨gb227, 8, none⟩ = some (.int .i64 a1_8) ∧ w'.cell? ⟨gb227, 9, none⟩ = some (.int .i64 a1_9) ∧ w'.cell? ⟨gb227, 10, none⟩ = some (.int .i64 a1_10)) (ds := []) #[false, false, false, false, false, false, false, false, false, false] (by kernel_rfl) rfl rfl ⟨(blk_cell BK226.out 0).trans rfl, (blk_cell BK226.out 1).trans rfl, (blk_cell BK227.out 0).trans rfl, (blk_cell BK227.out 1).trans rfl, (blk_cell BK227.out 2).trans rfl, (blk_cell BK227.out 3).trans rfl, (blk_cell BK227.out 4).trans rfl, (blk_cell BK227.out 5).trans rfl, (blk_cell BK227.out 6).trans rfl, (blk_cell BK227.out 7).trans rfl, (blk_cell BK227.out 8).trans rfl, (blk_cell BK227.out 9).trans rfl, (blk_cell BK227.out 10).trans rfl⟩ (fun hHeld => ?_); refine with_tabW storagebartermake_mark.tab1 storagebartermake_mark.bits1 (fun HT_ HW_ => ?_)
  generalize w6.drew = w7 at BK226 BK227 HB hHeld ⊢
  refine pure_ (i := 0) (N := some 8) (v := ?_) (a' := ?_) #[true, false, false, false, false, false, false, false, false, false] rfl rfl (any_of HT_.out (by kernel_rfl)) (fun _ _ _ h => h) (Or.inl ⟨by rfl, ?_⟩) ?_ ?_
  rotate_left
  · intro w'
    go_simp
    with_reducible rfl
  rotate_left
  · simp only [Act.put, List.setIfInBounds_toArray, List.set_cons_zero, List.set_cons_succ, i64_w, i32_w]
    rfl
  refine take_ (i := 1) (N := some 9) (v := ?_) (a' := ?_) #[true, true, false, false, false, false, false, false, false, false] rfl rfl (take_ofW HT_.out HW_.out (by kernel_rfl)) (fun _ _ _ h => h) (Or.inl ⟨by rfl, ?_⟩) hHeld ?_ ?_
  rotate_left
  · rintro w' ⟨s0, s1, s2, s3, s4, s5, s6, s7, s8, s9, s10, s11, s12⟩
    go_simp
    with_reducible rfl
  rotate_left
  · simp only [Act.put, List.setIfInBounds_toArray, List.set_cons_zero, List.set_cons_succ, i64_w, i32_w]
    rfl
  refine take_ (i := 2) (N := some 10) (v := ?_) (a' := ?_) #[true, true, true, false, false, false, false, false, false, false] rfl rfl (take_ofW HT_.out HW_.out (by kernel_rfl)) (fun _ _ _ h => h) (Or.inl ⟨by rfl, ?_⟩) hHeld ?_ ?_
  rotate_left
  · rintro w' ⟨s0, s1, s2, s3, s4, s5, s6, s7, s8, s9, s10, s11, s12⟩
    go_simp
    with_reducible rfl
  rotate_left
  · simp only [Act.put, List.setIfInBounds_toArray, List.set_cons_zero, List.set_cons_succ, i64_w, i32_w]
    rfl
  refine one_ (i := 3) (N := some 11) #[true, true, true, true, false, false, false, false, false, false] rfl rfl (one_of HT_.out (by kernel_rfl)) (by decide) (fun K hK => ?_)
  refine goes_ Tryd.func32 (by kernel_rfl) rfl #[.agg #[.int .i64 a1_0, .int .i64 a1_1, .int .i64 a1_2, .int .i64 a1_3, .int .i64 a1_4, .int .i64 a1_5, .int .i64 a1_6, .int .i64 a1_7, .int .i64 a1_8, .int .i64 a1_9, .int .i64 a1_10]] (by rfl) rfl rfl (by (try simp only [List.map_toArray, List.map_cons, List.map_nil]); first | done | rfl | (simp only [List.length_drop, List.length_take]; rfl)) ?_
  with_reducible refine (storagebarterref15_Bytes.calls k a1_0 a1_1 a1_2 a1_3 a1_4 a1_5 a1_6 a1_7 a1_8 a1_9 a1_10 t228 _ A3.out).mono ?_
  rintro e w8 ⟨rfl, hb⟩
  refine ⟨_, rfl, ?_⟩
  have n0_ := Aside0.mk (blk_below (g := gb226) (o := .cells #[.int .i64 a0_0, .int .i64 a0_1] 25 (0, 0)) (by (with_reducible repeat (first | refine blk_drewN ?_ _ | refine blk_drew ?_ | refine blk_alloc ?_ _)); exact BK226.out) hb)
  have n1_ := Aside0.mk (blk_below (g := gb227) (o := .cells #[.int .i64 a1_0, .int .i64 a1_1, .int .i64 a1_2, .int .i64 a1_3, .int .i64 a1_4, .int .i64 a1_5, .int .i64 a1_6, .int .i64 a1_7, .int .i64 a1_8, .int .i64 a1_9, .int .i64 a1_10] 39 (0, 0)) (by (with_reducible repeat (first | refine blk_drewN ?_ _ | refine blk_drew ?_ | refine blk_alloc ?_ _)); exact BK227.out) hb)
  have n2_ := Aside0.mk (below_step (by repeat (first | (with_reducible first | exact HB.out | apply below_alloc | apply pw_below_drewN | apply below_drew1 | refine below_set ?_ GE226.out | refine below_set ?_ GE227.out) | exact HB.out)) hb)
  clear BK226
  clear BK227
  clear HB
  have BK226 := n0_
  have BK227 := n1_
  have HB := n2_
  clear n0_ n1_ n2_
  (try clear hb)
  (try clear hb2)
  (try clear hk)
  (try clear hi)
  refine hK.out _ _ ⟨(blk_cell BK226.out 0).trans rfl, (blk_cell BK226.out 1).trans rfl, (blk_cell BK227.out 0).trans rfl, (blk_cell BK227.out 1).trans rfl, (blk_cell BK227.out 2).trans rfl, (blk_cell BK227.out 3).trans rfl, (blk_cell BK227.out 4).trans rfl, (blk_cell BK227.out 5).trans rfl, (blk_cell BK227.out 6).trans rfl, (blk_cell BK227.out 7).trans rfl, (blk_cell BK227.out 8).trans rfl, (blk_cell BK227.out 9).trans rfl, (blk_cell BK227.out 10).trans rfl⟩ (fun hHeld => ?_)
  clear hK K
  refine norm_ (a' := ?_) ?_ ?_
  rotate_left
  · show Act.put _ (some 11) _ = _
    simp only [Act.put, List.setIfInBounds_toArray, List.set_cons_zero, List.set_cons_succ, i64_w, i32_w]
    rfl
  refine one_ (i := 4) (N := some 12) #[true, true, true, true, true, false, false, false, false, false] rfl rfl (one_of HT_.out (by kernel_rfl)) (by decide) (fun K hK => ?_)
  refine goes_ Tryd.func33 (by kernel_rfl) rfl #[.int .i64 a0_1, .string t228] (by rfl) rfl rfl (by (try simp only [List.map_toArray, List.map_cons, List.map_nil]); first | done | rfl | (simp only [List.length_drop, List.length_take]; rfl)) ?_
  with_reducible refine (storagebarterref14_Sign.calls k a0_1 t228 t229 t230 _ A4.out).mono ?_
  rintro e w9 ⟨rfl, hb⟩
  refine ⟨_, rfl, ?_⟩
  have n0_ := Aside0.mk (blk_below (g := gb226) (o := .cells #[.int .i64 a0_0, .int .i64 a0_1] 25 (0, 0)) (by (with_reducible repeat (first | refine blk_drewN ?_ _ | refine blk_drew ?_ | refine blk_alloc ?_ _)); exact BK226.out) hb)
  have n1_ := Aside0.mk (blk_below (g := gb227) (o := .cells #[.int .i64 a1_0, .int .i64 a1_1, .int .i64 a1_2, .int .i64 a1_3, .int .i64 a1_4, .int .i64 a1_5, .int .i64 a1_6, .int .i64 a1_7, .int .i64 a1_8, .int .i64 a1_9, .int .i64 a1_10] 39 (0, 0)) (by (with_reducible repeat (first | refine blk_drewN ?_ _ | refine blk_drew ?_ | refine blk_alloc ?_ _)); exact BK227.out) hb)
  have n2_ := Aside0.mk (below_step (by repeat (first | (with_reducible first | exact HB.out | apply below_alloc | apply pw_below_drewN | apply below_drew1 | refine below_set ?_ GE226.out | refine below_set ?_ GE227.out) | exact HB.out)) hb)
  clear BK226
  clear BK227
  clear HB
  have BK226 := n0_
  have BK227 := n1_
  have HB := n2_
  clear n0_ n1_ n2_
  (try clear hb)
  (try clear hb2)
  (try clear hk)
  (try clear hi)
  refine hK.out _ _ ⟨(blk_cell BK226.out 0).trans rfl, (blk_cell BK226.out 1).trans rfl, (blk_cell BK227.out 0).trans rfl, (blk_cell BK227.out 1).trans rfl, (blk_cell BK227.out 2).trans rfl, (blk_cell BK227.out 3).trans rfl, (blk_cell BK227.out 4).trans rfl, (blk_cell BK227.out 5).trans rfl, (blk_cell BK227.out 6).trans rfl, (blk_cell BK227.out 7).trans rfl, (blk_cell BK227.out 8).trans rfl, (blk_cell BK227.out 9).trans rfl, (blk_cell BK227.out 10).trans rfl⟩ (fun hHeld => ?_)
  clear hK K
  refine norm_ (a' := ?_) ?_ ?_
  rotate_left
  · show Act.put _ (some 12) _ = _
    simp only [Act.put, List.setIfInBounds_toArray, List.set_cons_zero, List.set_cons_succ, i64_w, i32_w]
    rfl
  refine pure_ (i := 5) (N := some 7) (v := ?_) (a' := ?_) #[true, true, true, true, true, true, false, false, false, false] rfl rfl (any_of HT_.out (by kernel_rfl)) (fun _ _ _ h => h) (Or.inl ⟨by rfl, ?_⟩) ?_ ?_
  rotate_left
  · intro w'
    go_simp
    with_reducible rfl
  rotate_left
  · simp only [Act.put, List.setIfInBounds_toArray, List.set_cons_zero, List.set_cons_succ, i64_w, i32_w]
    rfl
  refine pure_ (i := 6) (N := some 13) (v := ?_) (a' := ?_) #[true, true, true, true, true, true, true, false, false, false] rfl rfl (any_of HT_.out (by kernel_rfl)) (fun _ _ _ h => h) (Or.inl ⟨by rfl, ?_⟩) ?_ ?_
  rotate_left
  · intro w'
    go_simp
    with_reducible rfl
  rotate_left
  · simp only [Act.put, List.setIfInBounds_toArray, List.set_cons_zero, List.set_cons_succ, i64_w, i32_w]
    rfl
  refine pure_ (i := 7) (N := some 14) (v := ?_) (a' := ?_) #[true, true, true, true, true, true, true, true, false, false] rfl rfl (any_of HT_.out (by kernel_rfl)) (fun _ _ _ h => h) (Or.inl ⟨by rfl, ?_⟩) ?_ ?_
  rotate_left
  · intro w'
    go_simp
    with_reducible rfl
  rotate_left
  · simp only [Act.put, List.setIfInBounds_toArray, List.set_cons_zero, List.set_cons_succ, i64_w, i32_w]
    rfl
  refine pure_ (i := 8) (N := some 5) (v := ?_) (a' := ?_) #[true, true, true, true, true, true, true, true, true, false] rfl rfl (any_of HT_.out (by kernel_rfl)) (fun _ _ _ h => h) (Or.inl ⟨by rfl, ?_⟩) ?_ ?_
  rotate_left
  · intro w'
    go_simp
    with_reducible rfl
  rotate_left
  · simp only [Act.put, List.setIfInBounds_toArray, List.set_cons_zero, List.set_cons_succ, i64_w, i32_w]
    rfl
  refine pure_ (i := 9) (N := some 6) (v := ?_) (a' := ?_) #[true, true, true, true, true, true, true, true, true, true] rfl rfl (any_of HT_.out (by kernel_rfl)) (fun _ _ _ h => h) (Or.inl ⟨by rfl, ?_⟩) ?_ ?_
  rotate_left
  · intro w'
    go_simp
    with_reducible rfl
  rotate_left
  · simp only [Act.put, List.setIfInBounds_toArray, List.set_cons_zero, List.set_cons_succ, i64_w, i32_w]
    rfl
  refine done_ (done_of HT_.out (by kernel_rfl)) ?_
  try go_wp2
  go_ret
  exact ⟨by first | rfl | (simp [errW_none, errW_some] <;> rfl) | (simp [*, errW_none, errW_some] <;> rfl), by repeat (first | (with_reducible first | exact HB.out | apply below_alloc | apply pw_below_drewN | apply below_drew1 | refine below_set ?_ GE226.out | refine below_set ?_ GE227.out) | exact HB.out)⟩
end Go.Proofs.YtcalkhlchjjalaaDoor.Q

namespace Go.Proofs.YtcalkhlchjjalaaDoor.Q
open Go.RowKit Go.Proofs.YtcalkhlchjjalaaDoorW.PrintWords Go.Proofs.YtcalkhlchjjalaaDoorW.PrintLast Go.Proofs.YtcalkhlchjjalaaDoorW.PrintMore Go.Proofs.YtcalkhlchjjalaaDoor.Gput
attribute [local go_sem] max2_int min2_int max_two min_two max_three min_three max_four min_four   -- for this text's walks alone
set_option linter.unusedVariables false
set_option linter.unusedSimpArgs false
def storagebartermake_Sign.f (k : Nat) (a0_0 : Int) (a0_1 : Int) (a0_2 : Int) (a0_3 : Int) (a0_4 : Int) (a0_5 : Int) (a0_6 : Int) (a0_7 : Int) (a0_8 : Int) (a0_9 : Int) (a0_10 : Int) (a1_0 : Int) (a1_1 : Int) : Option (Int × Int × Int × Int × Int × Int × Int × Int × Int × Int × Int) := (storagebartermake_mark.f k a1_0 a1_1 a0_0 a0_1 a0_2 a0_3 a0_4 a0_5 a0_6 a0_7 a0_8 a0_9 a0_10).bind fun t234 => (some (a0_0, a0_1, a0_2, a0_3, a0_4, a0_5, a0_6, a0_7, a0_8, a0_9, t234))
theorem storagebartermake_Sign.mono : ∀ a0 a1 a2 a3 a4 a5 a6 a7 a8 a9 a10 a11 a12 k, LeO (storagebartermake_Sign.f k a0 a1 a2 a3 a4 a5 a6 a7 a8 a9 a10 a11 a12) (storagebartermake_Sign.f (k + 1) a0 a1 a2 a3 a4 a5 a6 a7 a8 a9 a10 a11 a12) := by
  intro a0 a1 a2 a3 a4 a5 a6 a7 a8 a9 a10 a11 a12 k
  unfold storagebartermake_Sign.f
  repeat' first
      | (with_reducible exact storagebartermake_mark.mono _ _ _ _ _ _ _ _ _ _ _ _ _ _)
      | (with_reducible exact LeO.refl _)
      | (with_reducible exact LeO.none _)
      | (with_reducible refine LeO.ite ?_ ?_)
      | (with_reducible refine LeO.bind ?_ (fun _ => ?_))
      | exact storagebartermake_mark.mono _ _ _ _ _ _ _ _ _ _ _ _ _ _
      | exact LeO.none _
      | refine LeO.ite ?_ ?_
      | refine LeO.bind ?_ (fun _ => ?_)
set_option maxHeartbeats 8000000 in
set_option maxRecDepth 100000 in
theorem storagebartermake_Sign.calls (k : Nat) (a0_0 : Int) (a0_1 : Int) (a0_2 : Int) (a0_3 : Int) (a0_4 : Int) (a0_5 : Int) (a0_6 : Int) (a0_7 : Int) (a0_8 : Int) (a0_9 : Int) (a0_10 : Int) (a1_0 : Int) (a1_1 : Int) (r1 : Int) (r2 : Int) (r3 : Int) (r4 : Int) (r5 : Int) (r6 : Int) (r7 : Int) (r8 : Int) (r9 : Int) (r10 : Int) (r11 : Int) (w : World) (h : storagebartermake_Sign.f k a0_0 a0_1 a0_2 a0_3 a0_4 a0_5 a0_6 a0_7 a0_8 a0_9 a0_10 a1_0 a1_1 = some (r1, r2, r3, r4, r5, r6, r7, r8, r9, r10, r11)) :
    Calls Tryd.prog 17 #[.agg #[.int .i64 a0_0, .int .i64 a0_1, .int .i64 a0_2, .int .i64 a0_3, .int .i64 a0_4, .int .i64 a0_5, .int .i64 a0_6, .int .i64 a0_7, .int .i64 a0_8, .int .i64 a0_9, .int .i64 a0_10], .agg #[.int .i64 a1_0, .int .i64 a1_1]] w fun e w' => e = .returned (.agg #[.int .i64 r1, .int .i64 r2, .int .i64 r3, .int .i64 r4, .int .i64 r5, .int .i64 r6, .int .i64 r7, .int .i64 r8, .int .i64 r9, .int .i64 r10, .int .i64 r11]) ∧ Below w.heap.size w w' := by
  have hu39 := Tryd.underlying39
  have hu25 := Tryd.underlying25
  have HB := Aside0.mk (Below.refl w.heap.size w)
  have H : ((storagebartermake_mark.f k a1_0 a1_1 a0_0 a0_1 a0_2 a0_3 a0_4 a0_5 a0_6 a0_7 a0_8 a0_9 a0_10).bind fun t234 => (some (a0_0, a0_1, a0_2, a0_3, a0_4, a0_5, a0_6, a0_7, a0_8, a0_9, t234))) = some (r1, r2, r3, r4, r5, r6, r7, r8, r9, r10, r11) := h
  clear h
  replace H := Option.bind_eq_some_iff.mp H
  obtain ⟨t234, A30, H⟩ := H
  replace H : (some (a0_0, a0_1, a0_2, a0_3, a0_4, a0_5, a0_6, a0_7, a0_8, a0_9, t234)) = some (r1, r2, r3, r4, r5, r6, r7, r8, r9, r10, r11) := H
  have A3 := Aside0.mk A30
  clear A30
  simp only [Option.some.injEq, Prod.mk.injEq] at H
  obtain ⟨rfl, rfl, rfl, rfl, rfl, rfl, rfl, rfl, rfl, rfl, rfl⟩ := H
  go_enter Tryd.func17, Tryd.ntmps17
  go_wp2_with (first | ((with_reducible refine gate_dst (N := 2) rfl ?_); refine box_event ?hg (N := 2) ?hd (cs := #[.int .i64 a0_0, .int .i64 a0_1, .int .i64 a0_2, .int .i64 a0_3, .int .i64 a0_4, .int .i64 a0_5, .int .i64 a0_6, .int .i64 a0_7, .int .i64 a0_8, .int .i64 a0_9, .int .i64 a0_10]) (t := 39) ?hr ?_; (case hd => rfl); (case hg => rfl); (case hr => first | (go_simp; done) | (go_simp; rfl)); intro gb231 hg w4 hbox hb; have n0_ := Aside0.mk (below_step (by repeat (first | (with_reducible first | exact HB.out | apply below_alloc | apply pw_below_drewN | apply below_drew1) | exact HB.out)) hb); have n1_ := Aside0.mk (hbox); have n2_ := Aside0.mk ((by rw [hg]; exact (below_size (by repeat (first | (with_reducible first | exact HB.out | apply below_alloc | apply pw_below_drewN | apply below_drew1) | exact HB.out))) : w.heap.size ≤ gb231)); have n3_ := Aside0.mk ((by rw [hg]; exact (below_size (by repeat (first | (with_reducible first | exact HB.out | apply below_alloc | apply pw_below_drewN | apply below_drew1) | exact HB.out))) : w.heap.size ≤ gb231)); clear HB; have HB := n0_; have BK231 := n1_; have GW231 := n2_; have GE231 := n3_; clear n0_ n1_ n2_ n3_; clear hb hbox hg) | ((with_reducible refine gate_dst (N := 3) rfl ?_); refine box_event ?hg (N := 3) ?hd (cs := #[.int .i64 a1_0, .int .i64 a1_1]) (t := 25) ?hr ?_; (case hd => rfl); (case hg => rfl); (case hr => first | (go_simp; done) | (go_simp; rfl)); intro gb232 hg w5 hbox hb; have n0_ := Aside0.mk (blk_below (g := gb231) (o := .cells #[.int .i64 a0_0, .int .i64 a0_1, .int .i64 a0_2, .int .i64 a0_3, .int .i64 a0_4, .int .i64 a0_5, .int .i64 a0_6, .int .i64 a0_7, .int .i64 a0_8, .int .i64 a0_9, .int .i64 a0_10] 39 (0, 0)) (by (with_reducible repeat (first | refine blk_drewN ?_ _ | refine blk_drew ?_ | refine blk_alloc ?_ _)); exact BK231.out) hb); have n1_ := Aside0.mk (below_step (by repeat (first | (with_reducible first | exact HB.out | apply below_alloc | apply pw_below_drewN | apply below_drew1 | refine below_set ?_ GE231.out) | exact HB.out)) hb); have n2_ := Aside0.mk (hbox); have n3_ := Aside0.mk ((by rw [hg]; exact (below_size (by repeat (first | (with_reducible first | exact HB.out | apply below_alloc | apply pw_below_drewN | apply below_drew1 | refine below_set ?_ GE231.out) | exact HB.out))) : w.heap.size ≤ gb232)); have n4_ := Aside0.mk ((by rw [hg]; exact (below_size (by repeat (first | (with_reducible first | exact HB.out | apply below_alloc | apply pw_below_drewN | apply below_drew1 | refine below_set ?_ GE231.out) | exact HB.out))) : w.heap.size ≤ gb232)); have n5_ := Aside0.mk ((by rw [hg]; exact Nat.ne_of_lt (blk_lt (g := gb231) (o := .cells #[.int .i64 a0_0, .int .i64 a0_1, .int .i64 a0_2, .int .i64 a0_3, .int .i64 a0_4, .int .i64 a0_5, .int .i64 a0_6, .int .i64 a0_7, .int .i64 a0_8, .int .i64 a0_9, .int .i64 a0_10] 39 (0, 0)) (by (with_reducible repeat (first | refine blk_drewN ?_ _ | refine blk_drew ?_ | refine blk_alloc ?_ _)); exact BK231.out)) : gb231 ≠ gb232)); have n6_ := Aside0.mk ((by rw [hg]; exact Nat.ne_of_gt (blk_lt (g := gb231) (o := .cells #[.int .i64 a0_0, .int .i64 a0_1, .int .i64 a0_2, .int .i64 a0_3, .int .i64 a0_4, .int .i64 a0_5, .int .i64 a0_6, .int .i64 a0_7, .int .i64 a0_8, .int .i64 a0_9, .int .i64 a0_10] 39 (0, 0)) (by (with_reducible repeat (first | refine blk_drewN ?_ _ | refine blk_drew ?_ | refine blk_alloc ?_ _)); exact BK231.out)) : gb232 ≠ gb231)); clear BK231; clear HB; have BK231 := n0_; have HB := n1_; have BK232 := n2_; have GW232 := n3_; have GE232 := n4_; have NB231_232 := n5_; have NB232_231 := n6_; clear n0_ n1_ n2_ n3_ n4_ n5_ n6_; clear hb hbox hg) | ((with_reducible refine gate_dst (N := 4) rfl ?_); refine box_event ?hg (N := 4) ?hd (cs := #[.int .i64 0, .int .i64 0, .int .i64 0, .int .i64 0, .int .i64 0, .int .i64 0, .int .i64 0, .int .i64 0, .int .i64 0, .int .i64 0, .int .i64 0]) (t := 39) ?hr ?_; (case hd => rfl); (case hg => rfl); (case hr => first | (go_simp; done) | (go_simp; rfl)); intro gb233 hg w6 hbox hb; have n0_ := Aside0.mk (blk_below (g := gb231) (o := .cells #[.int .i64 a0_0, .int .i64 a0_1, .int .i64 a0_2, .int .i64 a0_3, .int .i64 a0_4, .int .i64 a0_5, .int .i64 a0_6, .int .i64 a0_7, .int .i64 a0_8, .int .i64 a0_9, .int .i64 a0_10] 39 (0, 0)) (by (with_reducible repeat (first | refine blk_drewN ?_ _ | refine blk_drew ?_ | refine blk_alloc ?_ _)); exact BK231.out) hb); have n1_ := Aside0.mk (blk_below (g := gb232) (o := .cells #[.int .i64 a1_0, .int .i64 a1_1] 25 (0, 0)) (by (with_reducible repeat (first | refine blk_drewN ?_ _ | refine blk_drew ?_ | refine blk_alloc ?_ _)); exact BK232.out) hb); have n2_ := Aside0.mk (below_step (by repeat (first | (with_reducible first | exact HB.out | apply below_alloc | apply pw_below_drewN | apply below_drew1 | refine below_set ?_ GE231.out | refine below_set ?_ GE232.out) | exact HB.out)) hb); have n3_ := Aside0.mk (hbox); have n4_ := Aside0.mk ((by rw [hg]; exact (below_size (by repeat (first | (with_reducible first | exact HB.out | apply below_alloc | apply pw_below_drewN | apply below_drew1 | refine below_set ?_ GE231.out | refine below_set ?_ GE232.out) | exact HB.out))) : w.heap.size ≤ gb233)); have n5_ := Aside0.mk ((by rw [hg]; exact (below_size (by repeat (first | (with_reducible first | exact HB.out | apply below_alloc | apply pw_below_drewN | apply below_drew1 | refine below_set ?_ GE231.out | refine below_set ?_ GE232.out) | exact HB.out))) : w.heap.size ≤ gb233)); have n6_ := Aside0.mk ((by rw [hg]; exact Nat.ne_of_lt (blk_lt (g := gb231) (o := .cells #[.int .i64 a0_0, .int .i64 a0_1, .int .i64 a0_2, .int .i64 a0_3, .int .i64 a0_4, .int .i64 a0_5, .int .i64 a0_6, .int .i64 a0_7, .int .i64 a0_8, .int .i64 a0_9, .int .i64 a0_10] 39 (0, 0)) (by (with_reducible repeat (first | refine blk_drewN ?_ _ | refine blk_drew ?_ | refine blk_alloc ?_ _)); exact BK231.out)) : gb231 ≠ gb233)); have n7_ := Aside0.mk ((by rw [hg]; exact Nat.ne_of_gt (blk_lt (g := gb231) (o := .cells #[.int .i64 a0_0, .int .i64 a0_1, .int .i64 a0_2, .int .i64 a0_3, .int .i64 a0_4, .int .i64 a0_5, .int .i64 a0_6, .int .i64 a0_7, .int .i64 a0_8, .int .i64 a0_9, .int .i64 a0_10] 39 (0, 0)) (by (with_reducible repeat (first | refine blk_drewN ?_ _ | refine blk_drew ?_ | refine blk_alloc ?_ _)); exact BK231.out)) : gb233 ≠ gb231)); have n8_ := Aside0.mk ((by rw [hg]; exact Nat.ne_of_lt (blk_lt (g := gb232) (o := .cells #[.int .i64 a1_0, .int .i64 a1_1] 25 (0, 0)) (by (with_reducible repeat (first | refine blk_drewN ?_ _ | refine blk_drew ?_ | refine blk_alloc ?_ _)); exact BK232.out)) : gb232 ≠ gb233)); have n9_ := Aside0.mk ((by rw [hg]; exact Nat.ne_of_gt (blk_lt (g := gb232) (o := .cells #[.int .i64 a1_0, .int .i64 a1_1] 25 (0, 0)) (by (with_reducible repeat (first | refine blk_drewN ?_ _ | refine blk_drew ?_ | refine blk_alloc ?_ _)); exact BK232.out)) : gb233 ≠ gb232)); clear BK231; clear BK232; clear HB; have BK231 := n0_; have BK232 := n1_; have HB := n2_; have BK233 := n3_; have GW233 := n4_; have GE233 := n5_; have NB231_233 := n6_; have NB233_231 := n7_; have NB232_233 := n8_; have NB233_232 := n9_; clear n0_ n1_ n2_ n3_ n4_ n5_ n6_ n7_ n8_ n9_; clear hb hbox hg; have hnb7 := NB232_231.out; have hnc7 := NB231_232.out; have hnb8 := NB232_233.out; have hnc8 := NB233_232.out; have hcz9_0 : w6.cell? ⟨gb232, 0, none⟩ = some (.int .i64 a1_0) := (blk_cell BK232.out 0).trans rfl; have hcz9_1 : w6.cell? ⟨gb232, 1, none⟩ = some (.int .i64 a1_1) := (blk_cell BK232.out 1).trans rfl; have hfz9_0 := blk_frozen BK232.out 0; have hfz9_1 := blk_frozen BK232.out 1; have hnb10 := NB231_233.out; have hnc10 := NB233_231.out; have hcz11_0 : w6.cell? ⟨gb231, 0, none⟩ = some (.int .i64 a0_0) := (blk_cell BK231.out 0).trans rfl; have hcz11_1 : w6.cell? ⟨gb231, 1, none⟩ = some (.int .i64 a0_1) := (blk_cell BK231.out 1).trans rfl; have hcz11_2 : w6.cell? ⟨gb231, 2, none⟩ = some (.int .i64 a0_2) := (blk_cell BK231.out 2).trans rfl; have hcz11_3 : w6.cell? ⟨gb231, 3, none⟩ = some (.int .i64 a0_3) := (blk_cell BK231.out 3).trans rfl; have hcz11_4 : w6.cell? ⟨gb231, 4, none⟩ = some (.int .i64 a0_4) := (blk_cell BK231.out 4).trans rfl; have hcz11_5 : w6.cell? ⟨gb231, 5, none⟩ = some (.int .i64 a0_5) := (blk_cell BK231.out 5).trans rfl; have hcz11_6 : w6.cell? ⟨gb231, 6, none⟩ = some (.int .i64 a0_6) := (blk_cell BK231.out 6).trans rfl; have hcz11_7 : w6.cell? ⟨gb231, 7, none⟩ = some (.int .i64 a0_7) := (blk_cell BK231.out 7).trans rfl; have hcz11_8 : w6.cell? ⟨gb231, 8, none⟩ = some (.int .i64 a0_8) := (blk_cell BK231.out 8).trans rfl; have hcz11_9 : w6.cell? ⟨gb231, 9, none⟩ = some (.int .i64 a0_9) := (blk_cell BK231.out 9).trans rfl; have hcz11_10 : w6.cell? ⟨gb231, 10, none⟩ = some (.int .i64 a0_10) := (blk_cell BK231.out 10).trans rfl; have hfz11_0 := blk_frozen BK231.out 0; have hfz11_1 := blk_frozen BK231.out 1; have hfz11_2 := blk_frozen BK231.out 2; have hfz11_3 := blk_frozen BK231.out 3; have hfz11_4 := blk_frozen BK231.out 4; have hfz11_5 := blk_frozen BK231.out 5; have hfz11_6 := blk_frozen BK231.out 6; have hfz11_7 := blk_frozen BK231.out 7; have hfz11_8 := blk_frozen BK231.out 8; have hfz11_9 := blk_frozen BK231.out 9; have hfz11_10 := blk_frozen BK231.out 10) | ((with_reducible refine gate_callee (f := 35) rfl ?_); refine goesL_ (some 7) rfl rfl Tryd.func35 (by kernel_rfl) rfl #[.agg #[.int .i64 a1_0, .int .i64 a1_1], .agg #[.int .i64 a0_0, .int .i64 a0_1, .int .i64 a0_2, .int .i64 a0_3, .int .i64 a0_4, .int .i64 a0_5, .int .i64 a0_6, .int .i64 a0_7, .int .i64 a0_8, .int .i64 a0_9, .int .i64 a0_10]] rfl (by (try simp only [List.map_toArray, List.map_cons, List.map_nil]); first | done | rfl | (simp only [List.length_drop, List.length_take]; rfl)) ?_; (with_reducible refine (storagebartermake_mark.calls k a1_0 a1_1 a0_0 a0_1 a0_2 a0_3 a0_4 a0_5 a0_6 a0_7 a0_8 a0_9 a0_10 t234 _ A3.out).mono ?_); rintro e w12 ⟨rfl, hb⟩; refine ⟨_, rfl, ?_⟩; have n0_ := Aside0.mk (blk_below (g := gb231) (o := .cells #[.int .i64 a0_0, .int .i64 a0_1, .int .i64 a0_2, .int .i64 a0_3, .int .i64 a0_4, .int .i64 a0_5, .int .i64 a0_6, .int .i64 a0_7, .int .i64 a0_8, .int .i64 a0_9, .int .i64 a0_10] 39 (0, 0)) (by (with_reducible repeat (first | refine blk_drewN ?_ _ | refine blk_drew ?_ | refine blk_alloc ?_ _)); exact BK231.out) hb); have n1_ := Aside0.mk (blk_below (g := gb232) (o := .cells #[.int .i64 a1_0, .int .i64 a1_1] 25 (0, 0)) (by (with_reducible repeat (first | refine blk_drewN ?_ _ | refine blk_drew ?_ | refine blk_alloc ?_ _)); exact BK232.out) hb); have n2_ := Aside0.mk (blk_below (g := gb233) (o := .cells #[.int .i64 0, .int .i64 0, .int .i64 0, .int .i64 0, .int .i64 0, .int .i64 0, .int .i64 0, .int .i64 0, .int .i64 0, .int .i64 0, .int .i64 0] 39 (0, 0)) (by (with_reducible repeat (first | refine blk_drewN ?_ _ | refine blk_drew ?_ | refine blk_alloc ?_ _)); exact BK233.out) hb); have n3_ := Aside0.mk (below_step (by repeat (first | (with_reducible first | exact HB.out | apply below_alloc | apply pw_below_drewN | apply below_drew1 | refine below_set ?_ GE231.out | refine below_set ?_ GE232.out | refine below_set ?_ GE233.out) | exact HB.out)) hb); clear BK231; clear BK232; clear BK233; clear HB; have BK231 := n0_; have BK232 := n1_; have BK233 := n2_; have HB := n3_; clear n0_ n1_ n2_ n3_; (try clear hb); (try clear hb2); (try clear hk); (try clear hi); have hcz13_0 : w12.cell? ⟨gb231, 0, none⟩ = some (.int .i64 a0_0) := (blk_cell BK231.out 0).trans rfl; have hcz13_1 : w12.cell? ⟨gb231, 1, none⟩ = some (.int .i64 a0_1) := (blk_cell BK231.out 1).trans rfl; have hcz13_2 : w12.cell? ⟨gb231, 2, none⟩ = some (.int .i64 a0_2) := (blk_cell BK231.out 2).trans rfl; have hcz13_3 : w12.cell? ⟨gb231, 3, none⟩ = some (.int .i64 a0_3) := (blk_cell BK231.out 3).trans rfl; have hcz13_4 : w12.cell? ⟨gb231, 4, none⟩ = some (.int .i64 a0_4) := (blk_cell BK231.out 4).trans rfl; have hcz13_5 : w12.cell? ⟨gb231, 5, none⟩ = some (.int .i64 a0_5) := (blk_cell BK231.out 5).trans rfl; have hcz13_6 : w12.cell? ⟨gb231, 6, none⟩ = some (.int .i64 a0_6) := (blk_cell BK231.out 6).trans rfl; have hcz13_7 : w12.cell? ⟨gb231, 7, none⟩ = some (.int .i64 a0_7) := (blk_cell BK231.out 7).trans rfl; have hcz13_8 : w12.cell? ⟨gb231, 8, none⟩ = some (.int .i64 a0_8) := (blk_cell BK231.out 8).trans rfl; have hcz13_9 : w12.cell? ⟨gb231, 9, none⟩ = some (.int .i64 a0_9) := (blk_cell BK231.out 9).trans rfl; have hcz13_10 : w12.cell? ⟨gb231, 10, none⟩ = some (.int .i64 a0_10) := (blk_cell BK231.out 10).trans rfl; have hfz13_0 := blk_frozen BK231.out 0; have hfz13_1 := blk_frozen BK231.out 1; have hfz13_2 := blk_frozen BK231.out 2; have hfz13_3 := blk_frozen BK231.out 3; have hfz13_4 := blk_frozen BK231.out 4; have hfz13_5 := blk_frozen BK231.out 5; have hfz13_6 := blk_frozen BK231.out 6; have hfz13_7 := blk_frozen BK231.out 7; have hfz13_8 := blk_frozen BK231.out 8; have hfz13_9 := blk_frozen BK231.out 9; have hfz13_10 := blk_frozen BK231.out 10; have hcz14_0 : w12.cell? ⟨gb233, 0, none⟩ = some (.int .i64 0) := (blk_cell BK233.out 0).trans rfl; have hcz14_1 : w12.cell? ⟨gb233, 1, none⟩ = some (.int .i64 0) := (blk_cell BK233.out 1).trans rfl; have hcz14_2 : w12.cell? ⟨gb233, 2, none⟩ = some (.int .i64 0) := (blk_cell BK233.out 2).trans rfl; have hcz14_3 : w12.cell? ⟨gb233, 3, none⟩ = some (.int .i64 0) := (blk_cell BK233.out 3).trans rfl; have hcz14_4 : w12.cell? ⟨gb233, 4, none⟩ = some (.int .i64 0) := (blk_cell BK233.out 4).trans rfl; have hcz14_5 : w12.cell? ⟨gb233, 5, none⟩ = some (.int .i64 0) := (blk_cell BK233.out 5).trans rfl; have hcz14_6 : w12.cell? ⟨gb233, 6, none⟩ = some (.int .i64 0) := (blk_cell BK233.out 6).trans rfl; have hcz14_7 : w12.cell? ⟨gb233, 7, none⟩ = some (.int .i64 0) := (blk_cell BK233.out 7).trans rfl; have hcz14_8 : w12.cell? ⟨gb233, 8, none⟩ = some (.int .i64 0) := (blk_cell BK233.out 8).trans rfl; have hcz14_9 : w12.cell? ⟨gb233, 9, none⟩ = some (.int .i64 0) := (blk_cell BK233.out 9).trans rfl; have hcz14_10 : w12.cell? ⟨gb233, 10, none⟩ = some (.int .i64 0) := (blk_cell BK233.out 10).trans rfl; have hfz14_0 := blk_frozen BK233.out 0; have hfz14_1 := blk_frozen BK233.out 1; have hfz14_2 := blk_frozen BK233.out 2; have hfz14_3 := blk_frozen BK233.out 3; have hfz14_4 := blk_frozen BK233.out 4; have hfz14_5 := blk_frozen BK233.out 5; have hfz14_6 := blk_frozen BK233.out 6; have hfz14_7 := blk_frozen BK233.out 7; have hfz14_8 := blk_frozen BK233.out 8; have hfz14_9 := blk_frozen BK233.out 9; have hfz14_10 := blk_frozen BK233.out 10))
  refine bodyPost_ret (results_cell_row rfl _ _ gb233 39 #[.int .i64 a0_0, .int .i64 a0_1, .int .i64 a0_2, .int .i64 a0_3, .int .i64 a0_4, .int .i64 a0_5, .int .i64 a0_6, .int .i64 a0_7, .int .i64 a0_8, .int .i64 a0_9, .int .i64 t234] (0, 0) _ rfl (by (with_reducible repeat (first | refine blk_drewN ?_ _ | refine blk_drew ?_ | refine blk_alloc ?_ _)); refine blk_put (cs := #[.int .i64 a0_0, .int .i64 a0_1, .int .i64 a0_2, .int .i64 a0_3, .int .i64 a0_4, .int .i64 a0_5, .int .i64 a0_6, .int .i64 a0_7, .int .i64 a0_8, .int .i64 a0_9, .int .i64 0]) ?_ 10 _ rfl; (with_reducible repeat (first | refine blk_drewN ?_ _ | refine blk_drew ?_ | refine blk_alloc ?_ _)); refine blk_put (cs := #[.int .i64 a0_0, .int .i64 a0_1, .int .i64 a0_2, .int .i64 a0_3, .int .i64 a0_4, .int .i64 a0_5, .int .i64 a0_6, .int .i64 a0_7, .int .i64 a0_8, .int .i64 0, .int .i64 0]) ?_ 9 _ rfl; (with_reducible repeat (first | refine blk_drewN ?_ _ | refine blk_drew ?_ | refine blk_alloc ?_ _)); refine blk_put (cs := #[.int .i64 a0_0, .int .i64 a0_1, .int .i64 a0_2, .int .i64 a0_3, .int .i64 a0_4, .int .i64 a0_5, .int .i64 a0_6, .int .i64 a0_7, .int .i64 0, .int .i64 0, .int .i64 0]) ?_ 8 _ rfl; (with_reducible repeat (first | refine blk_drewN ?_ _ | refine blk_drew ?_ | refine blk_alloc ?_ _)); refine blk_put (cs := #[.int .i64 a0_0, .int .i64 a0_1, .int .i64 a0_2, .int .i64 a0_3, .int .i64 a0_4, .int .i64 a0_5, .int .i64 a0_6, .int .i64 0, .int .i64 0, .int .i64 0, .int .i64 0]) ?_ 7 _ rfl; (with_reducible repeat (first | refine blk_drewN ?_ _ | refine blk_drew ?_ | refine blk_alloc ?_ _)); refine blk_put (cs := #[.int .i64 a0_0, .int .i64 a0_1, .int .i64 a0_2, .int .i64 a0_3, .int .i64 a0_4, .int .i64 a0_5, .int .i64 0, .int .i64 0, .int .i64 0, .int .i64 0, .int .i64 0]) ?_ 6 _ rfl; (with_reducible repeat (first | refine blk_drewN ?_ _ | refine blk_drew ?_ | refine blk_alloc ?_ _)); refine blk_put (cs := #[.int .i64 a0_0, .int .i64 a0_1, .int .i64 a0_2, .int .i64 a0_3, .int .i64 a0_4, .int .i64 0, .int .i64 0, .int .i64 0, .int .i64 0, .int .i64 0, .int .i64 0]) ?_ 5 _ rfl; (with_reducible repeat (first | refine blk_drewN ?_ _ | refine blk_drew ?_ | refine blk_alloc ?_ _)); refine blk_put (cs := #[.int .i64 a0_0, .int .i64 a0_1, .int .i64 a0_2, .int .i64 a0_3, .int .i64 0, .int .i64 0, .int .i64 0, .int .i64 0, .int .i64 0, .int .i64 0, .int .i64 0]) ?_ 4 _ rfl; (with_reducible repeat (first | refine blk_drewN ?_ _ | refine blk_drew ?_ | refine blk_alloc ?_ _)); refine blk_put (cs := #[.int .i64 a0_0, .int .i64 a0_1, .int .i64 a0_2, .int .i64 0, .int .i64 0, .int .i64 0, .int .i64 0, .int .i64 0, .int .i64 0, .int .i64 0, .int .i64 0]) ?_ 3 _ rfl; (with_reducible repeat (first | refine blk_drewN ?_ _ | refine blk_drew ?_ | refine blk_alloc ?_ _)); refine blk_put (cs := #[.int .i64 a0_0, .int .i64 a0_1, .int .i64 0, .int .i64 0, .int .i64 0, .int .i64 0, .int .i64 0, .int .i64 0, .int .i64 0, .int .i64 0, .int .i64 0]) ?_ 2 _ rfl; (with_reducible repeat (first | refine blk_drewN ?_ _ | refine blk_drew ?_ | refine blk_alloc ?_ _)); refine blk_put (cs := #[.int .i64 a0_0, .int .i64 0, .int .i64 0, .int .i64 0, .int .i64 0, .int .i64 0, .int .i64 0, .int .i64 0, .int .i64 0, .int .i64 0, .int .i64 0]) ?_ 1 _ rfl; (with_reducible repeat (first | refine blk_drewN ?_ _ | refine blk_drew ?_ | refine blk_alloc ?_ _)); refine blk_put (cs := #[.int .i64 0, .int .i64 0, .int .i64 0, .int .i64 0, .int .i64 0, .int .i64 0, .int .i64 0, .int .i64 0, .int .i64 0, .int .i64 0, .int .i64 0]) ?_ 0 _ rfl; (with_reducible repeat (first | refine blk_drewN ?_ _ | refine blk_drew ?_ | refine blk_alloc ?_ _)); refine blk_far ?_ NB233_231.out _; (with_reducible repeat (first | refine blk_drewN ?_ _ | refine blk_drew ?_ | refine blk_alloc ?_ _)); exact BK233.out) Tryd.underlying39 rfl (by kernel_rfl)) rfl ?_
  exact ⟨by first | rfl | (simp [errW_none, errW_some] <;> rfl) | (simp [*, errW_none, errW_some] <;> rfl), by repeat (first | (with_reducible first | exact HB.out | apply below_alloc | apply pw_below_drewN | apply below_drew1 | refine below_set ?_ GE231.out | refine below_set ?_ GE232.out | refine below_set ?_ GE233.out) | exact HB.out)⟩
end Go.Proofs.YtcalkhlchjjalaaDoor.Q

namespace Go.Proofs.YtcalkhlchjjalaaDoor.Grs
open Go Go.RowKit Go.Proofs.YtcalkhlchjjalaaDoor.Gm Go.Proofs.YtcalkhlchjjalaaDoor.Gdm Go.Proofs.YtcalkhlchjjalaaDoor.Gmr Go.Proofs.YtcalkhlchjjalaaDoor.Gsg Go.Proofs.YtcalkhlchjjalaaDoor.Gsy Go.Proofs.YtcalkhlchjjalaaDoor.Q Go.Proofs.YtcalkhlchjjalaaDoor.Gput Go.Proofs.YtcalkhlchjjalaaDoorW.PrintWords Go.Proofs.YtcalkhlchjjalaaDoorW.PrintLast Go.Proofs.YtcalkhlchjjalaaDoorW.PrintMore
set_option linter.unusedVariables false
theorem rBytes_l0 (l : List Int) (hl : l.length ≤ 10) (h : ∀ x ∈ l, I64 x) : ∀ (d i k : Nat), l.length - i = d → i ≤ l.length → d + 11 < k →
    storagebarterref15_Bytes.l0 k (B (bl (l.take i))) l (l.length : Int) (i : Int) = some (B (bl l)) := by
  intro d
  induction d with
  | zero =>
    intro i k hd hi hk
    obtain ⟨k, rfl⟩ : ∃ m, k = m + 1 := ⟨k - 1, by omega⟩
    rw [storagebarterref15_Bytes.l0, if_neg (by omega), List.take_of_length_le (by omega)]
  | succ d ih =>
    intro i k hd hi hk
    obtain ⟨k, rfl⟩ : ∃ m, k = m + 1 := ⟨k - 1, by omega⟩
    have hil : i < l.length := by omega
    have h1 := bl_len (l := l.take i) (fun x hx => h x (List.mem_of_mem_take hx))
    rw [List.length_take] at h1
    have e : rd l (i : Int) = l[i] := by simp [rd, List.getD, hil]
    have h0 := ih (i + 1) k (by omega) (by omega) (by omega)
    have e2 : bl (l.take (i + 1)) = bl (l.take i) ++ putI l[i] := by
      unfold bl
      rw [List.take_succ_eq_append_getElem hil, List.flatMap_append]
      simp
    rw [e2] at h0
    rw [storagebarterref15_Bytes.l0, if_pos (by omega), if_pos (by omega), if_pos (by omega), e, ref_PutInt_eq _ _ _ (by omega) (h _ (List.getElem_mem hil)) (by omega), Option.bind_some, w64 (x := (i : Int) + 1) (by omega), show ((i : Int) + 1) = ((i + 1 : Nat) : Int) by omega]
    exact h0
theorem rBytes_eq (s : S39) (h : W64 s) (k : Nat) (hk : 22 ≤ k) : storagebarterref15_Bytes.f k s.f0 s.f1 s.f2 s.f3 s.f4 s.f5 s.f6 s.f7 s.f8 s.f9 s.f10 = some (B (bts s)) := by
  have := rBytes_l0 [s.f0, s.f1, s.f2, s.f3, s.f4, s.f5, s.f6, s.f7, s.f8, s.f9] (by simp) h.all 10 0 k (by simp) (by simp) (by omega)
  unfold storagebarterref15_Bytes.f
  rw [Option.bind_some]
  exact this
theorem mkMark_eq (p0 p1 : Int) (s : S39) (h : W64 s) (k : Nat) (hk : 200 ≤ k) : storagebartermake_mark.f k p0 p1 s.f0 s.f1 s.f2 s.f3 s.f4 s.f5 s.f6 s.f7 s.f8 s.f9 s.f10 = some (sg p1 (bts s)).1 := by
  have := bts_len h
  unfold storagebartermake_mark.f
  rw [rBytes_eq s h k (by omega), Option.bind_some, rSign_eq _ _ _ (by omega) (by omega), Option.bind_some]
theorem mkSign_eq (p0 p1 : Int) (s : S39) (h : W64 s) (hp : within p1) (k : Nat) (hk : 200 ≤ k) : storagebartermake_Sign.f k s.f0 s.f1 s.f2 s.f3 s.f4 s.f5 s.f6 s.f7 s.f8 s.f9 s.f10 p0 p1 = some (s.f0, s.f1, s.f2, s.f3, s.f4, s.f5, s.f6, s.f7, s.f8, s.f9, mk_ p1 (bts s)) := by
  unfold storagebartermake_Sign.f
  rw [mkMark_eq p0 p1 s h k hk, Option.bind_some]
  unfold sg mk_
  rw [if_pos hp]
end Go.Proofs.YtcalkhlchjjalaaDoor.Grs

namespace Go.Proofs.YtcalkhlchjjalaaDoor.God
open Go Go.RowKit Go.Proofs Go.Proofs.YtcalkhlchjjalaaDoor.Gm Go.Proofs.YtcalkhlchjjalaaDoor.Gdm Go.Proofs.YtcalkhlchjjalaaDoor.Gmr Go.Proofs.YtcalkhlchjjalaaDoor.Gpp Go.Proofs.YtcalkhlchjjalaaDoor.Gsy Go.Proofs.YtcalkhlchjjalaaDoor.Gnx Go.Proofs.YtcalkhlchjjalaaDoor.Gcw Go.Proofs.YtcalkhlchjjalaaDoor.Grs Go.Proofs.YtcalkhlchjjalaaDoor.Q Go.Proofs.YtcalkhlchjjalaaDoorW.PrintWords Go.Proofs.YtcalkhlchjjalaaDoorW.PrintLast Go.Proofs.YtcalkhlchjjalaaDoorW.PrintMore
set_option linter.unusedVariables false
/-- What Odd answers. -/
structure OddS (p0 p1 to_ : Int) (s : S39) : Prop where
  e0 : s.f0 = p0
  e1 : s.f1 = to_
  b2 : 1 ≤ s.f2 ∧ s.f2 ≤ 4
  b3 : 0 ≤ s.f3 ∧ s.f3 ≤ 4
  b4 : 0 ≤ s.f4 ∧ s.f4 ≤ 19
  b5 : 1 ≤ s.f5 ∧ s.f5 ≤ 8
  b6 : 0 ≤ s.f6 ∧ s.f6 ≤ 3
  b7 : 0 ≤ s.f7 ∧ s.f7 ≤ 5
  b8 : 0 ≤ s.f8 ∧ s.f8 ≤ 4
  b9 : 0 ≤ s.f9 ∧ s.f9 ≤ 40
  ma : s.f10 = mk_ p1 (bts s)
/-- A deck in a world, and what stands since w1. -/
structure OD (w w1 W : World) (gd : Nat) (L : List Int) : Prop where
  hb : Below w.heap.size w W
  le : w.heap.size ≤ w1.heap.size
  dk : ∃ at_, 0 ≤ at_ ∧ IsS57 w W gd L at_
  kp : KeepBut w1 W gd none
/-- The person's block and the answer's block besides. -/
structure OX (w w1 W : World) (gd : Nat) (L : List Int) (gp g6 : Nat) (p0 p1 : Int) : Prop where
  d : OD w w1 W gd L
  pb : W.heap[gp]? = some (.cells #[.int .i64 p0, .int .i64 p1] 25 (0, 0))
  rb : W.heap[g6]? = some (.cells #[.int .i64 0, .int .i64 0, .int .i64 0, .int .i64 0, .int .i64 0, .int .i64 0, .int .i64 0, .int .i64 0, .int .i64 0, .int .i64 0, .int .i64 0] 39 (0, 0))
  l6 : w1.heap.size ≤ g6
/-- The block of the statement under way. -/
structure OZ (w1 W : World) (g6 gz : Nat) (cs : Array Value) : Prop where
  b : W.heap[gz]? = some (.cells cs 39 (0, 0))
  l : w1.heap.size ≤ gz
  ne : g6 ≠ gz
section
variable {w w1 W W' : World} {gd gp g6 gz : Nat} {L : List Int} {p0 p1 : Int} {cs : Array Value}
theorem OD.below (h : OD w w1 W gd L) (hb : Below W.heap.size W W') : OD w w1 W' gd L := by
  obtain ⟨at_, h0, hd⟩ := h.dk
  exact ⟨below_step h.hb hb, h.le, ⟨at_, h0, hd.below hb⟩, h.kp.trans (KeepBut.of_below hb gd none) (.inl rfl)⟩
theorem OD.ne (h : OD w w1 W gd L) {g : Nat} {t : TypeId} {cs : Array Value} (hc : W.heap[g]? = some (.cells cs t (0, 0))) (ht : t ≠ 57) : g ≠ gd := by
  obtain ⟨at0, -, A0, c0, hbg, -, -⟩ := h.dk
  rintro rfl
  rw [hbg] at hc
  injection hc with hc
  injection hc with _ hc
  exact ht hc.symm
theorem OD.far (h : OD w w1 W gd L) {g : Nat} (hl : w1.heap.size ≤ g) (hne : g ≠ gd) (i : Nat) (v : Value) : OD w w1 (W.setCell ⟨g, i, none⟩ v) gd L := by
  obtain ⟨at_, h0, hd⟩ := h.dk
  exact ⟨below_set h.hb (Nat.le_trans h.le hl), h.le, ⟨at_, h0, hd.far (fun e => hne e.symm) v⟩, keep_far h.kp (p := ⟨g, i, none⟩) hl v⟩
theorem OX.below (h : OX w w1 W gd L gp g6 p0 p1) (hb : Below W.heap.size W W') : OX w w1 W' gd L gp g6 p0 p1 := ⟨h.d.below hb, blk_below h.pb hb, blk_below h.rb hb, h.l6⟩
theorem OX.alloc (h : OX w w1 W gd L gp g6 p0 p1) (o : Obj) : OX w w1 (W.alloc o) gd L gp g6 p0 p1 := h.below (below_alloc (Below.refl _ _) o)
theorem OX.drew (h : OX w w1 W gd L gp g6 p0 p1) : OX w w1 W.drew gd L gp g6 p0 p1 := h.below (below_drew1 (Below.refl _ _))
theorem OX.next {at_ : Int} (h : OX w w1 W gd L gp g6 p0 p1) (h0 : 0 ≤ at_) (hd : IsS57 w W' gd L at_) (hb : Below w.heap.size w W') (hk : KeepBut W W' gd none) : OX w w1 W' gd L gp g6 p0 p1 :=
  ⟨⟨hb, h.d.le, ⟨at_, h0, hd⟩, h.d.kp.trans hk (.inl rfl)⟩, hk.blk h.pb (h.d.ne h.pb (by decide)) (by simp), hk.blk h.rb (h.d.ne h.rb (by decide)) (by simp), h.l6⟩
theorem OX.made (h : OX w w1 W gd L gp g6 p0 p1) (cs : Array Value) : OZ w1 (W.alloc (.cells cs 39)) g6 W.heap.size cs :=
  ⟨heap_alloc_new W _, h.d.kp.1, Nat.ne_of_lt (blk_lt h.rb)⟩
theorem OZ.below (z : OZ w1 W g6 gz cs) (hb : Below W.heap.size W W') : OZ w1 W' g6 gz cs := ⟨blk_below z.b hb, z.l, z.ne⟩
theorem OZ.set (z : OZ w1 W g6 gz cs) (i : Nat) (v : Value) : OZ w1 (W.setCell ⟨gz, i, none⟩ v) g6 gz (cs.setIfInBounds i v) := ⟨blk_put z.b i v rfl, z.l, z.ne⟩
theorem OX.far (h : OX w w1 W gd L gp g6 p0 p1) (z : OZ w1 W g6 gz cs) (i : Nat) (v : Value) : OX w w1 (W.setCell ⟨gz, i, none⟩ v) gd L gp g6 p0 p1 := by
  refine ⟨h.d.far z.l (h.d.ne z.b (by decide)) i v, blk_far (p := ⟨gz, i, none⟩) h.pb (fun e => ?_) v, blk_far (p := ⟨gz, i, none⟩) h.rb z.ne v, h.l6⟩
  have hp := h.pb
  rw [e, z.b] at hp
  injection hp with hp
  injection hp with _ hp
  exact absurd hp (by decide)
theorem OX.far11 (h : OX w w1 W gd L gp g6 p0 p1) (z : OZ w1 W g6 gz cs) (v0 v1 v2 v3 v4 v5 v6 v7 v8 va vb : Value) :
    OX w w1 (((((((((((W.setCell ⟨gz, 0, none⟩ v0).setCell ⟨gz, 1, none⟩ v1).setCell ⟨gz, 2, none⟩ v2).setCell ⟨gz, 3, none⟩ v3).setCell ⟨gz, 4, none⟩ v4).setCell ⟨gz, 5, none⟩ v5).setCell ⟨gz, 6, none⟩ v6).setCell ⟨gz, 7, none⟩ v7).setCell ⟨gz, 8, none⟩ v8).setCell ⟨gz, 9, none⟩ va).setCell ⟨gz, 10, none⟩ vb) gd L gp g6 p0 p1 := by
  have c0 := h.far z 0 v0
  have z0 := z.set 0 v0
  have c1 := c0.far z0 1 v1
  have z1 := z0.set 1 v1
  have c2 := c1.far z1 2 v2
  have z2 := z1.set 2 v2
  have c3 := c2.far z2 3 v3
  have z3 := z2.set 3 v3
  have c4 := c3.far z3 4 v4
  have z4 := z3.set 4 v4
  have c5 := c4.far z4 5 v5
  have z5 := z4.set 5 v5
  have c6 := c5.far z5 6 v6
  have z6 := z5.set 6 v6
  have c7 := c6.far z6 7 v7
  have z7 := z6.set 7 v7
  have c8 := c7.far z7 8 v8
  have z8 := z7.set 8 v8
  have c9 := c8.far z8 9 va
  have z9 := z8.set 9 va
  have c10 := c9.far z9 10 vb
  exact c10
theorem OZ.put11 {x0 x1 x2 x3 x4 x5 x6 x7 x8 x9 xa : Value} (z : OZ w1 W g6 gz #[x0, x1, x2, x3, x4, x5, x6, x7, x8, x9, xa]) (v0 v1 v2 v3 v4 v5 v6 v7 v8 v9_ va : Value) :
    OZ w1 (((((((((((W.setCell ⟨gz, 0, none⟩ v0).setCell ⟨gz, 1, none⟩ v1).setCell ⟨gz, 2, none⟩ v2).setCell ⟨gz, 3, none⟩ v3).setCell ⟨gz, 4, none⟩ v4).setCell ⟨gz, 5, none⟩ v5).setCell ⟨gz, 6, none⟩ v6).setCell ⟨gz, 7, none⟩ v7).setCell ⟨gz, 8, none⟩ v8).setCell ⟨gz, 9, none⟩ v9_).setCell ⟨gz, 10, none⟩ va) g6 gz #[v0, v1, v2, v3, v4, v5, v6, v7, v8, v9_, va] := ⟨Gnx.put11 _ _ _ _ _ _ _ _ _ _ _ _ _ _ _ _ _ _ _ _ _ _ z.b, z.l, z.ne⟩
theorem OX.turn (h : OX w w1 W gd L gp g6 p0 p1) (hL : L.length ≤ 1000000) (n : Int) (hn : 1 ≤ n ∧ n ≤ 100000) : Calls Tryd.prog 16 #[.pointer (some ⟨gd, 0, none⟩), .int .i64 n] W fun e w' => ∃ t : Int, e = .returned (.int .i64 t) ∧ 0 ≤ t ∧ t < n ∧ OX w w1 w' gd L gp g6 p0 p1 := by
  obtain ⟨at_, h0, hd⟩ := h.d.dk
  obtain ⟨t, a1, e, p, q, h1⟩ := next_ok L at_ n hn.1 (by omega) h0 hL
  refine (storagebartermake_Deck_Next.calls gd L at_ n t a1 w W hd h.d.hb e).mono fun e' w' y => ?_
  obtain ⟨rfl, z1, z2, z3⟩ := y
  exact ⟨t, rfl, p, q, h.next h1 z1 z2 z3⟩
theorem OX.turnZ (h : OX w w1 W gd L gp g6 p0 p1) (z : OZ w1 W g6 gz cs) (hL : L.length ≤ 1000000) (n : Int) (hn : 1 ≤ n ∧ n ≤ 100000) : Calls Tryd.prog 16 #[.pointer (some ⟨gd, 0, none⟩), .int .i64 n] W fun e w' => ∃ t : Int, e = .returned (.int .i64 t) ∧ 0 ≤ t ∧ t < n ∧ OX w w1 w' gd L gp g6 p0 p1 ∧ OZ w1 w' g6 gz cs := by
  obtain ⟨at_, h0, hd⟩ := h.d.dk
  obtain ⟨t, a1, e, p, q, h1⟩ := next_ok L at_ n hn.1 (by omega) h0 hL
  refine (storagebartermake_Deck_Next.calls gd L at_ n t a1 w W hd h.d.hb e).mono fun e' w' y => ?_
  obtain ⟨rfl, z1, z2, z3⟩ := y
  exact ⟨t, rfl, p, q, h.next h1 z1 z2 z3, ⟨z3.blk z.b (h.d.ne z.b (by decide)) (by simp), z.l, z.ne⟩⟩
theorem OX.turnA {cs : Array Value} (h : OX w w1 W gd L gp g6 p0 p1) (hL : L.length ≤ 1000000) (n : Int) (hn : 1 ≤ n ∧ n ≤ 100000) : Calls Tryd.prog 16 #[.pointer (some ⟨gd, 0, none⟩), .int .i64 n] (W.alloc (.cells cs 39)) fun e w' => ∃ t : Int, e = .returned (.int .i64 t) ∧ 0 ≤ t ∧ t < n ∧ OX w w1 w' gd L gp g6 p0 p1 ∧ OZ w1 w' g6 W.heap.size cs :=
  (h.alloc _).turnZ (h.made cs) hL n hn
theorem OX.out11 (h : OX w w1 W gd L gp g6 p0 p1) (v0 v1 v2 v3 v4 v5 v6 v7 v8 va vb : Value) :
    OD w w1 (((((((((((W.setCell ⟨g6, 0, none⟩ v0).setCell ⟨g6, 1, none⟩ v1).setCell ⟨g6, 2, none⟩ v2).setCell ⟨g6, 3, none⟩ v3).setCell ⟨g6, 4, none⟩ v4).setCell ⟨g6, 5, none⟩ v5).setCell ⟨g6, 6, none⟩ v6).setCell ⟨g6, 7, none⟩ v7).setCell ⟨g6, 8, none⟩ v8).setCell ⟨g6, 9, none⟩ va).setCell ⟨g6, 10, none⟩ vb) gd L := by
  have hn := h.d.ne h.rb (by decide)
  exact ((((((((((h.d.far h.l6 hn 0 v0).far h.l6 hn 1 v1).far h.l6 hn 2 v2).far h.l6 hn 3 v3).far h.l6 hn 4 v4).far h.l6 hn 5 v5).far h.l6 hn 6 v6).far h.l6 hn 7 v7).far h.l6 hn 8 v8).far h.l6 hn 9 va).far h.l6 hn 10 vb
theorem OX.all (h : OX w w1 W gd L gp g6 p0 p1) : OX w w1 W gd L gp g6 p0 p1 ∧ W.cell? ⟨gp, 0, none⟩ = some (.int .i64 p0) := ⟨h, (blk_cell h.pb 0).trans rfl⟩
end
set_option maxRecDepth 100000 in
set_option maxHeartbeats 8000000 in
theorem odd_x (w w1 : World) (gd : Nat) (L : List Int) (p0 p1 to_ : Int) (h : OD w w1 w1 gd L) (hL : L.length ≤ 1000000) (hp : within p1) (i0 : I64 p0) (i1 : I64 to_) :
    Calls Tryd.prog 22 #[.pointer (some ⟨gd, 0, none⟩), .agg #[.int .i64 p0, .int .i64 p1], .int .i64 to_] w1 fun e w' => ∃ s, OddS p0 p1 to_ s ∧ e = .returned (.agg #[.int .i64 s.f0, .int .i64 s.f1, .int .i64 s.f2, .int .i64 s.f3, .int .i64 s.f4, .int .i64 s.f5, .int .i64 s.f6, .int .i64 s.f7, .int .i64 s.f8, .int .i64 s.f9, .int .i64 s.f10]) ∧ OD w w1 w' gd L := by
  have mixed : (Tryd.prog).follows .mixedOrders = true := by kernel_rfl
  have hu39 := Tryd.underlying39
  have hu25 := Tryd.underlying25
  have HD0 := Aside0.mk h
  have HPW := Aside0.mk hp
  have HI0 := Aside0.mk i0
  have HI1 := Aside0.mk i1
  clear h hp i0 i1
  go_enter Tryd.func22, Tryd.ntmps22
  go_upto_region 1 with fail
  have HX0 : Aside0 (OX w w1 ((w1.alloc (.cells #[.int .i64 p0, .int .i64 p1] 25)).alloc (.cells #[.int .i64 0, .int .i64 0, .int .i64 0, .int .i64 0, .int .i64 0, .int .i64 0, .int .i64 0, .int .i64 0, .int .i64 0, .int .i64 0, .int .i64 0] 39)) gd L w1.heap.size (w1.heap.size + 1) p0 p1) := ⟨
    ⟨(HD0.out.below (below_alloc (Below.refl _ _) _)).below (below_alloc (Below.refl _ _) _), blk_alloc (heap_alloc_new w1 _) _, by have := heap_alloc_new (w1.alloc (.cells #[.int .i64 p0, .int .i64 p1] 25)) (.cells #[.int .i64 0, .int .i64 0, .int .i64 0, .int .i64 0, .int .i64 0, .int .i64 0, .int .i64 0, .int .i64 0, .int .i64 0, .int .i64 0, .int .i64 0] 39); simpa using this, Nat.le_succ _⟩⟩
  obtain ⟨W2, hW2⟩ : ∃ W2, W2 = ((w1.alloc (.cells #[.int .i64 p0, .int .i64 p1] 25)).alloc (.cells #[.int .i64 0, .int .i64 0, .int .i64 0, .int .i64 0, .int .i64 0, .int .i64 0, .int .i64 0, .int .i64 0, .int .i64 0, .int .i64 0, .int .i64 0] 39)) := ⟨_, rfl⟩
  rw [← hW2] at HX0 ⊢
  clear hW2
  obtain ⟨g6, hg6⟩ : ∃ g6, w1.heap.size + 1 = g6 := ⟨_, rfl⟩
  rw [hg6] at HX0 ⊢
  obtain ⟨gp, hgp⟩ : ∃ gp, w1.heap.size = gp := ⟨_, rfl⟩
  rw [hgp] at HX0 ⊢
  clear hg6 hgp
  have hcw := HX0.out
  go_cut [7] (fun s7 wx => ∃ (gz : Nat) (s2 s4 s5 s6 s7_ s8 : Int), s7 = .pointer (some ⟨gz, 0, none⟩) ∧ (1 ≤ s2 ∧ s2 ≤ 4) ∧ (0 ≤ s4 ∧ s4 ≤ 19) ∧ (1 ≤ s5 ∧ s5 ≤ 8) ∧ (0 ≤ s6 ∧ s6 ≤ 3) ∧ (0 ≤ s7_ ∧ s7_ ≤ 5) ∧ (1 ≤ s8 ∧ s8 ≤ 4) ∧ Aside0 (OX w w1 wx gd L gp g6 p0 p1) ∧ Aside0 (OZ w1 wx g6 gz #[.int .i64 p0, .int .i64 to_, .int .i64 s2, .int .i64 0, .int .i64 s4, .int .i64 s5, .int .i64 s6, .int .i64 s7_, .int .i64 s8, .int .i64 0, .int .i64 0]))
  case first =>
    go_region_held3 (fun W => OX w w1 W gd L gp g6 p0 p1 ∧ W.cell? ⟨gp, 0, none⟩ = some (.int .i64 p0)) ((first | (with_reducible exact OX.all (OX.far11 hcw HZ.out _ _ _ _ _ _ _ _ _ _ _)) | (with_reducible exact OX.all hcw) | (with_reducible exact OX.all (OX.drew hcw)) | (with_reducible exact OX.all (OX.alloc hcw _)) | (with_reducible exact OX.all (OX.drew (OX.alloc hcw _)))))
      (first | (go_at_call 16; (try go_split_ands); with_reducible refine (OX.turnA hcw hL 4 (by decide)).mono ?_; rintro e w' ⟨ta, rfl, hta, hta', hcw, hz⟩; have HZ := Aside0.mk hz; clear hz; (try clear hz0_ hy0_ hz1_ hy1_ hz2_ hy2_ hz3_ hy3_ hz4_ hy4_ hz5_ hy5_ hz6_ hy6_ hz7_ hy7_ hz8_ hy8_ hz9_ hy9_ hz10_ hy10_ hzl_); have hz0_ : w'.cell? ⟨_, 0, none⟩ = some (.int .i64 0) := (blk_cell HZ.out.b 0).trans rfl; have hy0_ := blk_frozen HZ.out.b 0; have hz1_ : w'.cell? ⟨_, 1, none⟩ = some (.int .i64 0) := (blk_cell HZ.out.b 1).trans rfl; have hy1_ := blk_frozen HZ.out.b 1; have hz2_ : w'.cell? ⟨_, 2, none⟩ = some (.int .i64 0) := (blk_cell HZ.out.b 2).trans rfl; have hy2_ := blk_frozen HZ.out.b 2; have hz3_ : w'.cell? ⟨_, 3, none⟩ = some (.int .i64 0) := (blk_cell HZ.out.b 3).trans rfl; have hy3_ := blk_frozen HZ.out.b 3; have hz4_ : w'.cell? ⟨_, 4, none⟩ = some (.int .i64 0) := (blk_cell HZ.out.b 4).trans rfl; have hy4_ := blk_frozen HZ.out.b 4; have hz5_ : w'.cell? ⟨_, 5, none⟩ = some (.int .i64 0) := (blk_cell HZ.out.b 5).trans rfl; have hy5_ := blk_frozen HZ.out.b 5; have hz6_ : w'.cell? ⟨_, 6, none⟩ = some (.int .i64 0) := (blk_cell HZ.out.b 6).trans rfl; have hy6_ := blk_frozen HZ.out.b 6; have hz7_ : w'.cell? ⟨_, 7, none⟩ = some (.int .i64 0) := (blk_cell HZ.out.b 7).trans rfl; have hy7_ := blk_frozen HZ.out.b 7; have hz8_ : w'.cell? ⟨_, 8, none⟩ = some (.int .i64 0) := (blk_cell HZ.out.b 8).trans rfl; have hy8_ := blk_frozen HZ.out.b 8; have hz9_ : w'.cell? ⟨_, 9, none⟩ = some (.int .i64 0) := (blk_cell HZ.out.b 9).trans rfl; have hy9_ := blk_frozen HZ.out.b 9; have hz10_ : w'.cell? ⟨_, 10, none⟩ = some (.int .i64 0) := (blk_cell HZ.out.b 10).trans rfl; have hy10_ := blk_frozen HZ.out.b 10; have hzl_ := blk_lt HZ.out.b) | (go_at_call 16; (try go_split_ands); with_reducible refine (OX.turnZ hcw HZ.out hL 4 (by decide)).mono ?_; rintro e w' ⟨ta, rfl, hta, hta', hcw, hz⟩; clear HZ; have HZ := Aside0.mk hz; clear hz; (try clear hz0_ hy0_ hz1_ hy1_ hz2_ hy2_ hz3_ hy3_ hz4_ hy4_ hz5_ hy5_ hz6_ hy6_ hz7_ hy7_ hz8_ hy8_ hz9_ hy9_ hz10_ hy10_ hzl_); have hz0_ : w'.cell? ⟨_, 0, none⟩ = some (.int .i64 0) := (blk_cell HZ.out.b 0).trans rfl; have hy0_ := blk_frozen HZ.out.b 0; have hz1_ : w'.cell? ⟨_, 1, none⟩ = some (.int .i64 0) := (blk_cell HZ.out.b 1).trans rfl; have hy1_ := blk_frozen HZ.out.b 1; have hz2_ : w'.cell? ⟨_, 2, none⟩ = some (.int .i64 0) := (blk_cell HZ.out.b 2).trans rfl; have hy2_ := blk_frozen HZ.out.b 2; have hz3_ : w'.cell? ⟨_, 3, none⟩ = some (.int .i64 0) := (blk_cell HZ.out.b 3).trans rfl; have hy3_ := blk_frozen HZ.out.b 3; have hz4_ : w'.cell? ⟨_, 4, none⟩ = some (.int .i64 0) := (blk_cell HZ.out.b 4).trans rfl; have hy4_ := blk_frozen HZ.out.b 4; have hz5_ : w'.cell? ⟨_, 5, none⟩ = some (.int .i64 0) := (blk_cell HZ.out.b 5).trans rfl; have hy5_ := blk_frozen HZ.out.b 5; have hz6_ : w'.cell? ⟨_, 6, none⟩ = some (.int .i64 0) := (blk_cell HZ.out.b 6).trans rfl; have hy6_ := blk_frozen HZ.out.b 6; have hz7_ : w'.cell? ⟨_, 7, none⟩ = some (.int .i64 0) := (blk_cell HZ.out.b 7).trans rfl; have hy7_ := blk_frozen HZ.out.b 7; have hz8_ : w'.cell? ⟨_, 8, none⟩ = some (.int .i64 0) := (blk_cell HZ.out.b 8).trans rfl; have hy8_ := blk_frozen HZ.out.b 8; have hz9_ : w'.cell? ⟨_, 9, none⟩ = some (.int .i64 0) := (blk_cell HZ.out.b 9).trans rfl; have hy9_ := blk_frozen HZ.out.b 9; have hz10_ : w'.cell? ⟨_, 10, none⟩ = some (.int .i64 0) := (blk_cell HZ.out.b 10).trans rfl; have hy10_ := blk_frozen HZ.out.b 10; have hzl_ := blk_lt HZ.out.b) | (go_at_call 16; (try go_split_ands); with_reducible refine (OX.turnZ (OX.drew (OX.alloc hcw _)) (OZ.below (OX.made hcw #[.int .i64 0, .int .i64 0, .int .i64 0, .int .i64 0, .int .i64 0, .int .i64 0, .int .i64 0, .int .i64 0, .int .i64 0, .int .i64 0, .int .i64 0]) (below_drew1 (Below.refl _ _))) hL 4 (by decide)).mono ?_; rintro e w' ⟨ta, rfl, hta, hta', hcw, hz⟩; have HZ := Aside0.mk hz; clear hz; (try clear hz0_ hy0_ hz1_ hy1_ hz2_ hy2_ hz3_ hy3_ hz4_ hy4_ hz5_ hy5_ hz6_ hy6_ hz7_ hy7_ hz8_ hy8_ hz9_ hy9_ hz10_ hy10_ hzl_); have hz0_ : w'.cell? ⟨_, 0, none⟩ = some (.int .i64 0) := (blk_cell HZ.out.b 0).trans rfl; have hy0_ := blk_frozen HZ.out.b 0; have hz1_ : w'.cell? ⟨_, 1, none⟩ = some (.int .i64 0) := (blk_cell HZ.out.b 1).trans rfl; have hy1_ := blk_frozen HZ.out.b 1; have hz2_ : w'.cell? ⟨_, 2, none⟩ = some (.int .i64 0) := (blk_cell HZ.out.b 2).trans rfl; have hy2_ := blk_frozen HZ.out.b 2; have hz3_ : w'.cell? ⟨_, 3, none⟩ = some (.int .i64 0) := (blk_cell HZ.out.b 3).trans rfl; have hy3_ := blk_frozen HZ.out.b 3; have hz4_ : w'.cell? ⟨_, 4, none⟩ = some (.int .i64 0) := (blk_cell HZ.out.b 4).trans rfl; have hy4_ := blk_frozen HZ.out.b 4; have hz5_ : w'.cell? ⟨_, 5, none⟩ = some (.int .i64 0) := (blk_cell HZ.out.b 5).trans rfl; have hy5_ := blk_frozen HZ.out.b 5; have hz6_ : w'.cell? ⟨_, 6, none⟩ = some (.int .i64 0) := (blk_cell HZ.out.b 6).trans rfl; have hy6_ := blk_frozen HZ.out.b 6; have hz7_ : w'.cell? ⟨_, 7, none⟩ = some (.int .i64 0) := (blk_cell HZ.out.b 7).trans rfl; have hy7_ := blk_frozen HZ.out.b 7; have hz8_ : w'.cell? ⟨_, 8, none⟩ = some (.int .i64 0) := (blk_cell HZ.out.b 8).trans rfl; have hy8_ := blk_frozen HZ.out.b 8; have hz9_ : w'.cell? ⟨_, 9, none⟩ = some (.int .i64 0) := (blk_cell HZ.out.b 9).trans rfl; have hy9_ := blk_frozen HZ.out.b 9; have hz10_ : w'.cell? ⟨_, 10, none⟩ = some (.int .i64 0) := (blk_cell HZ.out.b 10).trans rfl; have hy10_ := blk_frozen HZ.out.b 10; have hzl_ := blk_lt HZ.out.b) | (go_at_call 16; (try go_split_ands); with_reducible refine (OX.turn (OX.drew hcw) hL 4 (by decide)).mono ?_; rintro e w' ⟨ta, rfl, hta, hta', hcw⟩) | (go_at_call 16; (try go_split_ands); with_reducible refine (OX.turn hcw hL 4 (by decide)).mono ?_; rintro e w' ⟨ta, rfl, hta, hta', hcw⟩) | (go_at_call 16; (try go_split_ands); with_reducible refine (OX.turnA hcw hL 20 (by decide)).mono ?_; rintro e w' ⟨tb, rfl, htb, htb', hcw, hz⟩; have HZ := Aside0.mk hz; clear hz; (try clear hz0_ hy0_ hz1_ hy1_ hz2_ hy2_ hz3_ hy3_ hz4_ hy4_ hz5_ hy5_ hz6_ hy6_ hz7_ hy7_ hz8_ hy8_ hz9_ hy9_ hz10_ hy10_ hzl_); have hz0_ : w'.cell? ⟨_, 0, none⟩ = some (.int .i64 0) := (blk_cell HZ.out.b 0).trans rfl; have hy0_ := blk_frozen HZ.out.b 0; have hz1_ : w'.cell? ⟨_, 1, none⟩ = some (.int .i64 0) := (blk_cell HZ.out.b 1).trans rfl; have hy1_ := blk_frozen HZ.out.b 1; have hz2_ : w'.cell? ⟨_, 2, none⟩ = some (.int .i64 0) := (blk_cell HZ.out.b 2).trans rfl; have hy2_ := blk_frozen HZ.out.b 2; have hz3_ : w'.cell? ⟨_, 3, none⟩ = some (.int .i64 0) := (blk_cell HZ.out.b 3).trans rfl; have hy3_ := blk_frozen HZ.out.b 3; have hz4_ : w'.cell? ⟨_, 4, none⟩ = some (.int .i64 0) := (blk_cell HZ.out.b 4).trans rfl; have hy4_ := blk_frozen HZ.out.b 4; have hz5_ : w'.cell? ⟨_, 5, none⟩ = some (.int .i64 0) := (blk_cell HZ.out.b 5).trans rfl; have hy5_ := blk_frozen HZ.out.b 5; have hz6_ : w'.cell? ⟨_, 6, none⟩ = some (.int .i64 0) := (blk_cell HZ.out.b 6).trans rfl; have hy6_ := blk_frozen HZ.out.b 6; have hz7_ : w'.cell? ⟨_, 7, none⟩ = some (.int .i64 0) := (blk_cell HZ.out.b 7).trans rfl; have hy7_ := blk_frozen HZ.out.b 7; have hz8_ : w'.cell? ⟨_, 8, none⟩ = some (.int .i64 0) := (blk_cell HZ.out.b 8).trans rfl; have hy8_ := blk_frozen HZ.out.b 8; have hz9_ : w'.cell? ⟨_, 9, none⟩ = some (.int .i64 0) := (blk_cell HZ.out.b 9).trans rfl; have hy9_ := blk_frozen HZ.out.b 9; have hz10_ : w'.cell? ⟨_, 10, none⟩ = some (.int .i64 0) := (blk_cell HZ.out.b 10).trans rfl; have hy10_ := blk_frozen HZ.out.b 10; have hzl_ := blk_lt HZ.out.b) | (go_at_call 16; (try go_split_ands); with_reducible refine (OX.turnZ hcw HZ.out hL 20 (by decide)).mono ?_; rintro e w' ⟨tb, rfl, htb, htb', hcw, hz⟩; clear HZ; have HZ := Aside0.mk hz; clear hz; (try clear hz0_ hy0_ hz1_ hy1_ hz2_ hy2_ hz3_ hy3_ hz4_ hy4_ hz5_ hy5_ hz6_ hy6_ hz7_ hy7_ hz8_ hy8_ hz9_ hy9_ hz10_ hy10_ hzl_); have hz0_ : w'.cell? ⟨_, 0, none⟩ = some (.int .i64 0) := (blk_cell HZ.out.b 0).trans rfl; have hy0_ := blk_frozen HZ.out.b 0; have hz1_ : w'.cell? ⟨_, 1, none⟩ = some (.int .i64 0) := (blk_cell HZ.out.b 1).trans rfl; have hy1_ := blk_frozen HZ.out.b 1; have hz2_ : w'.cell? ⟨_, 2, none⟩ = some (.int .i64 0) := (blk_cell HZ.out.b 2).trans rfl; have hy2_ := blk_frozen HZ.out.b 2; have hz3_ : w'.cell? ⟨_, 3, none⟩ = some (.int .i64 0) := (blk_cell HZ.out.b 3).trans rfl; have hy3_ := blk_frozen HZ.out.b 3; have hz4_ : w'.cell? ⟨_, 4, none⟩ = some (.int .i64 0) := (blk_cell HZ.out.b 4).trans rfl; have hy4_ := blk_frozen HZ.out.b 4; have hz5_ : w'.cell? ⟨_, 5, none⟩ = some (.int .i64 0) := (blk_cell HZ.out.b 5).trans rfl; have hy5_ := blk_frozen HZ.out.b 5; have hz6_ : w'.cell? ⟨_, 6, none⟩ = some (.int .i64 0) := (blk_cell HZ.out.b 6).trans rfl; have hy6_ := blk_frozen HZ.out.b 6; have hz7_ : w'.cell? ⟨_, 7, none⟩ = some (.int .i64 0) := (blk_cell HZ.out.b 7).trans rfl; have hy7_ := blk_frozen HZ.out.b 7; have hz8_ : w'.cell? ⟨_, 8, none⟩ = some (.int .i64 0) := (blk_cell HZ.out.b 8).trans rfl; have hy8_ := blk_frozen HZ.out.b 8; have hz9_ : w'.cell? ⟨_, 9, none⟩ = some (.int .i64 0) := (blk_cell HZ.out.b 9).trans rfl; have hy9_ := blk_frozen HZ.out.b 9; have hz10_ : w'.cell? ⟨_, 10, none⟩ = some (.int .i64 0) := (blk_cell HZ.out.b 10).trans rfl; have hy10_ := blk_frozen HZ.out.b 10; have hzl_ := blk_lt HZ.out.b) | (go_at_call 16; (try go_split_ands); with_reducible refine (OX.turnZ (OX.drew (OX.alloc hcw _)) (OZ.below (OX.made hcw #[.int .i64 0, .int .i64 0, .int .i64 0, .int .i64 0, .int .i64 0, .int .i64 0, .int .i64 0, .int .i64 0, .int .i64 0, .int .i64 0, .int .i64 0]) (below_drew1 (Below.refl _ _))) hL 20 (by decide)).mono ?_; rintro e w' ⟨tb, rfl, htb, htb', hcw, hz⟩; have HZ := Aside0.mk hz; clear hz; (try clear hz0_ hy0_ hz1_ hy1_ hz2_ hy2_ hz3_ hy3_ hz4_ hy4_ hz5_ hy5_ hz6_ hy6_ hz7_ hy7_ hz8_ hy8_ hz9_ hy9_ hz10_ hy10_ hzl_); have hz0_ : w'.cell? ⟨_, 0, none⟩ = some (.int .i64 0) := (blk_cell HZ.out.b 0).trans rfl; have hy0_ := blk_frozen HZ.out.b 0; have hz1_ : w'.cell? ⟨_, 1, none⟩ = some (.int .i64 0) := (blk_cell HZ.out.b 1).trans rfl; have hy1_ := blk_frozen HZ.out.b 1; have hz2_ : w'.cell? ⟨_, 2, none⟩ = some (.int .i64 0) := (blk_cell HZ.out.b 2).trans rfl; have hy2_ := blk_frozen HZ.out.b 2; have hz3_ : w'.cell? ⟨_, 3, none⟩ = some (.int .i64 0) := (blk_cell HZ.out.b 3).trans rfl; have hy3_ := blk_frozen HZ.out.b 3; have hz4_ : w'.cell? ⟨_, 4, none⟩ = some (.int .i64 0) := (blk_cell HZ.out.b 4).trans rfl; have hy4_ := blk_frozen HZ.out.b 4; have hz5_ : w'.cell? ⟨_, 5, none⟩ = some (.int .i64 0) := (blk_cell HZ.out.b 5).trans rfl; have hy5_ := blk_frozen HZ.out.b 5; have hz6_ : w'.cell? ⟨_, 6, none⟩ = some (.int .i64 0) := (blk_cell HZ.out.b 6).trans rfl; have hy6_ := blk_frozen HZ.out.b 6; have hz7_ : w'.cell? ⟨_, 7, none⟩ = some (.int .i64 0) := (blk_cell HZ.out.b 7).trans rfl; have hy7_ := blk_frozen HZ.out.b 7; have hz8_ : w'.cell? ⟨_, 8, none⟩ = some (.int .i64 0) := (blk_cell HZ.out.b 8).trans rfl; have hy8_ := blk_frozen HZ.out.b 8; have hz9_ : w'.cell? ⟨_, 9, none⟩ = some (.int .i64 0) := (blk_cell HZ.out.b 9).trans rfl; have hy9_ := blk_frozen HZ.out.b 9; have hz10_ : w'.cell? ⟨_, 10, none⟩ = some (.int .i64 0) := (blk_cell HZ.out.b 10).trans rfl; have hy10_ := blk_frozen HZ.out.b 10; have hzl_ := blk_lt HZ.out.b) | (go_at_call 16; (try go_split_ands); with_reducible refine (OX.turn (OX.drew hcw) hL 20 (by decide)).mono ?_; rintro e w' ⟨tb, rfl, htb, htb', hcw⟩) | (go_at_call 16; (try go_split_ands); with_reducible refine (OX.turn hcw hL 20 (by decide)).mono ?_; rintro e w' ⟨tb, rfl, htb, htb', hcw⟩) | (go_at_call 16; (try go_split_ands); with_reducible refine (OX.turnA hcw hL 8 (by decide)).mono ?_; rintro e w' ⟨tc, rfl, htc, htc', hcw, hz⟩; have HZ := Aside0.mk hz; clear hz; (try clear hz0_ hy0_ hz1_ hy1_ hz2_ hy2_ hz3_ hy3_ hz4_ hy4_ hz5_ hy5_ hz6_ hy6_ hz7_ hy7_ hz8_ hy8_ hz9_ hy9_ hz10_ hy10_ hzl_); have hz0_ : w'.cell? ⟨_, 0, none⟩ = some (.int .i64 0) := (blk_cell HZ.out.b 0).trans rfl; have hy0_ := blk_frozen HZ.out.b 0; have hz1_ : w'.cell? ⟨_, 1, none⟩ = some (.int .i64 0) := (blk_cell HZ.out.b 1).trans rfl; have hy1_ := blk_frozen HZ.out.b 1; have hz2_ : w'.cell? ⟨_, 2, none⟩ = some (.int .i64 0) := (blk_cell HZ.out.b 2).trans rfl; have hy2_ := blk_frozen HZ.out.b 2; have hz3_ : w'.cell? ⟨_, 3, none⟩ = some (.int .i64 0) := (blk_cell HZ.out.b 3).trans rfl; have hy3_ := blk_frozen HZ.out.b 3; have hz4_ : w'.cell? ⟨_, 4, none⟩ = some (.int .i64 0) := (blk_cell HZ.out.b 4).trans rfl; have hy4_ := blk_frozen HZ.out.b 4; have hz5_ : w'.cell? ⟨_, 5, none⟩ = some (.int .i64 0) := (blk_cell HZ.out.b 5).trans rfl; have hy5_ := blk_frozen HZ.out.b 5; have hz6_ : w'.cell? ⟨_, 6, none⟩ = some (.int .i64 0) := (blk_cell HZ.out.b 6).trans rfl; have hy6_ := blk_frozen HZ.out.b 6; have hz7_ : w'.cell? ⟨_, 7, none⟩ = some (.int .i64 0) := (blk_cell HZ.out.b 7).trans rfl; have hy7_ := blk_frozen HZ.out.b 7; have hz8_ : w'.cell? ⟨_, 8, none⟩ = some (.int .i64 0) := (blk_cell HZ.out.b 8).trans rfl; have hy8_ := blk_frozen HZ.out.b 8; have hz9_ : w'.cell? ⟨_, 9, none⟩ = some (.int .i64 0) := (blk_cell HZ.out.b 9).trans rfl; have hy9_ := blk_frozen HZ.out.b 9; have hz10_ : w'.cell? ⟨_, 10, none⟩ = some (.int .i64 0) := (blk_cell HZ.out.b 10).trans rfl; have hy10_ := blk_frozen HZ.out.b 10; have hzl_ := blk_lt HZ.out.b) | (go_at_call 16; (try go_split_ands); with_reducible refine (OX.turnZ hcw HZ.out hL 8 (by decide)).mono ?_; rintro e w' ⟨tc, rfl, htc, htc', hcw, hz⟩; clear HZ; have HZ := Aside0.mk hz; clear hz; (try clear hz0_ hy0_ hz1_ hy1_ hz2_ hy2_ hz3_ hy3_ hz4_ hy4_ hz5_ hy5_ hz6_ hy6_ hz7_ hy7_ hz8_ hy8_ hz9_ hy9_ hz10_ hy10_ hzl_); have hz0_ : w'.cell? ⟨_, 0, none⟩ = some (.int .i64 0) := (blk_cell HZ.out.b 0).trans rfl; have hy0_ := blk_frozen HZ.out.b 0; have hz1_ : w'.cell? ⟨_, 1, none⟩ = some (.int .i64 0) := (blk_cell HZ.out.b 1).trans rfl; have hy1_ := blk_frozen HZ.out.b 1; have hz2_ : w'.cell? ⟨_, 2, none⟩ = some (.int .i64 0) := (blk_cell HZ.out.b 2).trans rfl; have hy2_ := blk_frozen HZ.out.b 2; have hz3_ : w'.cell? ⟨_, 3, none⟩ = some (.int .i64 0) := (blk_cell HZ.out.b 3).trans rfl; have hy3_ := blk_frozen HZ.out.b 3; have hz4_ : w'.cell? ⟨_, 4, none⟩ = some (.int .i64 0) := (blk_cell HZ.out.b 4).trans rfl; have hy4_ := blk_frozen HZ.out.b 4; have hz5_ : w'.cell? ⟨_, 5, none⟩ = some (.int .i64 0) := (blk_cell HZ.out.b 5).trans rfl; have hy5_ := blk_frozen HZ.out.b 5; have hz6_ : w'.cell? ⟨_, 6, none⟩ = some (.int .i64 0) := (blk_cell HZ.out.b 6).trans rfl; have hy6_ := blk_frozen HZ.out.b 6; have hz7_ : w'.cell? ⟨_, 7, none⟩ = some (.int .i64 0) := (blk_cell HZ.out.b 7).trans rfl; have hy7_ := blk_frozen HZ.out.b 7; have hz8_ : w'.cell? ⟨_, 8, none⟩ = some (.int .i64 0) := (blk_cell HZ.out.b 8).trans rfl; have hy8_ := blk_frozen HZ.out.b 8; have hz9_ : w'.cell? ⟨_, 9, none⟩ = some (.int .i64 0) := (blk_cell HZ.out.b 9).trans rfl; have hy9_ := blk_frozen HZ.out.b 9; have hz10_ : w'.cell? ⟨_, 10, none⟩ = some (.int .i64 0) := (blk_cell HZ.out.b 10).trans rfl; have hy10_ := blk_frozen HZ.out.b 10; have hzl_ := blk_lt HZ.out.b) | (go_at_call 16; (try go_split_ands); with_reducible refine (OX.turnZ (OX.drew (OX.alloc hcw _)) (OZ.below (OX.made hcw #[.int .i64 0, .int .i64 0, .int .i64 0, .int .i64 0, .int .i64 0, .int .i64 0, .int .i64 0, .int .i64 0, .int .i64 0, .int .i64 0, .int .i64 0]) (below_drew1 (Below.refl _ _))) hL 8 (by decide)).mono ?_; rintro e w' ⟨tc, rfl, htc, htc', hcw, hz⟩; have HZ := Aside0.mk hz; clear hz; (try clear hz0_ hy0_ hz1_ hy1_ hz2_ hy2_ hz3_ hy3_ hz4_ hy4_ hz5_ hy5_ hz6_ hy6_ hz7_ hy7_ hz8_ hy8_ hz9_ hy9_ hz10_ hy10_ hzl_); have hz0_ : w'.cell? ⟨_, 0, none⟩ = some (.int .i64 0) := (blk_cell HZ.out.b 0).trans rfl; have hy0_ := blk_frozen HZ.out.b 0; have hz1_ : w'.cell? ⟨_, 1, none⟩ = some (.int .i64 0) := (blk_cell HZ.out.b 1).trans rfl; have hy1_ := blk_frozen HZ.out.b 1; have hz2_ : w'.cell? ⟨_, 2, none⟩ = some (.int .i64 0) := (blk_cell HZ.out.b 2).trans rfl; have hy2_ := blk_frozen HZ.out.b 2; have hz3_ : w'.cell? ⟨_, 3, none⟩ = some (.int .i64 0) := (blk_cell HZ.out.b 3).trans rfl; have hy3_ := blk_frozen HZ.out.b 3; have hz4_ : w'.cell? ⟨_, 4, none⟩ = some (.int .i64 0) := (blk_cell HZ.out.b 4).trans rfl; have hy4_ := blk_frozen HZ.out.b 4; have hz5_ : w'.cell? ⟨_, 5, none⟩ = some (.int .i64 0) := (blk_cell HZ.out.b 5).trans rfl; have hy5_ := blk_frozen HZ.out.b 5; have hz6_ : w'.cell? ⟨_, 6, none⟩ = some (.int .i64 0) := (blk_cell HZ.out.b 6).trans rfl; have hy6_ := blk_frozen HZ.out.b 6; have hz7_ : w'.cell? ⟨_, 7, none⟩ = some (.int .i64 0) := (blk_cell HZ.out.b 7).trans rfl; have hy7_ := blk_frozen HZ.out.b 7; have hz8_ : w'.cell? ⟨_, 8, none⟩ = some (.int .i64 0) := (blk_cell HZ.out.b 8).trans rfl; have hy8_ := blk_frozen HZ.out.b 8; have hz9_ : w'.cell? ⟨_, 9, none⟩ = some (.int .i64 0) := (blk_cell HZ.out.b 9).trans rfl; have hy9_ := blk_frozen HZ.out.b 9; have hz10_ : w'.cell? ⟨_, 10, none⟩ = some (.int .i64 0) := (blk_cell HZ.out.b 10).trans rfl; have hy10_ := blk_frozen HZ.out.b 10; have hzl_ := blk_lt HZ.out.b) | (go_at_call 16; (try go_split_ands); with_reducible refine (OX.turn (OX.drew hcw) hL 8 (by decide)).mono ?_; rintro e w' ⟨tc, rfl, htc, htc', hcw⟩) | (go_at_call 16; (try go_split_ands); with_reducible refine (OX.turn hcw hL 8 (by decide)).mono ?_; rintro e w' ⟨tc, rfl, htc, htc', hcw⟩) | (go_at_call 16; (try go_split_ands); with_reducible refine (OX.turnA hcw hL 6 (by decide)).mono ?_; rintro e w' ⟨td, rfl, htd, htd', hcw, hz⟩; have HZ := Aside0.mk hz; clear hz; (try clear hz0_ hy0_ hz1_ hy1_ hz2_ hy2_ hz3_ hy3_ hz4_ hy4_ hz5_ hy5_ hz6_ hy6_ hz7_ hy7_ hz8_ hy8_ hz9_ hy9_ hz10_ hy10_ hzl_); have hz0_ : w'.cell? ⟨_, 0, none⟩ = some (.int .i64 0) := (blk_cell HZ.out.b 0).trans rfl; have hy0_ := blk_frozen HZ.out.b 0; have hz1_ : w'.cell? ⟨_, 1, none⟩ = some (.int .i64 0) := (blk_cell HZ.out.b 1).trans rfl; have hy1_ := blk_frozen HZ.out.b 1; have hz2_ : w'.cell? ⟨_, 2, none⟩ = some (.int .i64 0) := (blk_cell HZ.out.b 2).trans rfl; have hy2_ := blk_frozen HZ.out.b 2; have hz3_ : w'.cell? ⟨_, 3, none⟩ = some (.int .i64 0) := (blk_cell HZ.out.b 3).trans rfl; have hy3_ := blk_frozen HZ.out.b 3; have hz4_ : w'.cell? ⟨_, 4, none⟩ = some (.int .i64 0) := (blk_cell HZ.out.b 4).trans rfl; have hy4_ := blk_frozen HZ.out.b 4; have hz5_ : w'.cell? ⟨_, 5, none⟩ = some (.int .i64 0) := (blk_cell HZ.out.b 5).trans rfl; have hy5_ := blk_frozen HZ.out.b 5; have hz6_ : w'.cell? ⟨_, 6, none⟩ = some (.int .i64 0) := (blk_cell HZ.out.b 6).trans rfl; have hy6_ := blk_frozen HZ.out.b 6; have hz7_ : w'.cell? ⟨_, 7, none⟩ = some (.int .i64 0) := (blk_cell HZ.out.b 7).trans rfl; have hy7_ := blk_frozen HZ.out.b 7; have hz8_ : w'.cell? ⟨_, 8, none⟩ = some (.int .i64 0) := (blk_cell HZ.out.b 8).trans rfl; have hy8_ := blk_frozen HZ.out.b 8; have hz9_ : w'.cell? ⟨_, 9, none⟩ = some (.int .i64 0) := (blk_cell HZ.out.b 9).trans rfl; have hy9_ := blk_frozen HZ.out.b 9; have hz10_ : w'.cell? ⟨_, 10, none⟩ = some (.int .i64 0) := (blk_cell HZ.out.b 10).trans rfl; have hy10_ := blk_frozen HZ.out.b 10; have hzl_ := blk_lt HZ.out.b) | (go_at_call 16; (try go_split_ands); with_reducible refine (OX.turnZ hcw HZ.out hL 6 (by decide)).mono ?_; rintro e w' ⟨td, rfl, htd, htd', hcw, hz⟩; clear HZ; have HZ := Aside0.mk hz; clear hz; (try clear hz0_ hy0_ hz1_ hy1_ hz2_ hy2_ hz3_ hy3_ hz4_ hy4_ hz5_ hy5_ hz6_ hy6_ hz7_ hy7_ hz8_ hy8_ hz9_ hy9_ hz10_ hy10_ hzl_); have hz0_ : w'.cell? ⟨_, 0, none⟩ = some (.int .i64 0) := (blk_cell HZ.out.b 0).trans rfl; have hy0_ := blk_frozen HZ.out.b 0; have hz1_ : w'.cell? ⟨_, 1, none⟩ = some (.int .i64 0) := (blk_cell HZ.out.b 1).trans rfl; have hy1_ := blk_frozen HZ.out.b 1; have hz2_ : w'.cell? ⟨_, 2, none⟩ = some (.int .i64 0) := (blk_cell HZ.out.b 2).trans rfl; have hy2_ := blk_frozen HZ.out.b 2; have hz3_ : w'.cell? ⟨_, 3, none⟩ = some (.int .i64 0) := (blk_cell HZ.out.b 3).trans rfl; have hy3_ := blk_frozen HZ.out.b 3; have hz4_ : w'.cell? ⟨_, 4, none⟩ = some (.int .i64 0) := (blk_cell HZ.out.b 4).trans rfl; have hy4_ := blk_frozen HZ.out.b 4; have hz5_ : w'.cell? ⟨_, 5, none⟩ = some (.int .i64 0) := (blk_cell HZ.out.b 5).trans rfl; have hy5_ := blk_frozen HZ.out.b 5; have hz6_ : w'.cell? ⟨_, 6, none⟩ = some (.int .i64 0) := (blk_cell HZ.out.b 6).trans rfl; have hy6_ := blk_frozen HZ.out.b 6; have hz7_ : w'.cell? ⟨_, 7, none⟩ = some (.int .i64 0) := (blk_cell HZ.out.b 7).trans rfl; have hy7_ := blk_frozen HZ.out.b 7; have hz8_ : w'.cell? ⟨_, 8, none⟩ = some (.int .i64 0) := (blk_cell HZ.out.b 8).trans rfl; have hy8_ := blk_frozen HZ.out.b 8; have hz9_ : w'.cell? ⟨_, 9, none⟩ = some (.int .i64 0) := (blk_cell HZ.out.b 9).trans rfl; have hy9_ := blk_frozen HZ.out.b 9; have hz10_ : w'.cell? ⟨_, 10, none⟩ = some (.int .i64 0) := (blk_cell HZ.out.b 10).trans rfl; have hy10_ := blk_frozen HZ.out.b 10; have hzl_ := blk_lt HZ.out.b) | (go_at_call 16; (try go_split_ands); with_reducible refine (OX.turnZ (OX.drew (OX.alloc hcw _)) (OZ.below (OX.made hcw #[.int .i64 0, .int .i64 0, .int .i64 0, .int .i64 0, .int .i64 0, .int .i64 0, .int .i64 0, .int .i64 0, .int .i64 0, .int .i64 0, .int .i64 0]) (below_drew1 (Below.refl _ _))) hL 6 (by decide)).mono ?_; rintro e w' ⟨td, rfl, htd, htd', hcw, hz⟩; have HZ := Aside0.mk hz; clear hz; (try clear hz0_ hy0_ hz1_ hy1_ hz2_ hy2_ hz3_ hy3_ hz4_ hy4_ hz5_ hy5_ hz6_ hy6_ hz7_ hy7_ hz8_ hy8_ hz9_ hy9_ hz10_ hy10_ hzl_); have hz0_ : w'.cell? ⟨_, 0, none⟩ = some (.int .i64 0) := (blk_cell HZ.out.b 0).trans rfl; have hy0_ := blk_frozen HZ.out.b 0; have hz1_ : w'.cell? ⟨_, 1, none⟩ = some (.int .i64 0) := (blk_cell HZ.out.b 1).trans rfl; have hy1_ := blk_frozen HZ.out.b 1; have hz2_ : w'.cell? ⟨_, 2, none⟩ = some (.int .i64 0) := (blk_cell HZ.out.b 2).trans rfl; have hy2_ := blk_frozen HZ.out.b 2; have hz3_ : w'.cell? ⟨_, 3, none⟩ = some (.int .i64 0) := (blk_cell HZ.out.b 3).trans rfl; have hy3_ := blk_frozen HZ.out.b 3; have hz4_ : w'.cell? ⟨_, 4, none⟩ = some (.int .i64 0) := (blk_cell HZ.out.b 4).trans rfl; have hy4_ := blk_frozen HZ.out.b 4; have hz5_ : w'.cell? ⟨_, 5, none⟩ = some (.int .i64 0) := (blk_cell HZ.out.b 5).trans rfl; have hy5_ := blk_frozen HZ.out.b 5; have hz6_ : w'.cell? ⟨_, 6, none⟩ = some (.int .i64 0) := (blk_cell HZ.out.b 6).trans rfl; have hy6_ := blk_frozen HZ.out.b 6; have hz7_ : w'.cell? ⟨_, 7, none⟩ = some (.int .i64 0) := (blk_cell HZ.out.b 7).trans rfl; have hy7_ := blk_frozen HZ.out.b 7; have hz8_ : w'.cell? ⟨_, 8, none⟩ = some (.int .i64 0) := (blk_cell HZ.out.b 8).trans rfl; have hy8_ := blk_frozen HZ.out.b 8; have hz9_ : w'.cell? ⟨_, 9, none⟩ = some (.int .i64 0) := (blk_cell HZ.out.b 9).trans rfl; have hy9_ := blk_frozen HZ.out.b 9; have hz10_ : w'.cell? ⟨_, 10, none⟩ = some (.int .i64 0) := (blk_cell HZ.out.b 10).trans rfl; have hy10_ := blk_frozen HZ.out.b 10; have hzl_ := blk_lt HZ.out.b) | (go_at_call 16; (try go_split_ands); with_reducible refine (OX.turn (OX.drew hcw) hL 6 (by decide)).mono ?_; rintro e w' ⟨td, rfl, htd, htd', hcw⟩) | (go_at_call 16; (try go_split_ands); with_reducible refine (OX.turn hcw hL 6 (by decide)).mono ?_; rintro e w' ⟨td, rfl, htd, htd', hcw⟩))
    all_goals (go_wp2_with fail)
    all_goals go_meet
    all_goals (with_reducible first | refine ⟨_, _, _, _, _, _, _, rfl, ?_, ?_, ?_, ?_, ?_, ?_, ⟨OX.alloc hcw _⟩, ⟨OX.made hcw _⟩⟩ | refine ⟨_, _, _, _, _, _, _, rfl, ?_, ?_, ?_, ?_, ?_, ?_, ⟨OX.far11 hcw HZ.out _ _ _ _ _ _ _ _ _ _ _⟩, ⟨OZ.put11 HZ.out _ _ _ _ _ _ _ _ _ _ _⟩⟩)
    all_goals (first | omega | (rw [IntWalk.i64_in _ (by omega)]; omega))
  case rest =>
    obtain ⟨gz, s2, s4, s5, s6, s7_, s8, rfl, q2, q4, q5, q6, q7, q8, HX, HZ⟩ := hcut
    have hcw := HX.out
    have hz0_ : wc.cell? ⟨gz, 0, none⟩ = some (.int .i64 p0) := (blk_cell HZ.out.b 0).trans rfl
    have hz1_ : wc.cell? ⟨gz, 1, none⟩ = some (.int .i64 to_) := (blk_cell HZ.out.b 1).trans rfl
    have hz2_ : wc.cell? ⟨gz, 2, none⟩ = some (.int .i64 s2) := (blk_cell HZ.out.b 2).trans rfl
    have hz3_ : wc.cell? ⟨gz, 3, none⟩ = some (.int .i64 0) := (blk_cell HZ.out.b 3).trans rfl
    have hz4_ : wc.cell? ⟨gz, 4, none⟩ = some (.int .i64 s4) := (blk_cell HZ.out.b 4).trans rfl
    have hz5_ : wc.cell? ⟨gz, 5, none⟩ = some (.int .i64 s5) := (blk_cell HZ.out.b 5).trans rfl
    have hz6_ : wc.cell? ⟨gz, 6, none⟩ = some (.int .i64 s6) := (blk_cell HZ.out.b 6).trans rfl
    have hz7_ : wc.cell? ⟨gz, 7, none⟩ = some (.int .i64 s7_) := (blk_cell HZ.out.b 7).trans rfl
    have hz8_ : wc.cell? ⟨gz, 8, none⟩ = some (.int .i64 s8) := (blk_cell HZ.out.b 8).trans rfl
    have hz9_ : wc.cell? ⟨gz, 9, none⟩ = some (.int .i64 0) := (blk_cell HZ.out.b 9).trans rfl
    have hz10_ : wc.cell? ⟨gz, 10, none⟩ = some (.int .i64 0) := (blk_cell HZ.out.b 10).trans rfl
    have hzl_ := blk_lt HZ.out.b
    have hy3_ := blk_frozen HZ.out.b 3
    go_upto_if 29 with fail
    go_cut [] (fun wx => ∃ s3 : Int, (0 ≤ s3 ∧ s3 ≤ 4) ∧ Aside0 (OX w w1 wx gd L gp g6 p0 p1) ∧ Aside0 (OZ w1 wx g6 gz #[.int .i64 p0, .int .i64 to_, .int .i64 s2, .int .i64 s3, .int .i64 s4, .int .i64 s5, .int .i64 s6, .int .i64 s7_, .int .i64 s8, .int .i64 0, .int .i64 0]))
    case first =>
      by_cases hn : 1 < s2
      · have hn1 : decide (1 < s2) = true := decide_eq_true hn
        go_wp2_with (first | (go_at_call 16; with_reducible refine (OX.turnZ hcw HZ.out hL 5 (by decide)).mono ?_; rintro e w' ⟨t, rfl, ht, ht', hcw, hz⟩; clear HZ; have HZ := Aside0.mk hz; clear hz; have hzl_ := blk_lt HZ.out.b; have hy3_ := blk_frozen HZ.out.b 3; have hz3_ : w'.cell? ⟨gz, 3, none⟩ = some _ := (blk_cell HZ.out.b 3).trans rfl))
        go_meet
        exact ⟨t, ⟨ht, by omega⟩, ⟨OX.far hcw HZ.out 3 _⟩, ⟨OZ.set HZ.out 3 _⟩⟩
      · have hn1 : decide (1 < s2) = false := decide_eq_false hn
        go_wp2
        go_meet
        exact ⟨0, by omega, HX, HZ⟩
    case rest =>
    clear hz0_ hz1_ hz2_ hz3_ hz4_ hz5_ hz6_ hz7_ hz8_ hz9_ hz10_ hzl_ hy3_ hcw HX HZ
    obtain ⟨s3, q3, HX, HZ⟩ := hcut
    have hcw := HX.out
    have hz0_ : wc.cell? ⟨gz, 0, none⟩ = some (.int .i64 p0) := (blk_cell HZ.out.b 0).trans rfl
    have hz1_ : wc.cell? ⟨gz, 1, none⟩ = some (.int .i64 to_) := (blk_cell HZ.out.b 1).trans rfl
    have hz2_ : wc.cell? ⟨gz, 2, none⟩ = some (.int .i64 s2) := (blk_cell HZ.out.b 2).trans rfl
    have hz3_ : wc.cell? ⟨gz, 3, none⟩ = some (.int .i64 s3) := (blk_cell HZ.out.b 3).trans rfl
    have hz4_ : wc.cell? ⟨gz, 4, none⟩ = some (.int .i64 s4) := (blk_cell HZ.out.b 4).trans rfl
    have hz5_ : wc.cell? ⟨gz, 5, none⟩ = some (.int .i64 s5) := (blk_cell HZ.out.b 5).trans rfl
    have hz6_ : wc.cell? ⟨gz, 6, none⟩ = some (.int .i64 s6) := (blk_cell HZ.out.b 6).trans rfl
    have hz7_ : wc.cell? ⟨gz, 7, none⟩ = some (.int .i64 s7_) := (blk_cell HZ.out.b 7).trans rfl
    have hz8_ : wc.cell? ⟨gz, 8, none⟩ = some (.int .i64 s8) := (blk_cell HZ.out.b 8).trans rfl
    have hz9_ : wc.cell? ⟨gz, 9, none⟩ = some (.int .i64 0) := (blk_cell HZ.out.b 9).trans rfl
    have hz10_ : wc.cell? ⟨gz, 10, none⟩ = some (.int .i64 0) := (blk_cell HZ.out.b 10).trans rfl
    have hzl_ := blk_lt HZ.out.b
    have hy7_ := blk_frozen HZ.out.b 7
    have hy8_ := blk_frozen HZ.out.b 8
    have hy9_ := blk_frozen HZ.out.b 9
    go_upto_block 0 with fail
    go_cut [] (fun wx => ∃ r7 r8 r9 : Int, (0 ≤ r7 ∧ r7 ≤ 5) ∧ (0 ≤ r8 ∧ r8 ≤ 4) ∧ (0 ≤ r9 ∧ r9 ≤ 40) ∧ Aside0 (OX w w1 wx gd L gp g6 p0 p1) ∧ Aside0 (OZ w1 wx g6 gz #[.int .i64 p0, .int .i64 to_, .int .i64 s2, .int .i64 s3, .int .i64 s4, .int .i64 s5, .int .i64 s6, .int .i64 r7, .int .i64 r8, .int .i64 r9, .int .i64 0]))
    case first =>
      obtain rfl | rfl | rfl | rfl | rfl | rfl | rfl | rfl : s5 = 1 ∨ s5 = 2 ∨ s5 = 3 ∨ s5 = 4 ∨ s5 = 5 ∨ s5 = 6 ∨ s5 = 7 ∨ s5 = 8 := by omega
      all_goals clear q5 hz5_
      all_goals have hz5_ : wc.cell? ⟨gz, 5, none⟩ = some _ := (blk_cell HZ.out.b 5).trans rfl
      rotate_left 2
      · go_wp2
        go_meet
        exact ⟨0, 0, 0, by omega, by omega, by omega, ⟨(hcw.far HZ.out 7 _).far (HZ.out.set 7 _) 8 _⟩, ⟨(HZ.out.set 7 _).set 8 _⟩⟩
      · go_wp2
        go_meet
        exact ⟨s7_, s8, 0, q7, by omega, by omega, HX, HZ⟩
      · go_wp2
        go_meet
        exact ⟨0, 0, 0, by omega, by omega, by omega, ⟨(hcw.far HZ.out 7 _).far (HZ.out.set 7 _) 8 _⟩, ⟨(HZ.out.set 7 _).set 8 _⟩⟩
      · go_wp2
        go_meet
        exact ⟨s7_, s8, 0, q7, by omega, by omega, HX, HZ⟩
      · go_wp2_with (first | (go_at_call 16; with_reducible refine (OX.turnZ hcw HZ.out hL 6 (by decide)).mono ?_; rintro e w' ⟨t, rfl, ht, ht', hcw, hz⟩; clear HZ; have HZ := Aside0.mk hz; clear hz; have hzl_ := blk_lt HZ.out.b; have hy9_ := blk_frozen HZ.out.b 9; have hz9_ : w'.cell? ⟨gz, 9, none⟩ = some _ := (blk_cell HZ.out.b 9).trans rfl))
        go_meet
        exact ⟨s7_, s8, 3 * t + 1, q7, by omega, by omega, ⟨hcw.far HZ.out 9 _⟩, ⟨HZ.out.set 9 _⟩⟩
      · go_wp2
        go_meet
        exact ⟨s7_, 0, 0, q7, by omega, by omega, ⟨hcw.far HZ.out 8 _⟩, ⟨HZ.out.set 8 _⟩⟩
      · go_upto_region 6 with fail
        have hd4_ : wc.drew.cell? ⟨gz, 4, none⟩ = some _ := hz4_
        go_region_with (first | (go_at_call 16; (try go_split_ands); with_reducible refine (OX.turnZ (OX.drew hcw) (OZ.below HZ.out (below_drew1 (Below.refl _ _))) hL 9 (by decide)).mono ?_; rintro e w' ⟨t, rfl, ht, ht', hcw, hz⟩; clear HZ; have HZ := Aside0.mk hz; clear hz; have hzl_ := blk_lt HZ.out.b; have hz4_ : w'.cell? ⟨gz, 4, none⟩ = some _ := (blk_cell HZ.out.b 4).trans rfl; have hz7_ : w'.cell? ⟨gz, 7, none⟩ = some _ := (blk_cell HZ.out.b 7).trans rfl; have hz8_ : w'.cell? ⟨gz, 8, none⟩ = some _ := (blk_cell HZ.out.b 8).trans rfl; have hz9_ : w'.cell? ⟨gz, 9, none⟩ = some _ := (blk_cell HZ.out.b 9).trans rfl; have hy7_ := blk_frozen HZ.out.b 7; have hy8_ := blk_frozen HZ.out.b 8; have hy9_ := blk_frozen HZ.out.b 9))
        all_goals (go_wp2_with fail)
        all_goals go_meet
        all_goals refine ⟨s7_, s8, _, by omega, by omega, ?_, ⟨hcw.far HZ.out 9 _⟩, ⟨HZ.out.set 9 _⟩⟩
        all_goals (first | omega | (rw [IntWalk.i64_in (s4 + 1) (by omega), IntWalk.i64_in _ (by omega)]; omega))
      · go_upto_region 8 with fail
        have hd4_ : wc.drew.cell? ⟨gz, 4, none⟩ = some _ := hz4_
        go_region_with (first | (go_at_call 16; (try go_split_ands); with_reducible refine (OX.turnZ (OX.drew hcw) (OZ.below HZ.out (below_drew1 (Below.refl _ _))) hL 9 (by decide)).mono ?_; rintro e w' ⟨t, rfl, ht, ht', hcw, hz⟩; clear HZ; have HZ := Aside0.mk hz; clear hz; have hzl_ := blk_lt HZ.out.b; have hz4_ : w'.cell? ⟨gz, 4, none⟩ = some _ := (blk_cell HZ.out.b 4).trans rfl; have hz7_ : w'.cell? ⟨gz, 7, none⟩ = some _ := (blk_cell HZ.out.b 7).trans rfl; have hz8_ : w'.cell? ⟨gz, 8, none⟩ = some _ := (blk_cell HZ.out.b 8).trans rfl; have hz9_ : w'.cell? ⟨gz, 9, none⟩ = some _ := (blk_cell HZ.out.b 9).trans rfl; have hy7_ := blk_frozen HZ.out.b 7; have hy8_ := blk_frozen HZ.out.b 8; have hy9_ := blk_frozen HZ.out.b 9))
        all_goals (go_wp2_with fail)
        all_goals go_meet
        all_goals refine ⟨0, 0, _, by omega, by omega, ?_, ⟨((hcw.far HZ.out 7 _).far (HZ.out.set 7 _) 8 _).far ((HZ.out.set 7 _).set 8 _) 9 _⟩, ⟨((HZ.out.set 7 _).set 8 _).set 9 _⟩⟩
        all_goals (first | omega | (rw [IntWalk.i64_in (s4 + 1) (by omega), IntWalk.i64_in _ (by omega)]; omega))
    case rest =>
    clear hz0_ hz1_ hz2_ hz3_ hz4_ hz5_ hz6_ hz7_ hz8_ hz9_ hz10_ hzl_ hy7_ hy8_ hy9_ hcw HX HZ
    obtain ⟨r7, r8, r9, t7, t8, t9, HX, HZ⟩ := hcut
    have hz0_ : wc.cell? ⟨gz, 0, none⟩ = some (.int .i64 p0) := (blk_cell HZ.out.b 0).trans rfl
    have hz1_ : wc.cell? ⟨gz, 1, none⟩ = some (.int .i64 to_) := (blk_cell HZ.out.b 1).trans rfl
    have hz2_ : wc.cell? ⟨gz, 2, none⟩ = some (.int .i64 s2) := (blk_cell HZ.out.b 2).trans rfl
    have hz3_ : wc.cell? ⟨gz, 3, none⟩ = some (.int .i64 s3) := (blk_cell HZ.out.b 3).trans rfl
    have hz4_ : wc.cell? ⟨gz, 4, none⟩ = some (.int .i64 s4) := (blk_cell HZ.out.b 4).trans rfl
    have hz5_ : wc.cell? ⟨gz, 5, none⟩ = some (.int .i64 s5) := (blk_cell HZ.out.b 5).trans rfl
    have hz6_ : wc.cell? ⟨gz, 6, none⟩ = some (.int .i64 s6) := (blk_cell HZ.out.b 6).trans rfl
    have hz7_ : wc.cell? ⟨gz, 7, none⟩ = some (.int .i64 r7) := (blk_cell HZ.out.b 7).trans rfl
    have hz8_ : wc.cell? ⟨gz, 8, none⟩ = some (.int .i64 r8) := (blk_cell HZ.out.b 8).trans rfl
    have hz9_ : wc.cell? ⟨gz, 9, none⟩ = some (.int .i64 r9) := (blk_cell HZ.out.b 9).trans rfl
    have hz10_ : wc.cell? ⟨gz, 10, none⟩ = some (.int .i64 0) := (blk_cell HZ.out.b 10).trans rfl
    have hzl_ := blk_lt HZ.out.b
    have hpl_ := blk_lt HX.out.pb
    have hpc0_ : wc.cell? ⟨gp, 0, none⟩ = some (.int .i64 p0) := (blk_cell HX.out.pb 0).trans rfl
    have hpc1_ : wc.cell? ⟨gp, 1, none⟩ = some (.int .i64 p1) := (blk_cell HX.out.pb 1).trans rfl
    have HW : Aside0 (W64 ⟨p0, to_, s2, s3, s4, s5, s6, r7, r8, r9, 0⟩) := ⟨⟨HI0.out, HI1.out, by show I64 s2; unfold I64; omega, by show I64 s3; unfold I64; omega, by show I64 s4; unfold I64; omega, by show I64 s5; unfold I64; omega, by show I64 s6; unfold I64; omega, by show I64 r7; unfold I64; omega, by show I64 r8; unfold I64; omega, by show I64 r9; unfold I64; omega, by show I64 0; unfold I64; omega⟩⟩
    have HM : Aside0 (storagebartermake_Sign.f 200 p0 to_ s2 s3 s4 s5 s6 r7 r8 r9 0 p0 p1 = some (p0, to_, s2, s3, s4, s5, s6, r7, r8, r9, mk_ p1 (bts ⟨p0, to_, s2, s3, s4, s5, s6, r7, r8, r9, 0⟩))) := ⟨mkSign_eq p0 p1 ⟨p0, to_, s2, s3, s4, s5, s6, r7, r8, r9, 0⟩ HW.out HPW.out 200 (by omega)⟩
    go_wp2_with (first | (go_at_call 17; with_reducible refine (storagebartermake_Sign.calls 200 p0 to_ s2 s3 s4 s5 s6 r7 r8 r9 0 p0 p1 p0 to_ s2 s3 s4 s5 s6 r7 r8 r9 (mk_ p1 (bts ⟨p0, to_, s2, s3, s4, s5, s6, r7, r8, r9, 0⟩)) _ HM.out).mono ?_; rintro e w' ⟨rfl, hb⟩; have n_ := Aside0.mk (OX.below HX.out hb); clear HX hb; have HX := n_; clear n_; have hql_ := blk_lt HX.out.rb; have hq0_ : w'.cell? ⟨g6, 0, none⟩ = some (.int .i64 0) := (blk_cell HX.out.rb 0).trans rfl; have hf0_ := blk_frozen HX.out.rb 0; have hq1_ : w'.cell? ⟨g6, 1, none⟩ = some (.int .i64 0) := (blk_cell HX.out.rb 1).trans rfl; have hf1_ := blk_frozen HX.out.rb 1; have hq2_ : w'.cell? ⟨g6, 2, none⟩ = some (.int .i64 0) := (blk_cell HX.out.rb 2).trans rfl; have hf2_ := blk_frozen HX.out.rb 2; have hq3_ : w'.cell? ⟨g6, 3, none⟩ = some (.int .i64 0) := (blk_cell HX.out.rb 3).trans rfl; have hf3_ := blk_frozen HX.out.rb 3; have hq4_ : w'.cell? ⟨g6, 4, none⟩ = some (.int .i64 0) := (blk_cell HX.out.rb 4).trans rfl; have hf4_ := blk_frozen HX.out.rb 4; have hq5_ : w'.cell? ⟨g6, 5, none⟩ = some (.int .i64 0) := (blk_cell HX.out.rb 5).trans rfl; have hf5_ := blk_frozen HX.out.rb 5; have hq6_ : w'.cell? ⟨g6, 6, none⟩ = some (.int .i64 0) := (blk_cell HX.out.rb 6).trans rfl; have hf6_ := blk_frozen HX.out.rb 6; have hq7_ : w'.cell? ⟨g6, 7, none⟩ = some (.int .i64 0) := (blk_cell HX.out.rb 7).trans rfl; have hf7_ := blk_frozen HX.out.rb 7; have hq8_ : w'.cell? ⟨g6, 8, none⟩ = some (.int .i64 0) := (blk_cell HX.out.rb 8).trans rfl; have hf8_ := blk_frozen HX.out.rb 8; have hq9_ : w'.cell? ⟨g6, 9, none⟩ = some (.int .i64 0) := (blk_cell HX.out.rb 9).trans rfl; have hf9_ := blk_frozen HX.out.rb 9; have hq10_ : w'.cell? ⟨g6, 10, none⟩ = some (.int .i64 0) := (blk_cell HX.out.rb 10).trans rfl; have hf10_ := blk_frozen HX.out.rb 10))
    refine bodyPost_ret (results_cell_row rfl _ _ g6 39 #[.int .i64 p0, .int .i64 to_, .int .i64 s2, .int .i64 s3, .int .i64 s4, .int .i64 s5, .int .i64 s6, .int .i64 r7, .int .i64 r8, .int .i64 r9, .int .i64 (mk_ p1 (bts ⟨p0, to_, s2, s3, s4, s5, s6, r7, r8, r9, 0⟩))] (0, 0) _ rfl (by (with_reducible exact Gnx.put11 _ _ _ _ _ _ _ _ _ _ _ _ _ _ _ _ _ _ _ _ _ _ HX.out.rb)) Tryd.underlying39 rfl (by kernel_rfl)) rfl ?_
    exact ⟨⟨p0, to_, s2, s3, s4, s5, s6, r7, r8, r9, mk_ p1 (bts ⟨p0, to_, s2, s3, s4, s5, s6, r7, r8, r9, 0⟩)⟩, ⟨rfl, rfl, q2, q3, q4, q5, q6, t7, t8, t9, congrArg (mk_ p1) (Ggd.bts_mark ⟨p0, to_, s2, s3, s4, s5, s6, r7, r8, r9, 0⟩ _).symm⟩, rfl, OX.out11 HX.out _ _ _ _ _ _ _ _ _ _ _⟩
end Go.Proofs.YtcalkhlchjjalaaDoor.God

namespace Go.Proofs.YtcalkhlchjjalaaDoor.Gdi
open Go Go.RowKit Go.Proofs.YtcalkhlchjjalaaDoor.Gm Go.Proofs.YtcalkhlchjjalaaDoor.Gdm
set_option linter.unusedVariables false
theorem dg_step {c d : Int} (b : Int) (hc : 0 ≤ c ∧ c < 2147483647) (hd : 0 ≤ d ∧ d < 2147483647) (h : (c * 1000003 + b + 1) % 2147483647 = (d * 1000003 + b + 1) % 2147483647) : c = d := by
  rw [Int.emod_eq_emod_iff_emod_sub_eq_zero] at h
  obtain ⟨z, hz⟩ := Int.dvd_of_emod_eq_zero h
  clear h
  have e : (c - d) * 1000003 = 2147483647 * z := by rw [← hz, Int.sub_mul]; omega
  have e2 : (c - d) * (1000003 * 1523789695) = 2147483647 * (z * 1523789695) := by rw [← Int.mul_assoc, e, Int.mul_assoc]
  rw [show (1000003 * 1523789695 : Int) = 1 + 2147483647 * 709572 by decide, Int.mul_add, Int.mul_one, Int.mul_left_comm] at e2
  generalize z * 1523789695 = x at e2
  generalize (c - d) * 709572 = y at e2
  clear e hz
  omega
theorem dg_inj : ∀ (l : List UInt8) {c d : Int}, 0 ≤ c ∧ c < 2147483647 → 0 ≤ d ∧ d < 2147483647 → dg c l = dg d l → c = d
  | [], _, _, _, _, h => h
  | b :: l, c, d, hc, hd, h => dg_step _ hc hd (dg_inj l (by omega) (by omega) h)
theorem dg_one (p l : List UInt8) (x y : UInt8) (d : Int) (hd : 0 ≤ d ∧ d < 2147483647) (h : dg d (p ++ x :: l) = dg d (p ++ y :: l)) : x = y := by
  rw [dg_append, dg_append] at h
  have hp := dg_range p d hd
  generalize dg d p = e at h hp
  simp only [dg] at h
  have hx := x.toNat_lt
  have hy := y.toNat_lt
  have := dg_inj l (by omega) (by omega) h
  exact UInt8.toNat_inj.1 (by omega)
end Go.Proofs.YtcalkhlchjjalaaDoor.Gdi

namespace Go.Proofs.YtcalkhlchjjalaaDoor.Gmk
open Go Go.RowKit Go.Proofs Go.Proofs.YtcalkhlchjjalaaDoor.Gm Go.Proofs.YtcalkhlchjjalaaDoor.Gdm Go.Proofs.YtcalkhlchjjalaaDoor.Gdi Go.Proofs.YtcalkhlchjjalaaDoor.Gmr Go.Proofs.YtcalkhlchjjalaaDoor.Gpp Go.Proofs.YtcalkhlchjjalaaDoor.Gsy Go.Proofs.YtcalkhlchjjalaaDoor.Gnx Go.Proofs.YtcalkhlchjjalaaDoor.Gck Go.Proofs.YtcalkhlchjjalaaDoor.Ggd Go.Proofs.YtcalkhlchjjalaaDoor.God Go.Proofs.YtcalkhlchjjalaaDoor.Q
set_option linter.unusedVariables false
theorem putI_small {n : Int} (h : 0 ≤ n ∧ n ≤ 60) : putI n = [UInt8.ofNat (2 * n).toNat] := by
  unfold putI zig
  rw [if_pos h.1, grp_last (by omega)]
theorem byte_small {n m : Int} (h : 0 ≤ n ∧ n ≤ 60) (h' : 0 ≤ m ∧ m ≤ 60) (e : UInt8.ofNat (2 * n).toNat = UInt8.ofNat (2 * m).toNat) : n = m := by
  have := congrArg UInt8.toNat e
  rw [u8_ofNat _ (by omega), u8_ofNat _ (by omega)] at this
  omega
/-- Two texts that differ in one number's byte. -/
theorem one_num (p q r : List UInt8) {n m : Int} (h : 0 ≤ n ∧ n ≤ 60) (h' : 0 ≤ m ∧ m ≤ 60) (hne : n ≠ m) : (q ++ (putI n ++ r)).length = (q ++ (putI m ++ r)).length ∧ dg 1 (p ++ (q ++ (putI n ++ r))) ≠ dg 1 (p ++ (q ++ (putI m ++ r))) := by
  rw [putI_small h, putI_small h']
  refine ⟨by simp, fun e => hne (byte_small h h' ?_)⟩
  rw [← List.append_assoc, ← List.append_assoc p q] at e
  exact dg_one (p ++ q) r _ _ 1 (by omega) e
def marked (s o : S39) (p1 : Int) : Prop := (bts s).length = (bts o).length ∧ mk_ p1 (bts s) ≠ mk_ p1 (bts o)
theorem vf_is {p0 p1 : Int} {d : List S25} (hd : Holds d p0 p1) (t : List UInt8) (m : Int) : vf d p0 t m = (m == mk_ p1 t) := by
  obtain ⟨hc, hf, hw⟩ := hd
  unfold vf
  rw [hf]
  simp only
  unfold sg
  rw [if_pos hw]
  rfl
/-- With a mark that is another one's it does not. -/
theorem ver_not {p0 p1 : Int} {d : List S25} (hd : Holds d p0 p1) (o : S39) (h0 : o.f0 = p0) (hm : o.f10 ≠ mk_ p1 (bts o)) : verS d o = false := by
  unfold verS
  rw [h0, vf_is hd, beq_eq_false_iff_ne.2 hm, Bool.and_false]
section
variable {p0 p1 to_ : Int} {s : S39} (h : OddS p0 p1 to_ s)
include h
theorem tick_marked (n : Int) (hn : 0 ≤ n ∧ n ≤ 60) (hne : s.f4 ≠ n) : marked s { s with f4 := n } p1 := by
  have e : ∀ x : Int, bts { s with f4 := x } = bl [s.f0, s.f1, s.f2, s.f3] ++ (putI x ++ bl [s.f5, s.f6, s.f7, s.f8, s.f9]) := fun x => by simp [bts, bl]
  have e1 := e s.f4
  have := one_num (putI p1) (bl [s.f0, s.f1, s.f2, s.f3]) (bl [s.f5, s.f6, s.f7, s.f8, s.f9]) (by have := h.b4; omega) hn hne
  unfold marked mk_
  rw [show bts s = _ from e s.f4, e n]
  exact this
theorem a_marked (n : Int) (hn : 0 ≤ n ∧ n ≤ 60) (hne : s.f6 ≠ n) : marked s { s with f6 := n } p1 := by
  have e : ∀ x : Int, bts { s with f6 := x } = bl [s.f0, s.f1, s.f2, s.f3, s.f4, s.f5] ++ (putI x ++ bl [s.f7, s.f8, s.f9]) := fun x => by simp [bts, bl]
  have := one_num (putI p1) (bl [s.f0, s.f1, s.f2, s.f3, s.f4, s.f5]) (bl [s.f7, s.f8, s.f9]) (by have := h.b6; omega) hn hne
  unfold marked mk_
  rw [show bts s = _ from e s.f6, e n]
  exact this
theorem b_marked (n : Int) (hn : 0 ≤ n ∧ n ≤ 60) (hne : s.f7 ≠ n) : marked s { s with f7 := n } p1 := by
  have e : ∀ x : Int, bts { s with f7 := x } = bl [s.f0, s.f1, s.f2, s.f3, s.f4, s.f5, s.f6] ++ (putI x ++ bl [s.f8, s.f9]) := fun x => by simp [bts, bl]
  have := one_num (putI p1) (bl [s.f0, s.f1, s.f2, s.f3, s.f4, s.f5, s.f6]) (bl [s.f8, s.f9]) (by have := h.b7; omega) hn hne
  unfold marked mk_
  rw [show bts s = _ from e s.f7, e n]
  exact this
/-- With its own mark it verifies where it is valid. -/
theorem ver_own {d : List S25} (hd : Holds d p0 p1) : verS d s = vldS s := by
  unfold verS
  rw [h.e0, vf_is hd, h.ma]
  simp
theorem OddS.w64 (i0 : I64 p0) (i1 : I64 to_) : W64 s := by
  have hm := mk_range p1 (bts s)
  rw [← h.ma] at hm
  obtain ⟨e0, e1, b2, b3, b4, b5, b6, b7, b8, b9, ma⟩ := h
  refine ⟨e0 ▸ i0, e1 ▸ i1, ?_, ?_, ?_, ?_, ?_, ?_, ?_, ?_, ?_⟩ <;> unfold I64 <;> omega
end
end Go.Proofs.YtcalkhlchjjalaaDoor.Gmk

namespace Go.Proofs.YtcalkhlchjjalaaDoor.Q
open Go.RowKit Go.Proofs.YtcalkhlchjjalaaDoorW.PrintWords Go.Proofs.YtcalkhlchjjalaaDoorW.PrintLast Go.Proofs.YtcalkhlchjjalaaDoorW.PrintMore Go.Proofs.YtcalkhlchjjalaaDoor.Gput
attribute [local go_sem] max2_int min2_int max_two min_two max_three min_three max_four min_four   -- for this text's walks alone
set_option linter.unusedVariables false
set_option linter.unusedSimpArgs false
def storagebartermake_Few.f (l0 : List Int) : Option (Bool) := some (decide ((l0.length : Int) ≤ 500))
set_option maxHeartbeats 8000000 in
set_option maxRecDepth 100000 in
theorem storagebartermake_Few.calls (A0 : Option Addr) (c0 : Nat) (l0 : List Int) (r : Bool) (w : World) (hr0 : Kd.C (Kd.int .i64) w A0 l0.length l0) (hc0 : l0.length ≤ c0) (h : storagebartermake_Few.f l0 = some r) :
    Calls Tryd.prog 9 #[.slice A0 l0.length c0] w fun e w' => e = .returned (.bool r) ∧ Drawn0 w w' := by
  have HR0 := Aside0.mk hr0
  have HC0 := Aside0.mk hc0
  clear hr0 hc0
  have H : (some (decide ((l0.length : Int) ≤ 500))) = some r := h
  clear h
  obtain rfl := Option.some.inj H
  go_enter Tryd.func9, Tryd.ntmps9
  go_wp2
  go_ret
  exact ⟨by first | rfl | (simp; done) | (simp [*]; done), by repeat (first | exact Drawn0.refl _ | apply Drawn0.step)⟩
end Go.Proofs.YtcalkhlchjjalaaDoor.Q

namespace Go.Proofs.YtcalkhlchjjalaaDoor.Gsm
open Go Go.RowKit Go.Proofs Go.Proofs.YtcalkhlchjjalaaDoor.Gm Go.Proofs.YtcalkhlchjjalaaDoor.Gdm Go.Proofs.YtcalkhlchjjalaaDoor.Gmr Go.Proofs.YtcalkhlchjjalaaDoor.Gpp Go.Proofs.YtcalkhlchjjalaaDoor.Gsy Go.Proofs.YtcalkhlchjjalaaDoor.Gnx Go.Proofs.YtcalkhlchjjalaaDoor.Gck Go.Proofs.YtcalkhlchjjalaaDoor.Ggd Go.Proofs.YtcalkhlchjjalaaDoor.Gcw Go.Proofs.YtcalkhlchjjalaaDoor.God Go.Proofs.YtcalkhlchjjalaaDoor.Gmk Go.Proofs.YtcalkhlchjjalaaDoor.Q Go.Proofs.YtcalkhlchjjalaaDoorW.PrintWords Go.Proofs.YtcalkhlchjjalaaDoorW.PrintLast Go.Proofs.YtcalkhlchjjalaaDoorW.PrintMore
set_option linter.unusedVariables false
/-- The worlds of the law: the deck, the people, and two statements. -/
structure Mt (w W : World) (gd : Nat) (L : List Int) (ad : Addr) (l : List S25) (gx gy : Nat) (cs ds : Array Value) : Prop where
  h : CW w W gd L ad l (.slice none 0 0) []
  x : W.heap[gx]? = some (.cells cs 39 (0, 0))
  y : W.heap[gy]? = some (.cells ds 39 (0, 0))
  ly : w.heap.size ≤ gy
  ne : gx ≠ gy
section
variable {w W W' : World} {gd : Nat} {L : List Int} {ad : Addr} {l : List S25} {gx gy : Nat} {cs ds : Array Value}
theorem Mt.below (h : Mt w W gd L ad l gx gy cs ds) (hb : Below W.heap.size W W') : Mt w W' gd L ad l gx gy cs ds := ⟨h.h.below hb, blk_below h.x hb, blk_below h.y hb, h.ly, h.ne⟩
theorem Mt.drew (h : Mt w W gd L ad l gx gy cs ds) : Mt w W.drew gd L ad l gx gy cs ds := h.below (below_drew1 (Below.refl _ _))
theorem Mt.set (h : Mt w W gd L ad l gx gy cs ds) (i : Nat) (v : Value) : Mt w (W.setCell ⟨gy, i, none⟩ v) gd L ad l gx gy cs (ds.setIfInBounds i v) :=
  ⟨h.h.far ⟨h.y, by simp [Value.ownBlock], h.ly⟩ i v, blk_far (p := ⟨gy, i, none⟩) h.x h.ne v, blk_put h.y i v rfl, h.ly, h.ne⟩
theorem Mt.all {x0 x1 x2 x3 x4 x5 x6 x7 x8 x9 x10 y0 y1 y2 y3 y4 y5 y6 y7 y8 y9 y10 : Int} (h : Mt w W gd L ad l gx gy #[.int .i64 x0, .int .i64 x1, .int .i64 x2, .int .i64 x3, .int .i64 x4, .int .i64 x5, .int .i64 x6, .int .i64 x7, .int .i64 x8, .int .i64 x9, .int .i64 x10] #[.int .i64 y0, .int .i64 y1, .int .i64 y2, .int .i64 y3, .int .i64 y4, .int .i64 y5, .int .i64 y6, .int .i64 y7, .int .i64 y8, .int .i64 y9, .int .i64 y10]) : (Mt w W gd L ad l gx gy #[.int .i64 x0, .int .i64 x1, .int .i64 x2, .int .i64 x3, .int .i64 x4, .int .i64 x5, .int .i64 x6, .int .i64 x7, .int .i64 x8, .int .i64 x9, .int .i64 x10] #[.int .i64 y0, .int .i64 y1, .int .i64 y2, .int .i64 y3, .int .i64 y4, .int .i64 y5, .int .i64 y6, .int .i64 y7, .int .i64 y8, .int .i64 y9, .int .i64 y10] ∧ W.cell? ⟨gx, 0, none⟩ = some (.int .i64 x0) ∧ W.cell? ⟨gx, 1, none⟩ = some (.int .i64 x1) ∧ W.cell? ⟨gx, 2, none⟩ = some (.int .i64 x2) ∧ W.cell? ⟨gx, 3, none⟩ = some (.int .i64 x3) ∧ W.cell? ⟨gx, 4, none⟩ = some (.int .i64 x4) ∧ W.cell? ⟨gx, 5, none⟩ = some (.int .i64 x5) ∧ W.cell? ⟨gx, 6, none⟩ = some (.int .i64 x6) ∧ W.cell? ⟨gx, 7, none⟩ = some (.int .i64 x7) ∧ W.cell? ⟨gx, 8, none⟩ = some (.int .i64 x8) ∧ W.cell? ⟨gx, 9, none⟩ = some (.int .i64 x9) ∧ W.cell? ⟨gx, 10, none⟩ = some (.int .i64 x10) ∧ W.cell? ⟨gy, 0, none⟩ = some (.int .i64 y0) ∧ W.cell? ⟨gy, 1, none⟩ = some (.int .i64 y1) ∧ W.cell? ⟨gy, 2, none⟩ = some (.int .i64 y2) ∧ W.cell? ⟨gy, 3, none⟩ = some (.int .i64 y3) ∧ W.cell? ⟨gy, 4, none⟩ = some (.int .i64 y4) ∧ W.cell? ⟨gy, 5, none⟩ = some (.int .i64 y5) ∧ W.cell? ⟨gy, 6, none⟩ = some (.int .i64 y6) ∧ W.cell? ⟨gy, 7, none⟩ = some (.int .i64 y7) ∧ W.cell? ⟨gy, 8, none⟩ = some (.int .i64 y8) ∧ W.cell? ⟨gy, 9, none⟩ = some (.int .i64 y9) ∧ W.cell? ⟨gy, 10, none⟩ = some (.int .i64 y10)) := ⟨h, (blk_cell h.x 0).trans rfl, (blk_cell h.x 1).trans rfl, (blk_cell h.x 2).trans rfl, (blk_cell h.x 3).trans rfl, (blk_cell h.x 4).trans rfl, (blk_cell h.x 5).trans rfl, (blk_cell h.x 6).trans rfl, (blk_cell h.x 7).trans rfl, (blk_cell h.x 8).trans rfl, (blk_cell h.x 9).trans rfl, (blk_cell h.x 10).trans rfl, (blk_cell h.y 0).trans rfl, (blk_cell h.y 1).trans rfl, (blk_cell h.y 2).trans rfl, (blk_cell h.y 3).trans rfl, (blk_cell h.y 4).trans rfl, (blk_cell h.y 5).trans rfl, (blk_cell h.y 6).trans rfl, (blk_cell h.y 7).trans rfl, (blk_cell h.y 8).trans rfl, (blk_cell h.y 9).trans rfl, (blk_cell h.y 10).trans rfl⟩
end
/-- What the changed statement is like. -/
structure Aft (l : List S25) (p1 : Int) (s o : S39) : Prop where
  w : W64 o
  len : (bts s).length = (bts o).length
  same : statement_Same.f s.f0 s.f1 s.f2 s.f3 s.f4 s.f5 s.f6 s.f7 s.f8 s.f9 s.f10 o.f0 o.f1 o.f2 o.f3 o.f4 o.f5 o.f6 o.f7 o.f8 o.f9 o.f10 = some false
  ver : statement_Verified.f 200 l o.f0 o.f1 o.f2 o.f3 o.f4 o.f5 o.f6 o.f7 o.f8 o.f9 o.f10 = some false
theorem flip_ok : ∀ x : Fin 41, 0 ≤ bits .xor .i64 (x.val : Int) 1 ∧ bits .xor .i64 (x.val : Int) 1 ≤ 60 ∧ (x.val : Int) ≠ bits .xor .i64 (x.val : Int) 1 := by decide +kernel
theorem flip_at (x : Int) (h : 0 ≤ x ∧ x ≤ 40) : (0 ≤ bits .xor .i64 x 1 ∧ bits .xor .i64 x 1 ≤ 60) ∧ x ≠ bits .xor .i64 x 1 := by
  obtain ⟨n, rfl⟩ : ∃ n : Nat, x = (n : Int) := ⟨x.toNat, by omega⟩
  have := flip_ok ⟨n, by omega⟩
  exact ⟨⟨this.1, this.2.1⟩, this.2.2⟩
theorem aft_ver {l : List S25} {p1 : Int} (hP : Holds l 1 p1) (hwf : l.all (fun p => (Lit.int .i64 p.f1).wf) = true) (o : S39) (hw : W64 o) (h0 : o.f0 = 1) (hm : o.f10 ≠ mk_ p1 (bts o)) : statement_Verified.f 200 l o.f0 o.f1 o.f2 o.f3 o.f4 o.f5 o.f6 o.f7 o.f8 o.f9 o.f10 = some false := by
  have := Verified_eq l hwf o hw 200 (Nat.le_refl _)
  rw [ver_not hP o h0 hm] at this
  exact this
section
variable {l : List S25} {p1 : Int} {s : S39} (h : OddS 1 p1 2 s) (hP : Holds l 1 p1) (hwf : l.all (fun p => (Lit.int .i64 p.f1).wf) = true)
include h hP hwf
theorem aft_tick (hw : W64 s) (n : Int) (hn : 0 ≤ n ∧ n ≤ 60) (hne : s.f4 ≠ n) : Aft l p1 s { s with f4 := n } := by
  have hmk := tick_marked h n hn hne
  have hw' : W64 { s with f4 := n } := { hw with h4 := by show I64 n; unfold I64; omega }
  refine ⟨hw', hmk.1, ?_, aft_ver hP hwf _ hw' h.e0 (fun e => hmk.2 (h.ma.symm.trans e))⟩
  unfold statement_Same.f
  simp only [beq_self_eq_true, Bool.and_true, beq_eq_false_iff_ne.2 hne, Bool.and_false]
theorem aft_a (hw : W64 s) (n : Int) (hn : 0 ≤ n ∧ n ≤ 60) (hne : s.f6 ≠ n) : Aft l p1 s { s with f6 := n } := by
  have hmk := a_marked h n hn hne
  have hw' : W64 { s with f6 := n } := { hw with h6 := by show I64 n; unfold I64; omega }
  refine ⟨hw', hmk.1, ?_, aft_ver hP hwf _ hw' h.e0 (fun e => hmk.2 (h.ma.symm.trans e))⟩
  unfold statement_Same.f
  simp only [beq_self_eq_true, Bool.and_true, beq_eq_false_iff_ne.2 hne, Bool.and_false]
theorem aft_b (hw : W64 s) (n : Int) (hn : 0 ≤ n ∧ n ≤ 60) (hne : s.f7 ≠ n) : Aft l p1 s { s with f7 := n } := by
  have hmk := b_marked h n hn hne
  have hw' : W64 { s with f7 := n } := { hw with h7 := by show I64 n; unfold I64; omega }
  refine ⟨hw', hmk.1, ?_, aft_ver hP hwf _ hw' h.e0 (fun e => hmk.2 (h.ma.symm.trans e))⟩
  unfold statement_Same.f
  simp only [beq_self_eq_true, Bool.and_true, beq_eq_false_iff_ne.2 hne, Bool.and_false]
theorem aft_mark (hw : W64 s) (n : Int) (hn : n = (s.f10 + 1) % 2147483647) : W64 { s with f10 := n } ∧ statement_Verified.f 200 l s.f0 s.f1 s.f2 s.f3 s.f4 s.f5 s.f6 s.f7 s.f8 s.f9 n = some false := by
  have hr := mk_range p1 (bts s)
  rw [← h.ma] at hr
  have hw' : W64 { s with f10 := n } := { hw with h10 := by show I64 n; unfold I64; omega }
  refine ⟨hw', aft_ver hP hwf { s with f10 := n } hw' h.e0 ?_⟩
  show n ≠ mk_ p1 (bts { s with f10 := n })
  rw [bts_mark, ← h.ma]
  omega
theorem own_ver (hw : W64 s) : statement_Verified.f 200 l s.f0 s.f1 s.f2 s.f3 s.f4 s.f5 s.f6 s.f7 s.f8 s.f9 s.f10 = some (vldS s) := by
  have := Verified_eq l hwf s hw 200 (Nat.le_refl _)
  rw [ver_own h hP] at this
  exact this
end
theorem same_mark (s : S39) (n : Int) : statement_Same.f s.f0 s.f1 s.f2 s.f3 s.f4 s.f5 s.f6 s.f7 s.f8 s.f9 s.f10 s.f0 s.f1 s.f2 s.f3 s.f4 s.f5 s.f6 s.f7 s.f8 s.f9 n = some true := by
  unfold statement_Same.f
  simp only [beq_self_eq_true, Bool.and_true]
theorem ver_mt {w W : World} {gd : Nat} {L : List Int} {ad : Addr} {l : List S25} {gx gy c8 : Nat} {cs ds : Array Value} (hG : GL w) (h : Mt w W gd L ad l gx gy cs ds) (hc8 : l.length ≤ c8) (x0 x1 x2 x3 x4 x5 x6 x7 x8 x9 xa : Int) (r : Bool) (hr : statement_Verified.f 200 l x0 x1 x2 x3 x4 x5 x6 x7 x8 x9 xa = some r) :
    Calls Tryd.prog 20 #[.slice (some ad) l.length c8, .agg #[.int .i64 x0, .int .i64 x1, .int .i64 x2, .int .i64 x3, .int .i64 x4, .int .i64 x5, .int .i64 x6, .int .i64 x7, .int .i64 x8, .int .i64 x9, .int .i64 xa]] W fun e w' => e = .returned (.bool r) ∧ Below W.heap.size W w' :=
  statement_Verified.calls 200 (some ad) c8 l x0 x1 x2 x3 x4 x5 x6 x7 x8 x9 xa r W h.h.pe hc8 hr (hG.step h.h.hb)
theorem byt_mt (W : World) (f0 f1 f2 f3 f4 f5 f6 f7 f8 f9 f10 : Int) (h : W64 ⟨f0, f1, f2, f3, f4, f5, f6, f7, f8, f9, f10⟩) (n : Nat) (hn : (B (bts ⟨f0, f1, f2, f3, f4, f5, f6, f7, f8, f9, f10⟩)).size = n) :
    Calls Tryd.prog 25 #[.agg #[.int .i64 f0, .int .i64 f1, .int .i64 f2, .int .i64 f3, .int .i64 f4, .int .i64 f5, .int .i64 f6, .int .i64 f7, .int .i64 f8, .int .i64 f9, .int .i64 f10]] W fun e w' => ∃ t : ByteArray, e = .returned (.string t) ∧ t.size = n ∧ Below W.heap.size W w' := by
  refine (bytes_x f0 f1 f2 f3 f4 f5 f6 f7 f8 f9 f10 h W).mono fun e w' z => ?_
  exact ⟨_, z.1, hn, z.2⟩
theorem vld_mt {w W : World} {gd : Nat} {L : List Int} {ad : Addr} {l : List S25} {gx gy : Nat} {cs ds : Array Value} (hG : GL w) (h : Mt w W gd L ad l gx gy cs ds) (x0 x1 x2 x3 x4 x5 x6 x7 x8 x9 xa : Int) (r : Bool) (hr : vldB x0 x1 x2 x3 x4 x5 x6 x7 x8 x9 xa = r) :
    Calls Tryd.prog 24 #[.agg #[.int .i64 x0, .int .i64 x1, .int .i64 x2, .int .i64 x3, .int .i64 x4, .int .i64 x5, .int .i64 x6, .int .i64 x7, .int .i64 x8, .int .i64 x9, .int .i64 xa]] W fun e w' => e = .returned (.bool r) ∧ Below W.heap.size W w' :=
  valid_x x0 x1 x2 x3 x4 x5 x6 x7 x8 x9 xa W (hG.step h.h.hb) r hr
theorem allC {w W : World} {gd : Nat} {L : List Int} {ad : Addr} {l : List S25} {v9 : Value} {ch : List S39} {p1 : Int} (h : CW w W gd L ad l v9 ch) (hl0 : 0 < l.length) (h0 : (rd_T25 l ((0 : Nat) : Int)).f0 = 1) (h1 : (rd_T25 l ((0 : Nat) : Int)).f1 = p1) :
    W.cell? ad = some (.int .i64 1) ∧ W.cell? ⟨ad.block, ad.off + 1, none⟩ = some (.int .i64 p1) := by
  obtain ⟨ad2, e, hx0, hx1⟩ := at_T25 h.pe ((0 : Nat) : Int) (by omega) (by omega)
  cases e
  have ea0 : ad.add 0 = ad := by cases ad; simp [Addr.add]
  simp only [Int.toNat_natCast, Nat.zero_mul, ea0, h0, h1] at hx0 hx1
  exact ⟨hx0, hx1⟩
theorem odd_cw {w W : World} {gd : Nat} {L : List Int} {ad : Addr} {l : List S25} {p1 : Int} (h : CW w W gd L ad l (.slice none 0 0) []) (hL : L.length ≤ 1000000) (hp : within p1) :
    Calls Tryd.prog 22 #[.pointer (some ⟨gd, 0, none⟩), .agg #[.int .i64 1, .int .i64 p1], .int .i64 2] W fun e w' => ∃ s, OddS 1 p1 2 s ∧ e = .returned (.agg #[.int .i64 s.f0, .int .i64 s.f1, .int .i64 s.f2, .int .i64 s.f3, .int .i64 s.f4, .int .i64 s.f5, .int .i64 s.f6, .int .i64 s.f7, .int .i64 s.f8, .int .i64 s.f9, .int .i64 s.f10]) ∧ CW w w' gd L ad l (.slice none 0 0) [] := by
  refine (odd_x w W gd L 1 p1 2 ⟨h.hb, h.hb.size, h.dk, KeepBut.of_below (Below.refl _ _) gd none⟩ hL hp (by unfold I64; omega) (by unfold I64; omega)).mono fun e w' z => ?_
  obtain ⟨s, hs, e, hd⟩ := z
  obtain ⟨at_, h0, hk⟩ := hd.dk
  exact ⟨s, hs, e, h.next h0 hk hd.hb hd.kp⟩
set_option maxRecDepth 100000 in
set_option maxHeartbeats 8000000 in
theorem marks_x (A0 : Option Addr) (c0 : Nat) (L : List Int) (fld : Int) (w : World) (hr0 : Kd.C (Kd.int .i64) w A0 L.length L) (hc0 : L.length ≤ c0) (hfl : 0 ≤ fld ∧ fld ≤ 255) (hG : GL w) :
    Calls Tryd.prog 6 #[.slice A0 L.length c0, .int .u8 fld] w fun e w' => e = .returned (.bool true) ∧ Below w.heap.size w w' := by
  have mixed : (Tryd.prog).follows .mixedOrders = true := by kernel_rfl
  have hu39 := Tryd.underlying39
  have hu25 := Tryd.underlying25
  have HG := Aside0.mk hG
  have HR0 := Aside0.mk hr0
  have HB := Aside0.mk (Below.refl w.heap.size w)
  clear hr0 hG
  by_cases h1 : (L.length : Int) ≤ 500
  case neg =>
    have F2 : Aside0 (storagebartermake_Few.f L = some false) := ⟨by unfold storagebartermake_Few.f; rw [decide_eq_false h1]⟩
    clear h1
    go_enter Tryd.func6, Tryd.ntmps6
    go_wp2_with (first | (go_at_call 8; with_reducible refine (sane_x _ HG.out).mono ?_; rintro e w1 ⟨rfl, hb⟩; have n1_ := Aside0.mk (below_step HB.out hb); clear HB hb; have HB := n1_; clear n1_) | (go_at_call 9; with_reducible refine (storagebartermake_Few.calls A0 c0 L _ _ (Kd.C_below HR0.out HB.out) hc0 F2.out).mono ?_; rintro e w2 ⟨rfl, hd⟩; have n1_ := Aside0.mk (below_step HB.out hd.below); clear HB hd; have HB := n1_; clear n1_))
    go_ret
    exact ⟨rfl, HB.out⟩
  case pos =>
  have F2 : Aside0 (storagebartermake_Few.f L = some true) := ⟨by unfold storagebartermake_Few.f; rw [decide_eq_true h1]⟩
  have hL : L.length ≤ 1000000 := by omega
  obtain ⟨l, sec, at1, e3, hM, hl2, hat1⟩ := People_ok L hL 0 (by omega) 3 (by omega) 4 (by omega)
  rw [show ((3 : Nat) : Int) = 3 from rfl] at e3
  have F3 := Aside0.mk e3
  have HM := Aside0.mk hM
  have HL2 := Lib.hid hl2
  have hl0 : 0 < l.length := by omega
  have hl16 : l.length ≤ 16 := by omega
  clear h1 e3 hM hl2
  have q0 : rd_T25 l ((0 : Nat) : Int) = l[0] := by simp [rd_T25, List.getD, hl0]
  obtain ⟨p1, hp1⟩ : ∃ p1, p1 = l[0].f1 := ⟨_, rfl⟩
  have hP : Holds l 1 p1 := by rw [hp1]; exact holds_made HM.out hl16 0 hl0
  have hid : (rd_T25 l ((0 : Nat) : Int)).f0 = 1 := by rw [q0]; exact HM.out.ids 0 hl0
  have his : (rd_T25 l ((0 : Nat) : Int)).f1 = p1 := by rw [q0, hp1]
  have HP := Aside0.mk hP
  have HPW : Aside0 (within p1) := ⟨hP.2.2⟩
  have HID := Lib.hid hid
  have HIS := Lib.hid his
  have HWF := Lib.hid (HM.out.wf hl16)
  clear q0 hp1 hP hid his
  go_enter Tryd.func6, Tryd.ntmps6
  go_upto_region 9 with (first | (go_at_call 8; with_reducible refine (sane_x _ HG.out).mono ?_; rintro e w1 ⟨rfl, hb⟩; have n1_ := Aside0.mk (below_step HB.out hb); clear HB hb; have HB := n1_; clear n1_) | (go_at_call 9; with_reducible refine (storagebartermake_Few.calls A0 c0 L _ _ (Kd.C_below HR0.out HB.out) hc0 F2.out).mono ?_; rintro e w2 ⟨rfl, hd⟩; have n1_ := Aside0.mk (below_step HB.out hd.below); clear HB hd; have HB := n1_; clear n1_) | (go_at_call 10; with_reducible refine (storagebartermake_New.calls A0 c0 L L 0 w _ HB.out HR0.out hc0 rfl).mono ?_; rintro e w5 ⟨gd, rfl, hI, hB, hb⟩; have HI := Aside0.mk hI; clear HB; have HB := Aside0.mk hB; clear hI hB hb) | (go_at_call 11; with_reducible refine (storagebartermake_People.calls 4 gd L 0 3 l at1 w _ HI.out HB.out F3.out).mono ?_; rintro e w6 ⟨v8, rfl, hR, hI, hB, hk⟩; obtain ⟨ad, c8, rfl⟩ := Kd.R_slice1 hR hl0; have HC := Aside0.mk (CW.mk hB ⟨at1, hat1, hI⟩ (Kd.R_reads' hR).2.2 (Kd.R_typed hR _ (by simp [Value.ownBlock])) (Kd.R_nil _ _ _ _ _) : CW w w6 gd L ad l (.slice none 0 0) []); have hc8 : l.length ≤ c8 := (Kd.R_reads' hR).2.1; obtain ⟨hsa0, hsa1⟩ := allC HC.out hl0 HID.out HIS.out; clear HI HB hR hI hk; have HB := Aside0.mk hB; clear hB) | (go_at_call 22; with_reducible refine (odd_cw HC.out hL HPW.out).mono ?_; rintro e w7 ⟨s, hs, rfl, hcw⟩; clear HC hsa0 hsa1; have HC := Aside0.mk hcw; have HO := Aside0.mk hs; clear hcw hs; obtain ⟨s0, s1, s2, s3, s4, s5, s6, s7, s8, s9, s10⟩ := s; dsimp only))
  have hne1 : w7.heap.size ≠ w7.heap.size + 1 := by omega
  have HT : Aside0 (Mt w ((w7.alloc (.cells #[.int .i64 s0, .int .i64 s1, .int .i64 s2, .int .i64 s3, .int .i64 s4, .int .i64 s5, .int .i64 s6, .int .i64 s7, .int .i64 s8, .int .i64 s9, .int .i64 s10] 39)).alloc (.cells #[.int .i64 s0, .int .i64 s1, .int .i64 s2, .int .i64 s3, .int .i64 s4, .int .i64 s5, .int .i64 s6, .int .i64 s7, .int .i64 s8, .int .i64 s9, .int .i64 s10] 39)) gd L ad l w7.heap.size (w7.heap.size + 1) #[.int .i64 s0, .int .i64 s1, .int .i64 s2, .int .i64 s3, .int .i64 s4, .int .i64 s5, .int .i64 s6, .int .i64 s7, .int .i64 s8, .int .i64 s9, .int .i64 s10] #[.int .i64 s0, .int .i64 s1, .int .i64 s2, .int .i64 s3, .int .i64 s4, .int .i64 s5, .int .i64 s6, .int .i64 s7, .int .i64 s8, .int .i64 s9, .int .i64 s10]) := ⟨⟨(HC.out.alloc _).alloc _, blk_alloc (heap_alloc_new w7 _) _, two_new w7 _ _ _ _, Nat.le_succ_of_le HC.out.hb.size, hne1⟩⟩
  obtain ⟨W8, hW8⟩ : ∃ W8, W8 = (w7.alloc (.cells #[.int .i64 s0, .int .i64 s1, .int .i64 s2, .int .i64 s3, .int .i64 s4, .int .i64 s5, .int .i64 s6, .int .i64 s7, .int .i64 s8, .int .i64 s9, .int .i64 s10] 39)).alloc (.cells #[.int .i64 s0, .int .i64 s1, .int .i64 s2, .int .i64 s3, .int .i64 s4, .int .i64 s5, .int .i64 s6, .int .i64 s7, .int .i64 s8, .int .i64 s9, .int .i64 s10] 39) := ⟨_, rfl⟩
  rw [← hW8] at HT ⊢
  clear hW8 hne1 HC HB
  obtain ⟨gy, hgy⟩ : ∃ gy, w7.heap.size + 1 = gy := ⟨_, rfl⟩
  rw [hgy] at HT ⊢
  clear hgy
  obtain ⟨gx, hgx⟩ : ∃ gx, w7.heap.size = gx := ⟨_, rfl⟩
  rw [hgx] at HT ⊢
  clear hgx
  have HW : Aside0 (W64 ⟨s0, s1, s2, s3, s4, s5, s6, s7, s8, s9, s10⟩) := ⟨Gmk.OddS.w64 HO.out (by unfold I64; omega) (by unfold I64; omega)⟩
  obtain ⟨hz, hz0⟩ := HT.out.all
  obtain ⟨hx0_, hx1_, hx2_, hx3_, hx4_, hx5_, hx6_, hx7_, hx8_, hx9_, hx10_, hy0_, hy1_, hy2_, hy3_, hy4_, hy5_, hy6_, hy7_, hy8_, hy9_, hy10_⟩ := hz0
  have hyl_ := blk_lt HT.out.y
  have hyf4_ := blk_frozen HT.out.y 4
  have hyf6_ := blk_frozen HT.out.y 6
  have hyf7_ := blk_frozen HT.out.y 7
  have hyf10_ := blk_frozen HT.out.y 10
  go_upto_block 0 with fail
  go_cut [] (fun wx => ∃ o0 o1 o2 o3 o4 o5 o6 o7 o8 o9 o10 : Int, Aside0 (Aft l p1 ⟨s0, s1, s2, s3, s4, s5, s6, s7, s8, s9, s10⟩ ⟨o0, o1, o2, o3, o4, o5, o6, o7, o8, o9, o10⟩) ∧ Aside0 (Mt w wx gd L ad l gx gy #[.int .i64 s0, .int .i64 s1, .int .i64 s2, .int .i64 s3, .int .i64 s4, .int .i64 s5, .int .i64 s6, .int .i64 s7, .int .i64 s8, .int .i64 s9, .int .i64 s10] #[.int .i64 o0, .int .i64 o1, .int .i64 o2, .int .i64 o3, .int .i64 o4, .int .i64 o5, .int .i64 o6, .int .i64 o7, .int .i64 o8, .int .i64 o9, .int .i64 o10]))
  case first =>
    obtain h4 | h4 | h4 | h4 : fld % 4 = 0 ∨ fld % 4 = 1 ∨ fld % 4 = 2 ∨ fld % 4 = 3 := by omega
    · go_wp2
      go_meet
      have hf := flip_at s4 (by have := HO.out.b4; dsimp only at this; omega)
      exact ⟨_, _, _, _, _, _, _, _, _, _, _, ⟨aft_tick HO.out HP.out HWF.out HW.out _ hf.1 hf.2⟩, ⟨HT.out.set 4 _⟩⟩
    · go_wp2
      go_meet
      have hf := flip_at s6 (by have := HO.out.b6; dsimp only at this; omega)
      exact ⟨_, _, _, _, _, _, _, _, _, _, _, ⟨aft_a HO.out HP.out HWF.out HW.out _ hf.1 hf.2⟩, ⟨HT.out.set 6 _⟩⟩
    · go_wp2
      go_meet
      have hf := flip_at s7 (by have := HO.out.b7; dsimp only at this; omega)
      exact ⟨_, _, _, _, _, _, _, _, _, _, _, ⟨aft_b HO.out HP.out HWF.out HW.out _ hf.1 hf.2⟩, ⟨HT.out.set 7 _⟩⟩
    · obtain ⟨m9, hm9⟩ : ∃ z, (s10 + 1) % 2147483647 = z := ⟨_, rfl⟩
      obtain ⟨b, hb⟩ : ∃ b, vldS ⟨s0, s1, s2, s3, s4, s5, s6, s7, s8, s9, s10⟩ = b := ⟨_, rfl⟩
      have HV : Aside0 (statement_Verified.f 200 l s0 s1 s2 s3 s4 s5 s6 s7 s8 s9 s10 = some b) := ⟨by have := own_ver HO.out HP.out HWF.out HW.out; rw [hb] at this; exact this⟩
      have HVB : Aside0 (vldB s0 s1 s2 s3 s4 s5 s6 s7 s8 s9 s10 = b) := ⟨hb⟩
      have HVM : Aside0 (statement_Verified.f 200 l s0 s1 s2 s3 s4 s5 s6 s7 s8 s9 m9 = some false) := ⟨(aft_mark HO.out HP.out HWF.out HW.out m9 hm9.symm).2⟩
      have HS : Aside0 (statement_Same.f s0 s1 s2 s3 s4 s5 s6 s7 s8 s9 s10 s0 s1 s2 s3 s4 s5 s6 s7 s8 s9 m9 = some true) := ⟨same_mark ⟨s0, s1, s2, s3, s4, s5, s6, s7, s8, s9, s10⟩ m9⟩
      clear hb
      have hs10 : 0 ≤ s10 ∧ s10 < 2147483647 := by have := mk_range p1 (bts ⟨s0, s1, s2, s3, s4, s5, s6, s7, s8, s9, s10⟩); rw [← HO.out.ma] at this; exact this
      go_upto_region 11 with fail
      have hmt := HT.out.set 10 (.int .i64 m9)
      obtain ⟨W9, hW9⟩ : ∃ W9, W9 = W8.setCell ⟨gy, 10, none⟩ (.int .i64 m9) := ⟨_, rfl⟩
      rw [← hW9] at hmt ⊢
      clear hW9 HT hz hx0_ hx1_ hx2_ hx3_ hx4_ hx5_ hx6_ hx7_ hx8_ hx9_ hx10_ hy0_ hy1_ hy2_ hy3_ hy4_ hy5_ hy6_ hy7_ hy8_ hy9_ hy10_ hyl_ hyf4_ hyf6_ hyf7_ hyf10_ hs10 hm9
      have HT := hmt.all
      clear hmt
      cases b
      case false =>
        go_region_held3 (fun W => (Mt w W gd L ad l gx gy #[.int .i64 s0, .int .i64 s1, .int .i64 s2, .int .i64 s3, .int .i64 s4, .int .i64 s5, .int .i64 s6, .int .i64 s7, .int .i64 s8, .int .i64 s9, .int .i64 s10] #[.int .i64 s0, .int .i64 s1, .int .i64 s2, .int .i64 s3, .int .i64 s4, .int .i64 s5, .int .i64 s6, .int .i64 s7, .int .i64 s8, .int .i64 s9, .int .i64 m9] ∧ W.cell? ⟨gx, 0, none⟩ = some (.int .i64 s0) ∧ W.cell? ⟨gx, 1, none⟩ = some (.int .i64 s1) ∧ W.cell? ⟨gx, 2, none⟩ = some (.int .i64 s2) ∧ W.cell? ⟨gx, 3, none⟩ = some (.int .i64 s3) ∧ W.cell? ⟨gx, 4, none⟩ = some (.int .i64 s4) ∧ W.cell? ⟨gx, 5, none⟩ = some (.int .i64 s5) ∧ W.cell? ⟨gx, 6, none⟩ = some (.int .i64 s6) ∧ W.cell? ⟨gx, 7, none⟩ = some (.int .i64 s7) ∧ W.cell? ⟨gx, 8, none⟩ = some (.int .i64 s8) ∧ W.cell? ⟨gx, 9, none⟩ = some (.int .i64 s9) ∧ W.cell? ⟨gx, 10, none⟩ = some (.int .i64 s10) ∧ W.cell? ⟨gy, 0, none⟩ = some (.int .i64 s0) ∧ W.cell? ⟨gy, 1, none⟩ = some (.int .i64 s1) ∧ W.cell? ⟨gy, 2, none⟩ = some (.int .i64 s2) ∧ W.cell? ⟨gy, 3, none⟩ = some (.int .i64 s3) ∧ W.cell? ⟨gy, 4, none⟩ = some (.int .i64 s4) ∧ W.cell? ⟨gy, 5, none⟩ = some (.int .i64 s5) ∧ W.cell? ⟨gy, 6, none⟩ = some (.int .i64 s6) ∧ W.cell? ⟨gy, 7, none⟩ = some (.int .i64 s7) ∧ W.cell? ⟨gy, 8, none⟩ = some (.int .i64 s8) ∧ W.cell? ⟨gy, 9, none⟩ = some (.int .i64 s9) ∧ W.cell? ⟨gy, 10, none⟩ = some (.int .i64 m9))) (((try go_split_ands); first | (with_reducible refine Mt.all (Mt.drew ?_); with_reducible assumption) | (with_reducible refine Mt.all ?_; with_reducible assumption) | (with_reducible refine Mt.all (Mt.below ?_ hb); with_reducible assumption)))
          (first | (go_at_call 23; (try go_split_ands); with_reducible refine (statement_Same.calls s0 s1 s2 s3 s4 s5 s6 s7 s8 s9 s10 s0 s1 s2 s3 s4 s5 s6 s7 s8 s9 m9 true _ HS.out).mono ?_; rintro e w' ⟨rfl, hb⟩) | (go_at_call 20; (try go_split_ands); with_reducible refine (ver_mt HG.out (by with_reducible assumption) hc8 s0 s1 s2 s3 s4 s5 s6 s7 s8 s9 s10 _ HV.out).mono ?_; rintro e w' ⟨rfl, hb⟩) | (go_at_call 24; (try go_split_ands); with_reducible refine (vld_mt HG.out (by with_reducible assumption) s0 s1 s2 s3 s4 s5 s6 s7 s8 s9 s10 _ HVB.out).mono ?_; rintro e w' ⟨rfl, hb⟩) | (go_at_call 20; (try go_split_ands); with_reducible refine (ver_mt HG.out (by with_reducible assumption) hc8 s0 s1 s2 s3 s4 s5 s6 s7 s8 s9 m9 false HVM.out).mono ?_; rintro e w' ⟨rfl, hb⟩))
        all_goals
          (try go_split_ands)
          have HBB : Aside0 (Below w.heap.size w w') := ⟨by refine CW.hb (gd := gd) (L := L) (ad := ad) (ps := l) (v9 := .slice none 0 0) (ch := []) (Mt.h (gx := gx) (gy := gy) (cs := #[.int .i64 s0, .int .i64 s1, .int .i64 s2, .int .i64 s3, .int .i64 s4, .int .i64 s5, .int .i64 s6, .int .i64 s7, .int .i64 s8, .int .i64 s9, .int .i64 s10]) (ds := #[.int .i64 s0, .int .i64 s1, .int .i64 s2, .int .i64 s3, .int .i64 s4, .int .i64 s5, .int .i64 s6, .int .i64 s7, .int .i64 s8, .int .i64 s9, .int .i64 m9]) ?_); with_reducible assumption⟩
          go_wp2_with fail
          go_ret
          exact ⟨rfl, HBB.out⟩
      case true =>
        go_region_held3 (fun W => (Mt w W gd L ad l gx gy #[.int .i64 s0, .int .i64 s1, .int .i64 s2, .int .i64 s3, .int .i64 s4, .int .i64 s5, .int .i64 s6, .int .i64 s7, .int .i64 s8, .int .i64 s9, .int .i64 s10] #[.int .i64 s0, .int .i64 s1, .int .i64 s2, .int .i64 s3, .int .i64 s4, .int .i64 s5, .int .i64 s6, .int .i64 s7, .int .i64 s8, .int .i64 s9, .int .i64 m9] ∧ W.cell? ⟨gx, 0, none⟩ = some (.int .i64 s0) ∧ W.cell? ⟨gx, 1, none⟩ = some (.int .i64 s1) ∧ W.cell? ⟨gx, 2, none⟩ = some (.int .i64 s2) ∧ W.cell? ⟨gx, 3, none⟩ = some (.int .i64 s3) ∧ W.cell? ⟨gx, 4, none⟩ = some (.int .i64 s4) ∧ W.cell? ⟨gx, 5, none⟩ = some (.int .i64 s5) ∧ W.cell? ⟨gx, 6, none⟩ = some (.int .i64 s6) ∧ W.cell? ⟨gx, 7, none⟩ = some (.int .i64 s7) ∧ W.cell? ⟨gx, 8, none⟩ = some (.int .i64 s8) ∧ W.cell? ⟨gx, 9, none⟩ = some (.int .i64 s9) ∧ W.cell? ⟨gx, 10, none⟩ = some (.int .i64 s10) ∧ W.cell? ⟨gy, 0, none⟩ = some (.int .i64 s0) ∧ W.cell? ⟨gy, 1, none⟩ = some (.int .i64 s1) ∧ W.cell? ⟨gy, 2, none⟩ = some (.int .i64 s2) ∧ W.cell? ⟨gy, 3, none⟩ = some (.int .i64 s3) ∧ W.cell? ⟨gy, 4, none⟩ = some (.int .i64 s4) ∧ W.cell? ⟨gy, 5, none⟩ = some (.int .i64 s5) ∧ W.cell? ⟨gy, 6, none⟩ = some (.int .i64 s6) ∧ W.cell? ⟨gy, 7, none⟩ = some (.int .i64 s7) ∧ W.cell? ⟨gy, 8, none⟩ = some (.int .i64 s8) ∧ W.cell? ⟨gy, 9, none⟩ = some (.int .i64 s9) ∧ W.cell? ⟨gy, 10, none⟩ = some (.int .i64 m9))) (((try go_split_ands); first | (with_reducible refine Mt.all (Mt.drew ?_); with_reducible assumption) | (with_reducible refine Mt.all ?_; with_reducible assumption) | (with_reducible refine Mt.all (Mt.below ?_ hb); with_reducible assumption)))
          (first | (go_at_call 23; (try go_split_ands); with_reducible refine (statement_Same.calls s0 s1 s2 s3 s4 s5 s6 s7 s8 s9 s10 s0 s1 s2 s3 s4 s5 s6 s7 s8 s9 m9 true _ HS.out).mono ?_; rintro e w' ⟨rfl, hb⟩) | (go_at_call 20; (try go_split_ands); with_reducible refine (ver_mt HG.out (by with_reducible assumption) hc8 s0 s1 s2 s3 s4 s5 s6 s7 s8 s9 s10 _ HV.out).mono ?_; rintro e w' ⟨rfl, hb⟩) | (go_at_call 24; (try go_split_ands); with_reducible refine (vld_mt HG.out (by with_reducible assumption) s0 s1 s2 s3 s4 s5 s6 s7 s8 s9 s10 _ HVB.out).mono ?_; rintro e w' ⟨rfl, hb⟩) | (go_at_call 20; (try go_split_ands); with_reducible refine (ver_mt HG.out (by with_reducible assumption) hc8 s0 s1 s2 s3 s4 s5 s6 s7 s8 s9 m9 false HVM.out).mono ?_; rintro e w' ⟨rfl, hb⟩))
        all_goals
          (try go_split_ands)
          have HBB : Aside0 (Below w.heap.size w w') := ⟨by refine CW.hb (gd := gd) (L := L) (ad := ad) (ps := l) (v9 := .slice none 0 0) (ch := []) (Mt.h (gx := gx) (gy := gy) (cs := #[.int .i64 s0, .int .i64 s1, .int .i64 s2, .int .i64 s3, .int .i64 s4, .int .i64 s5, .int .i64 s6, .int .i64 s7, .int .i64 s8, .int .i64 s9, .int .i64 s10]) (ds := #[.int .i64 s0, .int .i64 s1, .int .i64 s2, .int .i64 s3, .int .i64 s4, .int .i64 s5, .int .i64 s6, .int .i64 s7, .int .i64 s8, .int .i64 s9, .int .i64 m9]) ?_); with_reducible assumption⟩
          go_wp2_with fail
          go_ret
          exact ⟨rfl, HBB.out⟩
  case rest =>
    clear HT hz hx0_ hx1_ hx2_ hx3_ hx4_ hx5_ hx6_ hx7_ hx8_ hx9_ hx10_ hy0_ hy1_ hy2_ hy3_ hy4_ hy5_ hy6_ hy7_ hy8_ hy9_ hy10_ hyl_ hyf4_ hyf6_ hyf7_ hyf10_
    obtain ⟨o0, o1, o2, o3, o4, o5, o6, o7, o8, o9, o10, HA, HT⟩ := hcut
    have hz := HT.out
    have HLN := Lib.hid HA.out.len
    have HSM : Aside0 (statement_Same.f s0 s1 s2 s3 s4 s5 s6 s7 s8 s9 s10 o0 o1 o2 o3 o4 o5 o6 o7 o8 o9 o10 = some false) := ⟨HA.out.same⟩
    have HVO : Aside0 (statement_Verified.f 200 l o0 o1 o2 o3 o4 o5 o6 o7 o8 o9 o10 = some false) := ⟨HA.out.ver⟩
    have HWO : Aside0 (W64 ⟨o0, o1, o2, o3, o4, o5, o6, o7, o8, o9, o10⟩) := ⟨HA.out.w⟩
    obtain ⟨n, hn⟩ : ∃ n : Nat, (bts ⟨s0, s1, s2, s3, s4, s5, s6, s7, s8, s9, s10⟩).length = n := ⟨_, rfl⟩
    have HN1 : Aside0 ((B (bts ⟨s0, s1, s2, s3, s4, s5, s6, s7, s8, s9, s10⟩)).size = n) := ⟨by rw [B_size]; exact hn⟩
    have HN2 : Aside0 ((B (bts ⟨o0, o1, o2, o3, o4, o5, o6, o7, o8, o9, o10⟩)).size = n) := ⟨by rw [B_size, ← HLN.out]; exact hn⟩
    clear HLN HA hn HT
    have HT := hz.all
    clear hz
    go_upto_region 18 with fail
    go_region_held3 (fun W => (Mt w W gd L ad l gx gy #[.int .i64 s0, .int .i64 s1, .int .i64 s2, .int .i64 s3, .int .i64 s4, .int .i64 s5, .int .i64 s6, .int .i64 s7, .int .i64 s8, .int .i64 s9, .int .i64 s10] #[.int .i64 o0, .int .i64 o1, .int .i64 o2, .int .i64 o3, .int .i64 o4, .int .i64 o5, .int .i64 o6, .int .i64 o7, .int .i64 o8, .int .i64 o9, .int .i64 o10] ∧ W.cell? ⟨gx, 0, none⟩ = some (.int .i64 s0) ∧ W.cell? ⟨gx, 1, none⟩ = some (.int .i64 s1) ∧ W.cell? ⟨gx, 2, none⟩ = some (.int .i64 s2) ∧ W.cell? ⟨gx, 3, none⟩ = some (.int .i64 s3) ∧ W.cell? ⟨gx, 4, none⟩ = some (.int .i64 s4) ∧ W.cell? ⟨gx, 5, none⟩ = some (.int .i64 s5) ∧ W.cell? ⟨gx, 6, none⟩ = some (.int .i64 s6) ∧ W.cell? ⟨gx, 7, none⟩ = some (.int .i64 s7) ∧ W.cell? ⟨gx, 8, none⟩ = some (.int .i64 s8) ∧ W.cell? ⟨gx, 9, none⟩ = some (.int .i64 s9) ∧ W.cell? ⟨gx, 10, none⟩ = some (.int .i64 s10) ∧ W.cell? ⟨gy, 0, none⟩ = some (.int .i64 o0) ∧ W.cell? ⟨gy, 1, none⟩ = some (.int .i64 o1) ∧ W.cell? ⟨gy, 2, none⟩ = some (.int .i64 o2) ∧ W.cell? ⟨gy, 3, none⟩ = some (.int .i64 o3) ∧ W.cell? ⟨gy, 4, none⟩ = some (.int .i64 o4) ∧ W.cell? ⟨gy, 5, none⟩ = some (.int .i64 o5) ∧ W.cell? ⟨gy, 6, none⟩ = some (.int .i64 o6) ∧ W.cell? ⟨gy, 7, none⟩ = some (.int .i64 o7) ∧ W.cell? ⟨gy, 8, none⟩ = some (.int .i64 o8) ∧ W.cell? ⟨gy, 9, none⟩ = some (.int .i64 o9) ∧ W.cell? ⟨gy, 10, none⟩ = some (.int .i64 o10))) (((try go_split_ands); first | (with_reducible refine Mt.all (Mt.drew ?_); with_reducible assumption) | (with_reducible refine Mt.all ?_; with_reducible assumption) | (with_reducible refine Mt.all (Mt.below ?_ hb); with_reducible assumption)))
      (first | (go_at_call 25; (try go_split_ands); with_reducible refine (byt_mt _ s0 s1 s2 s3 s4 s5 s6 s7 s8 s9 s10 HW.out n HN1.out).mono ?_; rintro e w' ⟨t1, rfl, ht1, hb⟩) | (go_at_call 25; (try go_split_ands); with_reducible refine (byt_mt _ o0 o1 o2 o3 o4 o5 o6 o7 o8 o9 o10 HWO.out n HN2.out).mono ?_; rintro e w' ⟨t2, rfl, ht2, hb⟩) | (go_at_call 23; (try go_split_ands); with_reducible refine (statement_Same.calls s0 s1 s2 s3 s4 s5 s6 s7 s8 s9 s10 o0 o1 o2 o3 o4 o5 o6 o7 o8 o9 o10 false _ HSM.out).mono ?_; rintro e w' ⟨rfl, hb⟩) | (go_at_call 20; (try go_split_ands); with_reducible refine (ver_mt HG.out (by with_reducible assumption) hc8 o0 o1 o2 o3 o4 o5 o6 o7 o8 o9 o10 false HVO.out).mono ?_; rintro e w' ⟨rfl, hb⟩))
    all_goals
      (try go_split_ands)
      have HBB : Aside0 (Below w.heap.size w w') := ⟨by refine CW.hb (gd := gd) (L := L) (ad := ad) (ps := l) (v9 := .slice none 0 0) (ch := []) (Mt.h (gx := gx) (gy := gy) (cs := #[.int .i64 s0, .int .i64 s1, .int .i64 s2, .int .i64 s3, .int .i64 s4, .int .i64 s5, .int .i64 s6, .int .i64 s7, .int .i64 s8, .int .i64 s9, .int .i64 s10]) (ds := #[.int .i64 o0, .int .i64 o1, .int .i64 o2, .int .i64 o3, .int .i64 o4, .int .i64 o5, .int .i64 o6, .int .i64 o7, .int .i64 o8, .int .i64 o9, .int .i64 o10]) ?_); with_reducible assumption⟩
      go_wp2_with fail
      go_ret
      exact ⟨rfl, HBB.out⟩
end Go.Proofs.YtcalkhlchjjalaaDoor.Gsm

namespace Go.Proofs.YtcalkhlchjjalaaDoor.statementMarks
open Go.ChangeShapes Go.WideShapes Go.ChangeAt Go.RowKit
set_option linter.unusedVariables false
theorem own : ownKnob Tryd.prog.godebug = none := by kernel_rfl
theorem laidOut : laidOutB Tryd.prog = true := by kernel_rfl
def IsRow (k : IntKind) (w : World) (a : Option Addr) (len cap : Nat) (zs : List Int) : Prop :=
  (a = none ∧ len = 0 ∧ cap = 0 ∧ zs = []) ∨
  ∃ x, a = some x ∧ len ≤ cap ∧ cap ≤ maxLen ∧ zs.length = cap ∧ (∀ i, i < zs.length → w.cell? (x.add i) = some (.int k (zs.getD i 0))) ∧ ∀ n ∈ zs, (Lit.int k n).wf = true
set_option maxRecDepth 100000 in
theorem lifted (os : Os) (started : os.Started) (H : Type) (enc : TypeId × Value → H) :
    ReturnsInHanded {} Tryd.checked os 6 .any (fun w args => (Rows.statementMarksSpec.pre enc Tryd.prog Tryd.f6 Rows.statementMarksRow.domain false w args ∧ laidMetH Tryd.prog Gla.Lst w) ∧ sizedMet enc Tryd.prog Tryd.f6 (OpenSpec.ofChange Rows.statementMarksSpec) false w args) (Rows.statementMarksSpec.post enc Tryd.prog Tryd.f6 false true false false) := by
  refine returnsInHanded_of_change_and (C := Tryd.checked) (X := fun w _ => laidMetH Tryd.prog Gla.Lst w) (fun _ _ _ hh h => h.of_heap hh) own started (by kernel_rfl) Tryd.func6
    (ChangeSpec.witness_shaped (enc := enc) (C := Tryd.checked) (os := os) (X := fun w _ => laidMetH Tryd.prog Gla.Lst w) false (World.laidAll Tryd.prog os Gla.Lst) #[.slice none 0 0, .int .u8 0] 8 (World.laidAll_os _ _ _)
      (World.shaped_of_ZipB (by kernel_rfl) (by kernel_rfl)) (by kernel_rfl) (by kernel_rfl) (by kernel_rfl)
      (by rw [MakeChecks.laidMetH_plain _ _ _ (by kernel_rfl)]; exact laidMet_laidAll _ (by kernel_rfl) (by kernel_rfl))) ?_
  intro W base args ds gs before hval0 hW hcnd hsz0 hL _
  have hval : ∀ (j : Nat) t v, Tryd.f6.params[j]? = some t → args[j]? = some v → Value.okWide Tryd.prog W .any base t v := hval0
  have hW' := hW
  obtain ⟨p, q, hA0, hV, rfl, hfz, hnd⟩ := hW
  have hA : DataW.TrodAll enc Tryd.prog W 0 (fun _ => true) true Tryd.f6.params.toList args.toList ds p := hA0
  rw [Tryd.params6] at hA hval
  obtain ⟨v0, vs0, d0, ds0, p0, q0, hargs, rfl, rfl, h0, r0⟩ := trodAll_cons hA
  obtain ⟨v1, vs1, d1, ds1, p1, q1, rfl, rfl, rfl, h1, r1⟩ := trodAll_cons r0
  obtain ⟨rfl, rfl, rfl⟩ := trodAll_nil r1
  obtain rfl : args = #[v0, v1] := by cases args; simp_all
  obtain ⟨rfl, rfl⟩ := trodVars_none hV
  obtain ⟨a0, len0, cap0, rfl⟩ := okWide_slice Tryd.underlying22 (hval 0 22 v0 rfl rfl)
  have k0 := h0
  have lt0 : ∀ x ∈ p0, x.block < W.heap.size := by obtain ⟨m, hm⟩ := k0; exact DataW.trod_lt m _ _ _ hm
  obtain ⟨z0, w0⟩ : ∃ zs, IsRow .i64 W a0 len0 cap0 zs := by
    obtain ⟨fuel, hf⟩ := h0
    rcases open_ints Tryd.underlying22 Tryd.underlying3 (by kernel_rfl) hf with ⟨hcs, _⟩ | ⟨x, l, c, zs, hcs, _, hl, hm, hz, _, hcell, hwz⟩
    · simp [Value.cells] at hcs
      obtain ⟨rfl, rfl, rfl⟩ := hcs
      exact ⟨[], .inl ⟨rfl, rfl, rfl, rfl⟩⟩
    · simp [Value.cells] at hcs
      obtain ⟨rfl, rfl, rfl⟩ := hcs
      exact ⟨zs, .inr ⟨_, rfl, hl, hm, by simpa using hz, hcell, hwz⟩⟩
  obtain ⟨a1, rfl, rfl, rfl, w1⟩ := open_int Tryd.underlying5 (hval 1 5 v1 rfl rfl) h1
  clear hA0 hval0 hsz0
  obtain ⟨l0, rfl, hr0, hm0, hw0, hc0⟩ := Go.Proofs.YtcalkhlchjjalaaDoorW.PrintWords.ReadsInt.ofRowC w0
  have b1 : 0 ≤ a1 ∧ a1 ≤ 255 := by simpa [Lit.wf, IntKind.min, IntKind.max, IntKind.signed, IntKind.bits] using w1
  refine (Gsm.marks_x a0 cap0 l0 a1 W (Go.Proofs.YtcalkhlchjjalaaDoorW.PrintWords.Kd.C_of_reads (d := (0 : Int)) (h1 := fun _ => rfl) hr0) hc0 b1 (Gla.GL_of_laid hL)).mono fun e W' ⟨he, bel⟩ => ?_
  subst he
  exact ⟨_, rfl, _, _, _, [], _, [], hW', trodAll_mk1 (shut_bool Tryd.underlying4 _), (trodAll_cons_mk (Below.trod laidOut (by kernel_rfl) (of_decide_eq_true (by kernel_rfl)) k0 bel lt0) (trodAll_cons_mk (shut_int Tryd.underlying5 w1) trodAll_mk0)), rfl, bel.frame _, fun h => by cases h⟩
theorem over : Rows.StatementMarksSaid :=
  OpenClaim.holds_of_wide 6 Tryd.f6 rfl rfl rfl rfl rfl rfl rfl ⟨rfl, rfl, rfl, rfl, rfl⟩ rfl rfl rfl rfl rfl (by kernel_rfl) Tryd.func6 (by kernel_rfl)
    (of_decide_eq_true (by kernel_rfl)) (by unfold Func.isWrapper; first | (rw [if_pos (by decide +kernel)]; kernel_rfl) | (rw [if_neg (by decide +kernel)]; exact ⟨rfl, rfl⟩))
    (fun os started H enc _ => lifted os started H enc)
theorem card : Rows.StatementMarksCardSaid :=
  Claim7.holds_tied_plain_at .later [] [.wider, .wider, .data] true (true, "5d651258c026d4f3c1937d3a0b343ce8ca524cb81f341bc712b54841b9e85cc9") false over (fun _ h => by cases h) (by kernel_rfl) (fun _ h => by cases h) statementMarks_row_tie rfl ⟨rfl, rfl⟩ (by kernel_rfl) rfl
    (fun f fn hf hfn => by
      obtain rfl : f = 6 := Option.some.inj ((show Tryd.prog.funcNamed "storagebarter/storagebarterlaw15.StatementMarks" = some 6 by kernel_rfl).symm.trans hf) |>.symm
      obtain rfl : fn = Tryd.f6 := (Option.some.inj (Tryd.func6.symm.trans hfn)).symm
      exact ⟨by kernel_rfl, fun j t ht => by
        rw [Tryd.params6] at ht
        have hm : t ∈ [22, 5] := by have := Array.mem_of_getElem? ht; simp at this; simp; omega
        have hall : ([22, 5].all fun u => !Tryd.prog.wantsStandIn u) = true := by kernel_rfl
        exact (show Tryd.prog.wantsStandIn t = false by simpa using List.all_eq_true.1 hall t hm)⟩)
    (by kernel_rfl)
end Go.Proofs.YtcalkhlchjjalaaDoor.statementMarks
namespace Go.Proofs.YtcalkhlchjjalaaDoor
/-- The card, under a short name, for the claim. -/
theorem statementMarks_holds : Rows.StatementMarksCardSaid := statementMarks.card
#print axioms statementMarks_holds
end Go.Proofs.YtcalkhlchjjalaaDoor
