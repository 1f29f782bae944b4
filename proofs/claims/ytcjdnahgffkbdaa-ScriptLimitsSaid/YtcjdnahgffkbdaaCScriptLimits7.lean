/- ScriptLimitsSaid -/
import Derived.Test.YtcjdnahgffkbdaaCScriptLimits4
import Derived.Test.YtcjdnahgffkbdaaCScriptLimits6
import Derived.Test.YtcjdnahgffkbdaaCScriptLimits5
import Derived.Test.YtcjdnahgffkbdaaCScriptLimits1
import Derived.Test.YtcjdnahgffkbdaaRows
import Derived.WalkKit
import Derived.ProofKit
import Derived.OpenShut
import Derived.ShutString
import Derived.ChangeOld
import Derived.Below
import Derived.SizedLaws
namespace Go.Proofs.Ytcjdnahgffkbdaa.Q
open Go.RowKit Go.Proofs.YtcjdnahgffkbdaaW.PrintWords Go.Proofs.YtcjdnahgffkbdaaW.PrintLast Go.Proofs.YtcjdnahgffkbdaaW.PrintMore Go.Proofs.Ytcjdnahgffkbdaa.Gput Go.Proofs.Ytcjdnahgffkbdaa.Gputl
attribute [local go_sem] max2_int min2_int max_two min_two max_three min_three max_four min_four   -- for this text's walks alone
set_option linter.unusedVariables false
set_option linter.unusedSimpArgs false
def storagebarterref42_One.f (k : Nat) (a0_0 : Int) (a0_1 : Int) (a0_2 : Int) (a0_3 : Int) (a0_4 : ByteArray) (a0_5 : Int) (a0_6 : Int) (l0_7 : List (S64)) (a1_0 : Int) (a1_1 : Int) (a1_2 : Int) (a1_3 : Int) (a1_4 : ByteArray) (a1_5 : Int) (a1_6 : Int) (l1_7 : List (S64)) : Option (Bool) := if a0_0 = a1_0 then (if a0_1 = a1_1 then (if a0_2 = a1_2 then (if a0_3 = a1_3 then (if a0_4.toList = a1_4.toList then ((storagebarterref23_Same.f k 0 0 0 0 ([] : List (S64)) (⟨#[]⟩ : ByteArray) a0_5 a0_6 l0_7 0 0 0 0 ([] : List (S64)) (⟨#[]⟩ : ByteArray) a1_5 a1_6 l1_7).bind fun t201 => (some t201)) else (some false)) else (some false)) else (some false)) else (some false)) else (some false)
theorem storagebarterref42_One.mono : ∀ a0 a1 a2 a3 a4 a5 a6 a7 a8 a9 a10 a11 a12 a13 a14 a15 k, LeO (storagebarterref42_One.f k a0 a1 a2 a3 a4 a5 a6 a7 a8 a9 a10 a11 a12 a13 a14 a15) (storagebarterref42_One.f (k + 1) a0 a1 a2 a3 a4 a5 a6 a7 a8 a9 a10 a11 a12 a13 a14 a15) := by
  intro a0 a1 a2 a3 a4 a5 a6 a7 a8 a9 a10 a11 a12 a13 a14 a15 k
  unfold storagebarterref42_One.f
  repeat' first
      | (with_reducible exact storagebarterref23_Same.mono _ _ _ _ _ _ _ _ _ _ _ _ _ _ _ _ _ _ _)
      | (with_reducible exact LeO.refl _)
      | (with_reducible exact LeO.none _)
      | (with_reducible refine LeO.ite ?_ ?_)
      | (with_reducible refine LeO.bind ?_ (fun _ => ?_))
      | exact storagebarterref23_Same.mono _ _ _ _ _ _ _ _ _ _ _ _ _ _ _ _ _ _ _
      | exact LeO.none _
      | refine LeO.ite ?_ ?_
      | refine LeO.bind ?_ (fun _ => ?_)
set_option maxHeartbeats 8000000 in
set_option maxRecDepth 100000 in
theorem storagebarterref42_One.calls (k : Nat) (a0_0 : Int) (a0_1 : Int) (a0_2 : Int) (a0_3 : Int) (a0_4 : ByteArray) (a0_5 : Int) (a0_6 : Int) (A0_7 : Option Addr) (c0_7 : Nat) (l0_7 : List (S64)) (a1_0 : Int) (a1_1 : Int) (a1_2 : Int) (a1_3 : Int) (a1_4 : ByteArray) (a1_5 : Int) (a1_6 : Int) (A1_7 : Option Addr) (c1_7 : Nat) (l1_7 : List (S64)) (r : Bool) (w : World) (hr0_7 : Kd.C k64 w A0_7 l0_7.length l0_7) (hc0_7 : l0_7.length ≤ c0_7) (hr1_7 : Kd.C k64 w A1_7 l1_7.length l1_7) (hc1_7 : l1_7.length ≤ c1_7) (h : storagebarterref42_One.f k a0_0 a0_1 a0_2 a0_3 a0_4 a0_5 a0_6 l0_7 a1_0 a1_1 a1_2 a1_3 a1_4 a1_5 a1_6 l1_7 = some r) :
    Calls Try.prog 16 #[.agg #[.int .i64 a0_0, .int .i64 a0_1, .int .i64 a0_2, .int .i64 a0_3, .string a0_4, .int .i64 a0_5, .int .i64 a0_6, .slice A0_7 l0_7.length c0_7], .agg #[.int .i64 a1_0, .int .i64 a1_1, .int .i64 a1_2, .int .i64 a1_3, .string a1_4, .int .i64 a1_5, .int .i64 a1_6, .slice A1_7 l1_7.length c1_7]] w fun e w' => e = .returned (.bool r) ∧ Below w.heap.size w w' := by
  have hu28 := Try.underlying28
  have hu26 := Try.underlying26
  have hu72 := Try.underlying72
  have HR0_7 := Aside0.mk hr0_7
  have HC0_7 := Aside0.mk hc0_7
  clear hr0_7 hc0_7
  have HR1_7 := Aside0.mk hr1_7
  have HC1_7 := Aside0.mk hc1_7
  clear hr1_7 hc1_7
  have HB := Aside0.mk (Below.refl w.heap.size w)
  have H : (if a0_0 = a1_0 then (if a0_1 = a1_1 then (if a0_2 = a1_2 then (if a0_3 = a1_3 then (if a0_4.toList = a1_4.toList then ((storagebarterref23_Same.f k 0 0 0 0 ([] : List (S64)) (⟨#[]⟩ : ByteArray) a0_5 a0_6 l0_7 0 0 0 0 ([] : List (S64)) (⟨#[]⟩ : ByteArray) a1_5 a1_6 l1_7).bind fun t201 => (some t201)) else (some false)) else (some false)) else (some false)) else (some false)) else (some false)) = some r := h
  clear h
  by_cases c3 : a0_0 = a1_0
  · rw [if_pos c3] at H
    have c3b0 : (a0_0 == a1_0) = true := beq_iff_eq.mpr c3
    have c3b1 : (a0_0 != a1_0) = false := bne_eq_false_iff_eq.mpr c3
    clear c3
    by_cases c4 : a0_1 = a1_1
    · rw [if_pos c4] at H
      have c4b0 : (a0_1 == a1_1) = true := beq_iff_eq.mpr c4
      have c4b1 : (a0_1 != a1_1) = false := bne_eq_false_iff_eq.mpr c4
      clear c4
      by_cases c5 : a0_2 = a1_2
      · rw [if_pos c5] at H
        have c5b0 : (a0_2 == a1_2) = true := beq_iff_eq.mpr c5
        have c5b1 : (a0_2 != a1_2) = false := bne_eq_false_iff_eq.mpr c5
        clear c5
        by_cases c6 : a0_3 = a1_3
        · rw [if_pos c6] at H
          have c6b0 : (a0_3 == a1_3) = true := beq_iff_eq.mpr c6
          have c6b1 : (a0_3 != a1_3) = false := bne_eq_false_iff_eq.mpr c6
          clear c6
          by_cases c7 : a0_4.toList = a1_4.toList
          · rw [if_pos c7] at H
            have c7b0 : (a0_4.toList == a1_4.toList) = true := beq_iff_eq.mpr c7
            have c7b1 : (a0_4.toList != a1_4.toList) = false := bne_eq_false_iff_eq.mpr c7
            clear c7
            replace H := Option.bind_eq_some_iff.mp H
            obtain ⟨t201, A80, H⟩ := H
            replace H : (some t201) = some r := H
            have A8 := Aside0.mk A80
            clear A80
            obtain rfl := Option.some.inj H
            go_enter Try.func16, Try.ntmps16
            go_wp2_with (first | ((with_reducible refine gate_dst (N := 2) rfl ?_); refine box_event ?hg (N := 2) ?hd (cs := #[.int .i64 a0_0, .int .i64 a0_1, .int .i64 a0_2, .int .i64 a0_3, .string a0_4, .int .i64 a0_5, .int .i64 a0_6, .slice A0_7 l0_7.length c0_7]) (t := 28) ?hr ?_; (case hd => rfl); (case hg => rfl); (case hr => first | (go_simp; done) | (go_simp; rfl)); intro gb199 hg w9 hbox hb; have n0_ := Aside0.mk (below_step (by repeat (first | (with_reducible first | exact HB.out | apply below_alloc | apply pw_below_drewN | apply below_drew1) | exact HB.out)) hb); have n1_ := Aside0.mk (hbox); have n2_ := Aside0.mk ((by rw [hg]; exact (below_size (by repeat (first | (with_reducible first | exact HB.out | apply below_alloc | apply pw_below_drewN | apply below_drew1) | exact HB.out))) : w.heap.size ≤ gb199)); have n3_ := Aside0.mk ((by rw [hg]; exact (below_size (by repeat (first | (with_reducible first | exact HB.out | apply below_alloc | apply pw_below_drewN | apply below_drew1) | exact HB.out))) : w.heap.size ≤ gb199)); clear HB; have HB := n0_; have BK199 := n1_; have GW199 := n2_; have GE199 := n3_; clear n0_ n1_ n2_ n3_; clear hb hbox hg) | ((with_reducible refine gate_dst (N := 3) rfl ?_); refine box_event ?hg (N := 3) ?hd (cs := #[.int .i64 a1_0, .int .i64 a1_1, .int .i64 a1_2, .int .i64 a1_3, .string a1_4, .int .i64 a1_5, .int .i64 a1_6, .slice A1_7 l1_7.length c1_7]) (t := 28) ?hr ?_; (case hd => rfl); (case hg => rfl); (case hr => first | (go_simp; done) | (go_simp; rfl)); intro gb200 hg w10 hbox hb; have n0_ := Aside0.mk (blk_below (g := gb199) (o := .cells #[.int .i64 a0_0, .int .i64 a0_1, .int .i64 a0_2, .int .i64 a0_3, .string a0_4, .int .i64 a0_5, .int .i64 a0_6, .slice A0_7 l0_7.length c0_7] 28 (0, 0)) (by (with_reducible repeat (first | refine blk_drewN ?_ _ | refine blk_drew ?_ | refine blk_alloc ?_ _)); exact BK199.out) hb); have n1_ := Aside0.mk (below_step (by repeat (first | (with_reducible first | exact HB.out | apply below_alloc | apply pw_below_drewN | apply below_drew1 | refine below_set ?_ GE199.out) | exact HB.out)) hb); have n2_ := Aside0.mk (hbox); have n3_ := Aside0.mk ((by rw [hg]; exact (below_size (by repeat (first | (with_reducible first | exact HB.out | apply below_alloc | apply pw_below_drewN | apply below_drew1 | refine below_set ?_ GE199.out) | exact HB.out))) : w.heap.size ≤ gb200)); have n4_ := Aside0.mk ((by rw [hg]; exact (below_size (by repeat (first | (with_reducible first | exact HB.out | apply below_alloc | apply pw_below_drewN | apply below_drew1 | refine below_set ?_ GE199.out) | exact HB.out))) : w.heap.size ≤ gb200)); have n5_ := Aside0.mk ((by rw [hg]; exact Nat.ne_of_lt (blk_lt (g := gb199) (o := .cells #[.int .i64 a0_0, .int .i64 a0_1, .int .i64 a0_2, .int .i64 a0_3, .string a0_4, .int .i64 a0_5, .int .i64 a0_6, .slice A0_7 l0_7.length c0_7] 28 (0, 0)) (by (with_reducible repeat (first | refine blk_drewN ?_ _ | refine blk_drew ?_ | refine blk_alloc ?_ _)); exact BK199.out)) : gb199 ≠ gb200)); have n6_ := Aside0.mk ((by rw [hg]; exact Nat.ne_of_gt (blk_lt (g := gb199) (o := .cells #[.int .i64 a0_0, .int .i64 a0_1, .int .i64 a0_2, .int .i64 a0_3, .string a0_4, .int .i64 a0_5, .int .i64 a0_6, .slice A0_7 l0_7.length c0_7] 28 (0, 0)) (by (with_reducible repeat (first | refine blk_drewN ?_ _ | refine blk_drew ?_ | refine blk_alloc ?_ _)); exact BK199.out)) : gb200 ≠ gb199)); clear BK199; clear HB; have BK199 := n0_; have HB := n1_; have BK200 := n2_; have GW200 := n3_; have GE200 := n4_; have NB199_200 := n5_; have NB200_199 := n6_; clear n0_ n1_ n2_ n3_ n4_ n5_ n6_; clear hb hbox hg; have hnb11 := NB199_200.out; have hnc11 := NB200_199.out; have hcz12_0 : w10.cell? ⟨gb199, 0, none⟩ = some (.int .i64 a0_0) := (blk_cell BK199.out 0).trans rfl; have hcz12_1 : w10.cell? ⟨gb199, 1, none⟩ = some (.int .i64 a0_1) := (blk_cell BK199.out 1).trans rfl; have hcz12_2 : w10.cell? ⟨gb199, 2, none⟩ = some (.int .i64 a0_2) := (blk_cell BK199.out 2).trans rfl; have hcz12_3 : w10.cell? ⟨gb199, 3, none⟩ = some (.int .i64 a0_3) := (blk_cell BK199.out 3).trans rfl; have hcz12_4 : w10.cell? ⟨gb199, 4, none⟩ = some (.string a0_4) := (blk_cell BK199.out 4).trans rfl; have hcz12_5 : w10.cell? ⟨gb199, 5, none⟩ = some (.int .i64 a0_5) := (blk_cell BK199.out 5).trans rfl; have hcz12_6 : w10.cell? ⟨gb199, 6, none⟩ = some (.int .i64 a0_6) := (blk_cell BK199.out 6).trans rfl; have hcz12_7 : w10.cell? ⟨gb199, 7, none⟩ = some (.slice A0_7 l0_7.length c0_7) := (blk_cell BK199.out 7).trans rfl; have hfz12_0 := blk_frozen BK199.out 0; have hfz12_1 := blk_frozen BK199.out 1; have hfz12_2 := blk_frozen BK199.out 2; have hfz12_3 := blk_frozen BK199.out 3; have hfz12_4 := blk_frozen BK199.out 4; have hfz12_5 := blk_frozen BK199.out 5; have hfz12_6 := blk_frozen BK199.out 6; have hfz12_7 := blk_frozen BK199.out 7; have hcz13_0 : w10.cell? ⟨gb200, 0, none⟩ = some (.int .i64 a1_0) := (blk_cell BK200.out 0).trans rfl; have hcz13_1 : w10.cell? ⟨gb200, 1, none⟩ = some (.int .i64 a1_1) := (blk_cell BK200.out 1).trans rfl; have hcz13_2 : w10.cell? ⟨gb200, 2, none⟩ = some (.int .i64 a1_2) := (blk_cell BK200.out 2).trans rfl; have hcz13_3 : w10.cell? ⟨gb200, 3, none⟩ = some (.int .i64 a1_3) := (blk_cell BK200.out 3).trans rfl; have hcz13_4 : w10.cell? ⟨gb200, 4, none⟩ = some (.string a1_4) := (blk_cell BK200.out 4).trans rfl; have hcz13_5 : w10.cell? ⟨gb200, 5, none⟩ = some (.int .i64 a1_5) := (blk_cell BK200.out 5).trans rfl; have hcz13_6 : w10.cell? ⟨gb200, 6, none⟩ = some (.int .i64 a1_6) := (blk_cell BK200.out 6).trans rfl; have hcz13_7 : w10.cell? ⟨gb200, 7, none⟩ = some (.slice A1_7 l1_7.length c1_7) := (blk_cell BK200.out 7).trans rfl; have hfz13_0 := blk_frozen BK200.out 0; have hfz13_1 := blk_frozen BK200.out 1; have hfz13_2 := blk_frozen BK200.out 2; have hfz13_3 := blk_frozen BK200.out 3; have hfz13_4 := blk_frozen BK200.out 4; have hfz13_5 := blk_frozen BK200.out 5; have hfz13_6 := blk_frozen BK200.out 6; have hfz13_7 := blk_frozen BK200.out 7) | (go_at_call 33; (refine (storagebarterref23_Same.calls k 0 0 0 0 _ _ ([] : List (S64)) (⟨#[]⟩ : ByteArray) a0_5 a0_6 _ _ l0_7 0 0 0 0 _ _ ([] : List (S64)) (⟨#[]⟩ : ByteArray) a1_5 a1_6 _ _ l1_7 t201 _ ?side1 ?side2 ?side3 ?side4 ?side5 ?side6 ?side7 ?side8 A8.out).mono ?_); (case side1 => exact Kd.C_nil _ _); (case side2 => exact Nat.le_refl _); (case side3 => repeat (first | exact (Kd.C_below HR0_7.out HB.out) | (with_reducible refine Kd.C_alloc ?_ _) | (with_reducible refine Kd.C_drewN ?_ _) | (with_reducible refine Kd.C_drew ?_))); (case side4 => exact HC0_7.out); (case side5 => exact Kd.C_nil _ _); (case side6 => exact Nat.le_refl _); (case side7 => repeat (first | exact (Kd.C_below HR1_7.out HB.out) | (with_reducible refine Kd.C_alloc ?_ _) | (with_reducible refine Kd.C_drewN ?_ _) | (with_reducible refine Kd.C_drew ?_))); (case side8 => exact HC1_7.out); rintro e w14 ⟨rfl, hb⟩; have n0_ := Aside0.mk (blk_below (g := gb199) (o := .cells #[.int .i64 a0_0, .int .i64 a0_1, .int .i64 a0_2, .int .i64 a0_3, .string a0_4, .int .i64 a0_5, .int .i64 a0_6, .slice A0_7 l0_7.length c0_7] 28 (0, 0)) (by (with_reducible repeat (first | refine blk_drewN ?_ _ | refine blk_drew ?_ | refine blk_alloc ?_ _)); exact BK199.out) hb); have n1_ := Aside0.mk (blk_below (g := gb200) (o := .cells #[.int .i64 a1_0, .int .i64 a1_1, .int .i64 a1_2, .int .i64 a1_3, .string a1_4, .int .i64 a1_5, .int .i64 a1_6, .slice A1_7 l1_7.length c1_7] 28 (0, 0)) (by (with_reducible repeat (first | refine blk_drewN ?_ _ | refine blk_drew ?_ | refine blk_alloc ?_ _)); exact BK200.out) hb); have n2_ := Aside0.mk (below_step (by repeat (first | (with_reducible first | exact HB.out | apply below_alloc | apply pw_below_drewN | apply below_drew1 | refine below_set ?_ GE199.out | refine below_set ?_ GE200.out) | exact HB.out)) hb); clear BK199; clear BK200; clear HB; have BK199 := n0_; have BK200 := n1_; have HB := n2_; clear n0_ n1_ n2_; (try clear hb); (try clear hb2); (try clear hk); (try clear hi)))
            go_ret
            exact ⟨by first | rfl | (simp [errW_none, errW_some] <;> rfl) | (simp [*, errW_none, errW_some] <;> rfl), by repeat (first | (with_reducible first | exact HB.out | apply below_alloc | apply pw_below_drewN | apply below_drew1 | refine below_set ?_ GE199.out | refine below_set ?_ GE200.out) | exact HB.out)⟩
          · rw [if_neg c7] at H
            have c7b0 : (a0_4.toList == a1_4.toList) = false := beq_eq_false_iff_ne.mpr c7
            have c7b1 : (a0_4.toList != a1_4.toList) = true := bne_iff_ne.mpr c7
            obtain rfl := Option.some.inj H
            go_enter Try.func16, Try.ntmps16
            go_wp2_with (first | ((with_reducible refine gate_dst (N := 2) rfl ?_); refine box_event ?hg (N := 2) ?hd (cs := #[.int .i64 a0_0, .int .i64 a0_1, .int .i64 a0_2, .int .i64 a0_3, .string a0_4, .int .i64 a0_5, .int .i64 a0_6, .slice A0_7 l0_7.length c0_7]) (t := 28) ?hr ?_; (case hd => rfl); (case hg => rfl); (case hr => first | (go_simp; done) | (go_simp; rfl)); intro gb199 hg w15 hbox hb; have n0_ := Aside0.mk (below_step (by repeat (first | (with_reducible first | exact HB.out | apply below_alloc | apply pw_below_drewN | apply below_drew1) | exact HB.out)) hb); have n1_ := Aside0.mk (hbox); have n2_ := Aside0.mk ((by rw [hg]; exact (below_size (by repeat (first | (with_reducible first | exact HB.out | apply below_alloc | apply pw_below_drewN | apply below_drew1) | exact HB.out))) : w.heap.size ≤ gb199)); have n3_ := Aside0.mk ((by rw [hg]; exact (below_size (by repeat (first | (with_reducible first | exact HB.out | apply below_alloc | apply pw_below_drewN | apply below_drew1) | exact HB.out))) : w.heap.size ≤ gb199)); clear HB; have HB := n0_; have BK199 := n1_; have GW199 := n2_; have GE199 := n3_; clear n0_ n1_ n2_ n3_; clear hb hbox hg) | ((with_reducible refine gate_dst (N := 3) rfl ?_); refine box_event ?hg (N := 3) ?hd (cs := #[.int .i64 a1_0, .int .i64 a1_1, .int .i64 a1_2, .int .i64 a1_3, .string a1_4, .int .i64 a1_5, .int .i64 a1_6, .slice A1_7 l1_7.length c1_7]) (t := 28) ?hr ?_; (case hd => rfl); (case hg => rfl); (case hr => first | (go_simp; done) | (go_simp; rfl)); intro gb200 hg w16 hbox hb; have n0_ := Aside0.mk (blk_below (g := gb199) (o := .cells #[.int .i64 a0_0, .int .i64 a0_1, .int .i64 a0_2, .int .i64 a0_3, .string a0_4, .int .i64 a0_5, .int .i64 a0_6, .slice A0_7 l0_7.length c0_7] 28 (0, 0)) (by (with_reducible repeat (first | refine blk_drewN ?_ _ | refine blk_drew ?_ | refine blk_alloc ?_ _)); exact BK199.out) hb); have n1_ := Aside0.mk (below_step (by repeat (first | (with_reducible first | exact HB.out | apply below_alloc | apply pw_below_drewN | apply below_drew1 | refine below_set ?_ GE199.out) | exact HB.out)) hb); have n2_ := Aside0.mk (hbox); have n3_ := Aside0.mk ((by rw [hg]; exact (below_size (by repeat (first | (with_reducible first | exact HB.out | apply below_alloc | apply pw_below_drewN | apply below_drew1 | refine below_set ?_ GE199.out) | exact HB.out))) : w.heap.size ≤ gb200)); have n4_ := Aside0.mk ((by rw [hg]; exact (below_size (by repeat (first | (with_reducible first | exact HB.out | apply below_alloc | apply pw_below_drewN | apply below_drew1 | refine below_set ?_ GE199.out) | exact HB.out))) : w.heap.size ≤ gb200)); have n5_ := Aside0.mk ((by rw [hg]; exact Nat.ne_of_lt (blk_lt (g := gb199) (o := .cells #[.int .i64 a0_0, .int .i64 a0_1, .int .i64 a0_2, .int .i64 a0_3, .string a0_4, .int .i64 a0_5, .int .i64 a0_6, .slice A0_7 l0_7.length c0_7] 28 (0, 0)) (by (with_reducible repeat (first | refine blk_drewN ?_ _ | refine blk_drew ?_ | refine blk_alloc ?_ _)); exact BK199.out)) : gb199 ≠ gb200)); have n6_ := Aside0.mk ((by rw [hg]; exact Nat.ne_of_gt (blk_lt (g := gb199) (o := .cells #[.int .i64 a0_0, .int .i64 a0_1, .int .i64 a0_2, .int .i64 a0_3, .string a0_4, .int .i64 a0_5, .int .i64 a0_6, .slice A0_7 l0_7.length c0_7] 28 (0, 0)) (by (with_reducible repeat (first | refine blk_drewN ?_ _ | refine blk_drew ?_ | refine blk_alloc ?_ _)); exact BK199.out)) : gb200 ≠ gb199)); clear BK199; clear HB; have BK199 := n0_; have HB := n1_; have BK200 := n2_; have GW200 := n3_; have GE200 := n4_; have NB199_200 := n5_; have NB200_199 := n6_; clear n0_ n1_ n2_ n3_ n4_ n5_ n6_; clear hb hbox hg; have hnb17 := NB199_200.out; have hnc17 := NB200_199.out; have hcz18_0 : w16.cell? ⟨gb199, 0, none⟩ = some (.int .i64 a0_0) := (blk_cell BK199.out 0).trans rfl; have hcz18_1 : w16.cell? ⟨gb199, 1, none⟩ = some (.int .i64 a0_1) := (blk_cell BK199.out 1).trans rfl; have hcz18_2 : w16.cell? ⟨gb199, 2, none⟩ = some (.int .i64 a0_2) := (blk_cell BK199.out 2).trans rfl; have hcz18_3 : w16.cell? ⟨gb199, 3, none⟩ = some (.int .i64 a0_3) := (blk_cell BK199.out 3).trans rfl; have hcz18_4 : w16.cell? ⟨gb199, 4, none⟩ = some (.string a0_4) := (blk_cell BK199.out 4).trans rfl; have hcz18_5 : w16.cell? ⟨gb199, 5, none⟩ = some (.int .i64 a0_5) := (blk_cell BK199.out 5).trans rfl; have hcz18_6 : w16.cell? ⟨gb199, 6, none⟩ = some (.int .i64 a0_6) := (blk_cell BK199.out 6).trans rfl; have hcz18_7 : w16.cell? ⟨gb199, 7, none⟩ = some (.slice A0_7 l0_7.length c0_7) := (blk_cell BK199.out 7).trans rfl; have hfz18_0 := blk_frozen BK199.out 0; have hfz18_1 := blk_frozen BK199.out 1; have hfz18_2 := blk_frozen BK199.out 2; have hfz18_3 := blk_frozen BK199.out 3; have hfz18_4 := blk_frozen BK199.out 4; have hfz18_5 := blk_frozen BK199.out 5; have hfz18_6 := blk_frozen BK199.out 6; have hfz18_7 := blk_frozen BK199.out 7; have hcz19_0 : w16.cell? ⟨gb200, 0, none⟩ = some (.int .i64 a1_0) := (blk_cell BK200.out 0).trans rfl; have hcz19_1 : w16.cell? ⟨gb200, 1, none⟩ = some (.int .i64 a1_1) := (blk_cell BK200.out 1).trans rfl; have hcz19_2 : w16.cell? ⟨gb200, 2, none⟩ = some (.int .i64 a1_2) := (blk_cell BK200.out 2).trans rfl; have hcz19_3 : w16.cell? ⟨gb200, 3, none⟩ = some (.int .i64 a1_3) := (blk_cell BK200.out 3).trans rfl; have hcz19_4 : w16.cell? ⟨gb200, 4, none⟩ = some (.string a1_4) := (blk_cell BK200.out 4).trans rfl; have hcz19_5 : w16.cell? ⟨gb200, 5, none⟩ = some (.int .i64 a1_5) := (blk_cell BK200.out 5).trans rfl; have hcz19_6 : w16.cell? ⟨gb200, 6, none⟩ = some (.int .i64 a1_6) := (blk_cell BK200.out 6).trans rfl; have hcz19_7 : w16.cell? ⟨gb200, 7, none⟩ = some (.slice A1_7 l1_7.length c1_7) := (blk_cell BK200.out 7).trans rfl; have hfz19_0 := blk_frozen BK200.out 0; have hfz19_1 := blk_frozen BK200.out 1; have hfz19_2 := blk_frozen BK200.out 2; have hfz19_3 := blk_frozen BK200.out 3; have hfz19_4 := blk_frozen BK200.out 4; have hfz19_5 := blk_frozen BK200.out 5; have hfz19_6 := blk_frozen BK200.out 6; have hfz19_7 := blk_frozen BK200.out 7))
            go_ret
            exact ⟨by first | rfl | (simp [errW_none, errW_some] <;> rfl) | (simp [*, errW_none, errW_some] <;> rfl), by repeat (first | (with_reducible first | exact HB.out | apply below_alloc | apply pw_below_drewN | apply below_drew1 | refine below_set ?_ GE199.out | refine below_set ?_ GE200.out) | exact HB.out)⟩
        · rw [if_neg c6] at H
          have c6b0 : (a0_3 == a1_3) = false := beq_eq_false_iff_ne.mpr c6
          have c6b1 : (a0_3 != a1_3) = true := bne_iff_ne.mpr c6
          obtain rfl := Option.some.inj H
          go_enter Try.func16, Try.ntmps16
          go_wp2_with (first | ((with_reducible refine gate_dst (N := 2) rfl ?_); refine box_event ?hg (N := 2) ?hd (cs := #[.int .i64 a0_0, .int .i64 a0_1, .int .i64 a0_2, .int .i64 a0_3, .string a0_4, .int .i64 a0_5, .int .i64 a0_6, .slice A0_7 l0_7.length c0_7]) (t := 28) ?hr ?_; (case hd => rfl); (case hg => rfl); (case hr => first | (go_simp; done) | (go_simp; rfl)); intro gb199 hg w20 hbox hb; have n0_ := Aside0.mk (below_step (by repeat (first | (with_reducible first | exact HB.out | apply below_alloc | apply pw_below_drewN | apply below_drew1) | exact HB.out)) hb); have n1_ := Aside0.mk (hbox); have n2_ := Aside0.mk ((by rw [hg]; exact (below_size (by repeat (first | (with_reducible first | exact HB.out | apply below_alloc | apply pw_below_drewN | apply below_drew1) | exact HB.out))) : w.heap.size ≤ gb199)); have n3_ := Aside0.mk ((by rw [hg]; exact (below_size (by repeat (first | (with_reducible first | exact HB.out | apply below_alloc | apply pw_below_drewN | apply below_drew1) | exact HB.out))) : w.heap.size ≤ gb199)); clear HB; have HB := n0_; have BK199 := n1_; have GW199 := n2_; have GE199 := n3_; clear n0_ n1_ n2_ n3_; clear hb hbox hg) | ((with_reducible refine gate_dst (N := 3) rfl ?_); refine box_event ?hg (N := 3) ?hd (cs := #[.int .i64 a1_0, .int .i64 a1_1, .int .i64 a1_2, .int .i64 a1_3, .string a1_4, .int .i64 a1_5, .int .i64 a1_6, .slice A1_7 l1_7.length c1_7]) (t := 28) ?hr ?_; (case hd => rfl); (case hg => rfl); (case hr => first | (go_simp; done) | (go_simp; rfl)); intro gb200 hg w21 hbox hb; have n0_ := Aside0.mk (blk_below (g := gb199) (o := .cells #[.int .i64 a0_0, .int .i64 a0_1, .int .i64 a0_2, .int .i64 a0_3, .string a0_4, .int .i64 a0_5, .int .i64 a0_6, .slice A0_7 l0_7.length c0_7] 28 (0, 0)) (by (with_reducible repeat (first | refine blk_drewN ?_ _ | refine blk_drew ?_ | refine blk_alloc ?_ _)); exact BK199.out) hb); have n1_ := Aside0.mk (below_step (by repeat (first | (with_reducible first | exact HB.out | apply below_alloc | apply pw_below_drewN | apply below_drew1 | refine below_set ?_ GE199.out) | exact HB.out)) hb); have n2_ := Aside0.mk (hbox); have n3_ := Aside0.mk ((by rw [hg]; exact (below_size (by repeat (first | (with_reducible first | exact HB.out | apply below_alloc | apply pw_below_drewN | apply below_drew1 | refine below_set ?_ GE199.out) | exact HB.out))) : w.heap.size ≤ gb200)); have n4_ := Aside0.mk ((by rw [hg]; exact (below_size (by repeat (first | (with_reducible first | exact HB.out | apply below_alloc | apply pw_below_drewN | apply below_drew1 | refine below_set ?_ GE199.out) | exact HB.out))) : w.heap.size ≤ gb200)); have n5_ := Aside0.mk ((by rw [hg]; exact Nat.ne_of_lt (blk_lt (g := gb199) (o := .cells #[.int .i64 a0_0, .int .i64 a0_1, .int .i64 a0_2, .int .i64 a0_3, .string a0_4, .int .i64 a0_5, .int .i64 a0_6, .slice A0_7 l0_7.length c0_7] 28 (0, 0)) (by (with_reducible repeat (first | refine blk_drewN ?_ _ | refine blk_drew ?_ | refine blk_alloc ?_ _)); exact BK199.out)) : gb199 ≠ gb200)); have n6_ := Aside0.mk ((by rw [hg]; exact Nat.ne_of_gt (blk_lt (g := gb199) (o := .cells #[.int .i64 a0_0, .int .i64 a0_1, .int .i64 a0_2, .int .i64 a0_3, .string a0_4, .int .i64 a0_5, .int .i64 a0_6, .slice A0_7 l0_7.length c0_7] 28 (0, 0)) (by (with_reducible repeat (first | refine blk_drewN ?_ _ | refine blk_drew ?_ | refine blk_alloc ?_ _)); exact BK199.out)) : gb200 ≠ gb199)); clear BK199; clear HB; have BK199 := n0_; have HB := n1_; have BK200 := n2_; have GW200 := n3_; have GE200 := n4_; have NB199_200 := n5_; have NB200_199 := n6_; clear n0_ n1_ n2_ n3_ n4_ n5_ n6_; clear hb hbox hg; have hnb22 := NB199_200.out; have hnc22 := NB200_199.out; have hcz23_0 : w21.cell? ⟨gb199, 0, none⟩ = some (.int .i64 a0_0) := (blk_cell BK199.out 0).trans rfl; have hcz23_1 : w21.cell? ⟨gb199, 1, none⟩ = some (.int .i64 a0_1) := (blk_cell BK199.out 1).trans rfl; have hcz23_2 : w21.cell? ⟨gb199, 2, none⟩ = some (.int .i64 a0_2) := (blk_cell BK199.out 2).trans rfl; have hcz23_3 : w21.cell? ⟨gb199, 3, none⟩ = some (.int .i64 a0_3) := (blk_cell BK199.out 3).trans rfl; have hcz23_4 : w21.cell? ⟨gb199, 4, none⟩ = some (.string a0_4) := (blk_cell BK199.out 4).trans rfl; have hcz23_5 : w21.cell? ⟨gb199, 5, none⟩ = some (.int .i64 a0_5) := (blk_cell BK199.out 5).trans rfl; have hcz23_6 : w21.cell? ⟨gb199, 6, none⟩ = some (.int .i64 a0_6) := (blk_cell BK199.out 6).trans rfl; have hcz23_7 : w21.cell? ⟨gb199, 7, none⟩ = some (.slice A0_7 l0_7.length c0_7) := (blk_cell BK199.out 7).trans rfl; have hfz23_0 := blk_frozen BK199.out 0; have hfz23_1 := blk_frozen BK199.out 1; have hfz23_2 := blk_frozen BK199.out 2; have hfz23_3 := blk_frozen BK199.out 3; have hfz23_4 := blk_frozen BK199.out 4; have hfz23_5 := blk_frozen BK199.out 5; have hfz23_6 := blk_frozen BK199.out 6; have hfz23_7 := blk_frozen BK199.out 7; have hcz24_0 : w21.cell? ⟨gb200, 0, none⟩ = some (.int .i64 a1_0) := (blk_cell BK200.out 0).trans rfl; have hcz24_1 : w21.cell? ⟨gb200, 1, none⟩ = some (.int .i64 a1_1) := (blk_cell BK200.out 1).trans rfl; have hcz24_2 : w21.cell? ⟨gb200, 2, none⟩ = some (.int .i64 a1_2) := (blk_cell BK200.out 2).trans rfl; have hcz24_3 : w21.cell? ⟨gb200, 3, none⟩ = some (.int .i64 a1_3) := (blk_cell BK200.out 3).trans rfl; have hcz24_4 : w21.cell? ⟨gb200, 4, none⟩ = some (.string a1_4) := (blk_cell BK200.out 4).trans rfl; have hcz24_5 : w21.cell? ⟨gb200, 5, none⟩ = some (.int .i64 a1_5) := (blk_cell BK200.out 5).trans rfl; have hcz24_6 : w21.cell? ⟨gb200, 6, none⟩ = some (.int .i64 a1_6) := (blk_cell BK200.out 6).trans rfl; have hcz24_7 : w21.cell? ⟨gb200, 7, none⟩ = some (.slice A1_7 l1_7.length c1_7) := (blk_cell BK200.out 7).trans rfl; have hfz24_0 := blk_frozen BK200.out 0; have hfz24_1 := blk_frozen BK200.out 1; have hfz24_2 := blk_frozen BK200.out 2; have hfz24_3 := blk_frozen BK200.out 3; have hfz24_4 := blk_frozen BK200.out 4; have hfz24_5 := blk_frozen BK200.out 5; have hfz24_6 := blk_frozen BK200.out 6; have hfz24_7 := blk_frozen BK200.out 7))
          go_ret
          exact ⟨by first | rfl | (simp [errW_none, errW_some] <;> rfl) | (simp [*, errW_none, errW_some] <;> rfl), by repeat (first | (with_reducible first | exact HB.out | apply below_alloc | apply pw_below_drewN | apply below_drew1 | refine below_set ?_ GE199.out | refine below_set ?_ GE200.out) | exact HB.out)⟩
      · rw [if_neg c5] at H
        have c5b0 : (a0_2 == a1_2) = false := beq_eq_false_iff_ne.mpr c5
        have c5b1 : (a0_2 != a1_2) = true := bne_iff_ne.mpr c5
        obtain rfl := Option.some.inj H
        go_enter Try.func16, Try.ntmps16
        go_wp2_with (first | ((with_reducible refine gate_dst (N := 2) rfl ?_); refine box_event ?hg (N := 2) ?hd (cs := #[.int .i64 a0_0, .int .i64 a0_1, .int .i64 a0_2, .int .i64 a0_3, .string a0_4, .int .i64 a0_5, .int .i64 a0_6, .slice A0_7 l0_7.length c0_7]) (t := 28) ?hr ?_; (case hd => rfl); (case hg => rfl); (case hr => first | (go_simp; done) | (go_simp; rfl)); intro gb199 hg w25 hbox hb; have n0_ := Aside0.mk (below_step (by repeat (first | (with_reducible first | exact HB.out | apply below_alloc | apply pw_below_drewN | apply below_drew1) | exact HB.out)) hb); have n1_ := Aside0.mk (hbox); have n2_ := Aside0.mk ((by rw [hg]; exact (below_size (by repeat (first | (with_reducible first | exact HB.out | apply below_alloc | apply pw_below_drewN | apply below_drew1) | exact HB.out))) : w.heap.size ≤ gb199)); have n3_ := Aside0.mk ((by rw [hg]; exact (below_size (by repeat (first | (with_reducible first | exact HB.out | apply below_alloc | apply pw_below_drewN | apply below_drew1) | exact HB.out))) : w.heap.size ≤ gb199)); clear HB; have HB := n0_; have BK199 := n1_; have GW199 := n2_; have GE199 := n3_; clear n0_ n1_ n2_ n3_; clear hb hbox hg) | ((with_reducible refine gate_dst (N := 3) rfl ?_); refine box_event ?hg (N := 3) ?hd (cs := #[.int .i64 a1_0, .int .i64 a1_1, .int .i64 a1_2, .int .i64 a1_3, .string a1_4, .int .i64 a1_5, .int .i64 a1_6, .slice A1_7 l1_7.length c1_7]) (t := 28) ?hr ?_; (case hd => rfl); (case hg => rfl); (case hr => first | (go_simp; done) | (go_simp; rfl)); intro gb200 hg w26 hbox hb; have n0_ := Aside0.mk (blk_below (g := gb199) (o := .cells #[.int .i64 a0_0, .int .i64 a0_1, .int .i64 a0_2, .int .i64 a0_3, .string a0_4, .int .i64 a0_5, .int .i64 a0_6, .slice A0_7 l0_7.length c0_7] 28 (0, 0)) (by (with_reducible repeat (first | refine blk_drewN ?_ _ | refine blk_drew ?_ | refine blk_alloc ?_ _)); exact BK199.out) hb); have n1_ := Aside0.mk (below_step (by repeat (first | (with_reducible first | exact HB.out | apply below_alloc | apply pw_below_drewN | apply below_drew1 | refine below_set ?_ GE199.out) | exact HB.out)) hb); have n2_ := Aside0.mk (hbox); have n3_ := Aside0.mk ((by rw [hg]; exact (below_size (by repeat (first | (with_reducible first | exact HB.out | apply below_alloc | apply pw_below_drewN | apply below_drew1 | refine below_set ?_ GE199.out) | exact HB.out))) : w.heap.size ≤ gb200)); have n4_ := Aside0.mk ((by rw [hg]; exact (below_size (by repeat (first | (with_reducible first | exact HB.out | apply below_alloc | apply pw_below_drewN | apply below_drew1 | refine below_set ?_ GE199.out) | exact HB.out))) : w.heap.size ≤ gb200)); have n5_ := Aside0.mk ((by rw [hg]; exact Nat.ne_of_lt (blk_lt (g := gb199) (o := .cells #[.int .i64 a0_0, .int .i64 a0_1, .int .i64 a0_2, .int .i64 a0_3, .string a0_4, .int .i64 a0_5, .int .i64 a0_6, .slice A0_7 l0_7.length c0_7] 28 (0, 0)) (by (with_reducible repeat (first | refine blk_drewN ?_ _ | refine blk_drew ?_ | refine blk_alloc ?_ _)); exact BK199.out)) : gb199 ≠ gb200)); have n6_ := Aside0.mk ((by rw [hg]; exact Nat.ne_of_gt (blk_lt (g := gb199) (o := .cells #[.int .i64 a0_0, .int .i64 a0_1, .int .i64 a0_2, .int .i64 a0_3, .string a0_4, .int .i64 a0_5, .int .i64 a0_6, .slice A0_7 l0_7.length c0_7] 28 (0, 0)) (by (with_reducible repeat (first | refine blk_drewN ?_ _ | refine blk_drew ?_ | refine blk_alloc ?_ _)); exact BK199.out)) : gb200 ≠ gb199)); clear BK199; clear HB; have BK199 := n0_; have HB := n1_; have BK200 := n2_; have GW200 := n3_; have GE200 := n4_; have NB199_200 := n5_; have NB200_199 := n6_; clear n0_ n1_ n2_ n3_ n4_ n5_ n6_; clear hb hbox hg; have hnb27 := NB199_200.out; have hnc27 := NB200_199.out; have hcz28_0 : w26.cell? ⟨gb199, 0, none⟩ = some (.int .i64 a0_0) := (blk_cell BK199.out 0).trans rfl; have hcz28_1 : w26.cell? ⟨gb199, 1, none⟩ = some (.int .i64 a0_1) := (blk_cell BK199.out 1).trans rfl; have hcz28_2 : w26.cell? ⟨gb199, 2, none⟩ = some (.int .i64 a0_2) := (blk_cell BK199.out 2).trans rfl; have hcz28_3 : w26.cell? ⟨gb199, 3, none⟩ = some (.int .i64 a0_3) := (blk_cell BK199.out 3).trans rfl; have hcz28_4 : w26.cell? ⟨gb199, 4, none⟩ = some (.string a0_4) := (blk_cell BK199.out 4).trans rfl; have hcz28_5 : w26.cell? ⟨gb199, 5, none⟩ = some (.int .i64 a0_5) := (blk_cell BK199.out 5).trans rfl; have hcz28_6 : w26.cell? ⟨gb199, 6, none⟩ = some (.int .i64 a0_6) := (blk_cell BK199.out 6).trans rfl; have hcz28_7 : w26.cell? ⟨gb199, 7, none⟩ = some (.slice A0_7 l0_7.length c0_7) := (blk_cell BK199.out 7).trans rfl; have hfz28_0 := blk_frozen BK199.out 0; have hfz28_1 := blk_frozen BK199.out 1; have hfz28_2 := blk_frozen BK199.out 2; have hfz28_3 := blk_frozen BK199.out 3; have hfz28_4 := blk_frozen BK199.out 4; have hfz28_5 := blk_frozen BK199.out 5; have hfz28_6 := blk_frozen BK199.out 6; have hfz28_7 := blk_frozen BK199.out 7; have hcz29_0 : w26.cell? ⟨gb200, 0, none⟩ = some (.int .i64 a1_0) := (blk_cell BK200.out 0).trans rfl; have hcz29_1 : w26.cell? ⟨gb200, 1, none⟩ = some (.int .i64 a1_1) := (blk_cell BK200.out 1).trans rfl; have hcz29_2 : w26.cell? ⟨gb200, 2, none⟩ = some (.int .i64 a1_2) := (blk_cell BK200.out 2).trans rfl; have hcz29_3 : w26.cell? ⟨gb200, 3, none⟩ = some (.int .i64 a1_3) := (blk_cell BK200.out 3).trans rfl; have hcz29_4 : w26.cell? ⟨gb200, 4, none⟩ = some (.string a1_4) := (blk_cell BK200.out 4).trans rfl; have hcz29_5 : w26.cell? ⟨gb200, 5, none⟩ = some (.int .i64 a1_5) := (blk_cell BK200.out 5).trans rfl; have hcz29_6 : w26.cell? ⟨gb200, 6, none⟩ = some (.int .i64 a1_6) := (blk_cell BK200.out 6).trans rfl; have hcz29_7 : w26.cell? ⟨gb200, 7, none⟩ = some (.slice A1_7 l1_7.length c1_7) := (blk_cell BK200.out 7).trans rfl; have hfz29_0 := blk_frozen BK200.out 0; have hfz29_1 := blk_frozen BK200.out 1; have hfz29_2 := blk_frozen BK200.out 2; have hfz29_3 := blk_frozen BK200.out 3; have hfz29_4 := blk_frozen BK200.out 4; have hfz29_5 := blk_frozen BK200.out 5; have hfz29_6 := blk_frozen BK200.out 6; have hfz29_7 := blk_frozen BK200.out 7))
        go_ret
        exact ⟨by first | rfl | (simp [errW_none, errW_some] <;> rfl) | (simp [*, errW_none, errW_some] <;> rfl), by repeat (first | (with_reducible first | exact HB.out | apply below_alloc | apply pw_below_drewN | apply below_drew1 | refine below_set ?_ GE199.out | refine below_set ?_ GE200.out) | exact HB.out)⟩
    · rw [if_neg c4] at H
      have c4b0 : (a0_1 == a1_1) = false := beq_eq_false_iff_ne.mpr c4
      have c4b1 : (a0_1 != a1_1) = true := bne_iff_ne.mpr c4
      obtain rfl := Option.some.inj H
      go_enter Try.func16, Try.ntmps16
      go_wp2_with (first | ((with_reducible refine gate_dst (N := 2) rfl ?_); refine box_event ?hg (N := 2) ?hd (cs := #[.int .i64 a0_0, .int .i64 a0_1, .int .i64 a0_2, .int .i64 a0_3, .string a0_4, .int .i64 a0_5, .int .i64 a0_6, .slice A0_7 l0_7.length c0_7]) (t := 28) ?hr ?_; (case hd => rfl); (case hg => rfl); (case hr => first | (go_simp; done) | (go_simp; rfl)); intro gb199 hg w30 hbox hb; have n0_ := Aside0.mk (below_step (by repeat (first | (with_reducible first | exact HB.out | apply below_alloc | apply pw_below_drewN | apply below_drew1) | exact HB.out)) hb); have n1_ := Aside0.mk (hbox); have n2_ := Aside0.mk ((by rw [hg]; exact (below_size (by repeat (first | (with_reducible first | exact HB.out | apply below_alloc | apply pw_below_drewN | apply below_drew1) | exact HB.out))) : w.heap.size ≤ gb199)); have n3_ := Aside0.mk ((by rw [hg]; exact (below_size (by repeat (first | (with_reducible first | exact HB.out | apply below_alloc | apply pw_below_drewN | apply below_drew1) | exact HB.out))) : w.heap.size ≤ gb199)); clear HB; have HB := n0_; have BK199 := n1_; have GW199 := n2_; have GE199 := n3_; clear n0_ n1_ n2_ n3_; clear hb hbox hg) | ((with_reducible refine gate_dst (N := 3) rfl ?_); refine box_event ?hg (N := 3) ?hd (cs := #[.int .i64 a1_0, .int .i64 a1_1, .int .i64 a1_2, .int .i64 a1_3, .string a1_4, .int .i64 a1_5, .int .i64 a1_6, .slice A1_7 l1_7.length c1_7]) (t := 28) ?hr ?_; (case hd => rfl); (case hg => rfl); (case hr => first | (go_simp; done) | (go_simp; rfl)); intro gb200 hg w31 hbox hb; have n0_ := Aside0.mk (blk_below (g := gb199) (o := .cells #[.int .i64 a0_0, .int .i64 a0_1, .int .i64 a0_2, .int .i64 a0_3, .string a0_4, .int .i64 a0_5, .int .i64 a0_6, .slice A0_7 l0_7.length c0_7] 28 (0, 0)) (by (with_reducible repeat (first | refine blk_drewN ?_ _ | refine blk_drew ?_ | refine blk_alloc ?_ _)); exact BK199.out) hb); have n1_ := Aside0.mk (below_step (by repeat (first | (with_reducible first | exact HB.out | apply below_alloc | apply pw_below_drewN | apply below_drew1 | refine below_set ?_ GE199.out) | exact HB.out)) hb); have n2_ := Aside0.mk (hbox); have n3_ := Aside0.mk ((by rw [hg]; exact (below_size (by repeat (first | (with_reducible first | exact HB.out | apply below_alloc | apply pw_below_drewN | apply below_drew1 | refine below_set ?_ GE199.out) | exact HB.out))) : w.heap.size ≤ gb200)); have n4_ := Aside0.mk ((by rw [hg]; exact (below_size (by repeat (first | (with_reducible first | exact HB.out | apply below_alloc | apply pw_below_drewN | apply below_drew1 | refine below_set ?_ GE199.out) | exact HB.out))) : w.heap.size ≤ gb200)); have n5_ := Aside0.mk ((by rw [hg]; exact Nat.ne_of_lt (blk_lt (g := gb199) (o := .cells #[.int .i64 a0_0, .int .i64 a0_1, .int .i64 a0_2, .int .i64 a0_3, .string a0_4, .int .i64 a0_5, .int .i64 a0_6, .slice A0_7 l0_7.length c0_7] 28 (0, 0)) (by (with_reducible repeat (first | refine blk_drewN ?_ _ | refine blk_drew ?_ | refine blk_alloc ?_ _)); exact BK199.out)) : gb199 ≠ gb200)); have n6_ := Aside0.mk ((by rw [hg]; exact Nat.ne_of_gt (blk_lt (g := gb199) (o := .cells #[.int .i64 a0_0, .int .i64 a0_1, .int .i64 a0_2, .int .i64 a0_3, .string a0_4, .int .i64 a0_5, .int .i64 a0_6, .slice A0_7 l0_7.length c0_7] 28 (0, 0)) (by (with_reducible repeat (first | refine blk_drewN ?_ _ | refine blk_drew ?_ | refine blk_alloc ?_ _)); exact BK199.out)) : gb200 ≠ gb199)); clear BK199; clear HB; have BK199 := n0_; have HB := n1_; have BK200 := n2_; have GW200 := n3_; have GE200 := n4_; have NB199_200 := n5_; have NB200_199 := n6_; clear n0_ n1_ n2_ n3_ n4_ n5_ n6_; clear hb hbox hg; have hnb32 := NB199_200.out; have hnc32 := NB200_199.out; have hcz33_0 : w31.cell? ⟨gb199, 0, none⟩ = some (.int .i64 a0_0) := (blk_cell BK199.out 0).trans rfl; have hcz33_1 : w31.cell? ⟨gb199, 1, none⟩ = some (.int .i64 a0_1) := (blk_cell BK199.out 1).trans rfl; have hcz33_2 : w31.cell? ⟨gb199, 2, none⟩ = some (.int .i64 a0_2) := (blk_cell BK199.out 2).trans rfl; have hcz33_3 : w31.cell? ⟨gb199, 3, none⟩ = some (.int .i64 a0_3) := (blk_cell BK199.out 3).trans rfl; have hcz33_4 : w31.cell? ⟨gb199, 4, none⟩ = some (.string a0_4) := (blk_cell BK199.out 4).trans rfl; have hcz33_5 : w31.cell? ⟨gb199, 5, none⟩ = some (.int .i64 a0_5) := (blk_cell BK199.out 5).trans rfl; have hcz33_6 : w31.cell? ⟨gb199, 6, none⟩ = some (.int .i64 a0_6) := (blk_cell BK199.out 6).trans rfl; have hcz33_7 : w31.cell? ⟨gb199, 7, none⟩ = some (.slice A0_7 l0_7.length c0_7) := (blk_cell BK199.out 7).trans rfl; have hfz33_0 := blk_frozen BK199.out 0; have hfz33_1 := blk_frozen BK199.out 1; have hfz33_2 := blk_frozen BK199.out 2; have hfz33_3 := blk_frozen BK199.out 3; have hfz33_4 := blk_frozen BK199.out 4; have hfz33_5 := blk_frozen BK199.out 5; have hfz33_6 := blk_frozen BK199.out 6; have hfz33_7 := blk_frozen BK199.out 7; have hcz34_0 : w31.cell? ⟨gb200, 0, none⟩ = some (.int .i64 a1_0) := (blk_cell BK200.out 0).trans rfl; have hcz34_1 : w31.cell? ⟨gb200, 1, none⟩ = some (.int .i64 a1_1) := (blk_cell BK200.out 1).trans rfl; have hcz34_2 : w31.cell? ⟨gb200, 2, none⟩ = some (.int .i64 a1_2) := (blk_cell BK200.out 2).trans rfl; have hcz34_3 : w31.cell? ⟨gb200, 3, none⟩ = some (.int .i64 a1_3) := (blk_cell BK200.out 3).trans rfl; have hcz34_4 : w31.cell? ⟨gb200, 4, none⟩ = some (.string a1_4) := (blk_cell BK200.out 4).trans rfl; have hcz34_5 : w31.cell? ⟨gb200, 5, none⟩ = some (.int .i64 a1_5) := (blk_cell BK200.out 5).trans rfl; have hcz34_6 : w31.cell? ⟨gb200, 6, none⟩ = some (.int .i64 a1_6) := (blk_cell BK200.out 6).trans rfl; have hcz34_7 : w31.cell? ⟨gb200, 7, none⟩ = some (.slice A1_7 l1_7.length c1_7) := (blk_cell BK200.out 7).trans rfl; have hfz34_0 := blk_frozen BK200.out 0; have hfz34_1 := blk_frozen BK200.out 1; have hfz34_2 := blk_frozen BK200.out 2; have hfz34_3 := blk_frozen BK200.out 3; have hfz34_4 := blk_frozen BK200.out 4; have hfz34_5 := blk_frozen BK200.out 5; have hfz34_6 := blk_frozen BK200.out 6; have hfz34_7 := blk_frozen BK200.out 7))
      go_ret
      exact ⟨by first | rfl | (simp [errW_none, errW_some] <;> rfl) | (simp [*, errW_none, errW_some] <;> rfl), by repeat (first | (with_reducible first | exact HB.out | apply below_alloc | apply pw_below_drewN | apply below_drew1 | refine below_set ?_ GE199.out | refine below_set ?_ GE200.out) | exact HB.out)⟩
  · rw [if_neg c3] at H
    have c3b0 : (a0_0 == a1_0) = false := beq_eq_false_iff_ne.mpr c3
    have c3b1 : (a0_0 != a1_0) = true := bne_iff_ne.mpr c3
    obtain rfl := Option.some.inj H
    go_enter Try.func16, Try.ntmps16
    go_wp2_with (first | ((with_reducible refine gate_dst (N := 2) rfl ?_); refine box_event ?hg (N := 2) ?hd (cs := #[.int .i64 a0_0, .int .i64 a0_1, .int .i64 a0_2, .int .i64 a0_3, .string a0_4, .int .i64 a0_5, .int .i64 a0_6, .slice A0_7 l0_7.length c0_7]) (t := 28) ?hr ?_; (case hd => rfl); (case hg => rfl); (case hr => first | (go_simp; done) | (go_simp; rfl)); intro gb199 hg w35 hbox hb; have n0_ := Aside0.mk (below_step (by repeat (first | (with_reducible first | exact HB.out | apply below_alloc | apply pw_below_drewN | apply below_drew1) | exact HB.out)) hb); have n1_ := Aside0.mk (hbox); have n2_ := Aside0.mk ((by rw [hg]; exact (below_size (by repeat (first | (with_reducible first | exact HB.out | apply below_alloc | apply pw_below_drewN | apply below_drew1) | exact HB.out))) : w.heap.size ≤ gb199)); have n3_ := Aside0.mk ((by rw [hg]; exact (below_size (by repeat (first | (with_reducible first | exact HB.out | apply below_alloc | apply pw_below_drewN | apply below_drew1) | exact HB.out))) : w.heap.size ≤ gb199)); clear HB; have HB := n0_; have BK199 := n1_; have GW199 := n2_; have GE199 := n3_; clear n0_ n1_ n2_ n3_; clear hb hbox hg) | ((with_reducible refine gate_dst (N := 3) rfl ?_); refine box_event ?hg (N := 3) ?hd (cs := #[.int .i64 a1_0, .int .i64 a1_1, .int .i64 a1_2, .int .i64 a1_3, .string a1_4, .int .i64 a1_5, .int .i64 a1_6, .slice A1_7 l1_7.length c1_7]) (t := 28) ?hr ?_; (case hd => rfl); (case hg => rfl); (case hr => first | (go_simp; done) | (go_simp; rfl)); intro gb200 hg w36 hbox hb; have n0_ := Aside0.mk (blk_below (g := gb199) (o := .cells #[.int .i64 a0_0, .int .i64 a0_1, .int .i64 a0_2, .int .i64 a0_3, .string a0_4, .int .i64 a0_5, .int .i64 a0_6, .slice A0_7 l0_7.length c0_7] 28 (0, 0)) (by (with_reducible repeat (first | refine blk_drewN ?_ _ | refine blk_drew ?_ | refine blk_alloc ?_ _)); exact BK199.out) hb); have n1_ := Aside0.mk (below_step (by repeat (first | (with_reducible first | exact HB.out | apply below_alloc | apply pw_below_drewN | apply below_drew1 | refine below_set ?_ GE199.out) | exact HB.out)) hb); have n2_ := Aside0.mk (hbox); have n3_ := Aside0.mk ((by rw [hg]; exact (below_size (by repeat (first | (with_reducible first | exact HB.out | apply below_alloc | apply pw_below_drewN | apply below_drew1 | refine below_set ?_ GE199.out) | exact HB.out))) : w.heap.size ≤ gb200)); have n4_ := Aside0.mk ((by rw [hg]; exact (below_size (by repeat (first | (with_reducible first | exact HB.out | apply below_alloc | apply pw_below_drewN | apply below_drew1 | refine below_set ?_ GE199.out) | exact HB.out))) : w.heap.size ≤ gb200)); have n5_ := Aside0.mk ((by rw [hg]; exact Nat.ne_of_lt (blk_lt (g := gb199) (o := .cells #[.int .i64 a0_0, .int .i64 a0_1, .int .i64 a0_2, .int .i64 a0_3, .string a0_4, .int .i64 a0_5, .int .i64 a0_6, .slice A0_7 l0_7.length c0_7] 28 (0, 0)) (by (with_reducible repeat (first | refine blk_drewN ?_ _ | refine blk_drew ?_ | refine blk_alloc ?_ _)); exact BK199.out)) : gb199 ≠ gb200)); have n6_ := Aside0.mk ((by rw [hg]; exact Nat.ne_of_gt (blk_lt (g := gb199) (o := .cells #[.int .i64 a0_0, .int .i64 a0_1, .int .i64 a0_2, .int .i64 a0_3, .string a0_4, .int .i64 a0_5, .int .i64 a0_6, .slice A0_7 l0_7.length c0_7] 28 (0, 0)) (by (with_reducible repeat (first | refine blk_drewN ?_ _ | refine blk_drew ?_ | refine blk_alloc ?_ _)); exact BK199.out)) : gb200 ≠ gb199)); clear BK199; clear HB; have BK199 := n0_; have HB := n1_; have BK200 := n2_; have GW200 := n3_; have GE200 := n4_; have NB199_200 := n5_; have NB200_199 := n6_; clear n0_ n1_ n2_ n3_ n4_ n5_ n6_; clear hb hbox hg; have hnb37 := NB199_200.out; have hnc37 := NB200_199.out; have hcz38_0 : w36.cell? ⟨gb199, 0, none⟩ = some (.int .i64 a0_0) := (blk_cell BK199.out 0).trans rfl; have hcz38_1 : w36.cell? ⟨gb199, 1, none⟩ = some (.int .i64 a0_1) := (blk_cell BK199.out 1).trans rfl; have hcz38_2 : w36.cell? ⟨gb199, 2, none⟩ = some (.int .i64 a0_2) := (blk_cell BK199.out 2).trans rfl; have hcz38_3 : w36.cell? ⟨gb199, 3, none⟩ = some (.int .i64 a0_3) := (blk_cell BK199.out 3).trans rfl; have hcz38_4 : w36.cell? ⟨gb199, 4, none⟩ = some (.string a0_4) := (blk_cell BK199.out 4).trans rfl; have hcz38_5 : w36.cell? ⟨gb199, 5, none⟩ = some (.int .i64 a0_5) := (blk_cell BK199.out 5).trans rfl; have hcz38_6 : w36.cell? ⟨gb199, 6, none⟩ = some (.int .i64 a0_6) := (blk_cell BK199.out 6).trans rfl; have hcz38_7 : w36.cell? ⟨gb199, 7, none⟩ = some (.slice A0_7 l0_7.length c0_7) := (blk_cell BK199.out 7).trans rfl; have hfz38_0 := blk_frozen BK199.out 0; have hfz38_1 := blk_frozen BK199.out 1; have hfz38_2 := blk_frozen BK199.out 2; have hfz38_3 := blk_frozen BK199.out 3; have hfz38_4 := blk_frozen BK199.out 4; have hfz38_5 := blk_frozen BK199.out 5; have hfz38_6 := blk_frozen BK199.out 6; have hfz38_7 := blk_frozen BK199.out 7; have hcz39_0 : w36.cell? ⟨gb200, 0, none⟩ = some (.int .i64 a1_0) := (blk_cell BK200.out 0).trans rfl; have hcz39_1 : w36.cell? ⟨gb200, 1, none⟩ = some (.int .i64 a1_1) := (blk_cell BK200.out 1).trans rfl; have hcz39_2 : w36.cell? ⟨gb200, 2, none⟩ = some (.int .i64 a1_2) := (blk_cell BK200.out 2).trans rfl; have hcz39_3 : w36.cell? ⟨gb200, 3, none⟩ = some (.int .i64 a1_3) := (blk_cell BK200.out 3).trans rfl; have hcz39_4 : w36.cell? ⟨gb200, 4, none⟩ = some (.string a1_4) := (blk_cell BK200.out 4).trans rfl; have hcz39_5 : w36.cell? ⟨gb200, 5, none⟩ = some (.int .i64 a1_5) := (blk_cell BK200.out 5).trans rfl; have hcz39_6 : w36.cell? ⟨gb200, 6, none⟩ = some (.int .i64 a1_6) := (blk_cell BK200.out 6).trans rfl; have hcz39_7 : w36.cell? ⟨gb200, 7, none⟩ = some (.slice A1_7 l1_7.length c1_7) := (blk_cell BK200.out 7).trans rfl; have hfz39_0 := blk_frozen BK200.out 0; have hfz39_1 := blk_frozen BK200.out 1; have hfz39_2 := blk_frozen BK200.out 2; have hfz39_3 := blk_frozen BK200.out 3; have hfz39_4 := blk_frozen BK200.out 4; have hfz39_5 := blk_frozen BK200.out 5; have hfz39_6 := blk_frozen BK200.out 6; have hfz39_7 := blk_frozen BK200.out 7))
    go_ret
    exact ⟨by first | rfl | (simp [errW_none, errW_some] <;> rfl) | (simp [*, errW_none, errW_some] <;> rfl), by repeat (first | (with_reducible first | exact HB.out | apply below_alloc | apply pw_below_drewN | apply below_drew1 | refine below_set ?_ GE199.out | refine below_set ?_ GE200.out) | exact HB.out)⟩
end Go.Proofs.Ytcjdnahgffkbdaa.Q

namespace Go.Proofs.Ytcjdnahgffkbdaa.Q
open Go.RowKit Go.Proofs.YtcjdnahgffkbdaaW.PrintWords Go.Proofs.YtcjdnahgffkbdaaW.PrintLast Go.Proofs.YtcjdnahgffkbdaaW.PrintMore Go.Proofs.Ytcjdnahgffkbdaa.Gput Go.Proofs.Ytcjdnahgffkbdaa.Gputl
attribute [local go_sem] max2_int min2_int max_two min_two max_three min_three max_four min_four   -- for this text's walks alone
set_option linter.unusedVariables false
set_option linter.unusedSimpArgs false
def storagebarterref42_Same.l0 : Nat → List (S28) → List (S28) → Int → Option (Bool)
  | 0, _, _, _ => none
  | k + 1, x0, x1, x5 => if x5 < (x0.length : Int) then (if 0 ≤ x5 then (if x5 < (x1.length : Int) then ((storagebarterref42_One.f k ((rd_T28 x0 x5).f0) ((rd_T28 x0 x5).f1) ((rd_T28 x0 x5).f2) ((rd_T28 x0 x5).f3) ((rd_T28 x0 x5).f4) ((rd_T28 x0 x5).f5.f0) ((rd_T28 x0 x5).f5.f1) ((rd_T28 x0 x5).f5.f2) ((rd_T28 x1 x5).f0) ((rd_T28 x1 x5).f1) ((rd_T28 x1 x5).f2) ((rd_T28 x1 x5).f3) ((rd_T28 x1 x5).f4) ((rd_T28 x1 x5).f5.f0) ((rd_T28 x1 x5).f5.f1) ((rd_T28 x1 x5).f5.f2)).bind fun t204 => (if t204 = true then (storagebarterref42_Same.l0 k x0 x1 (wrap64 (x5 + 1))) else (some false))) else (none)) else (none)) else (some true)
def storagebarterref42_Same.f (k : Nat) (l0 : List (S28)) (l1 : List (S28)) : Option (Bool) := if (l0.length : Int) = (l1.length : Int) then (storagebarterref42_Same.l0 k l0 l1 0) else (some false)
theorem storagebarterref42_Same.mono_l : ∀ k, (∀ y0 y1 y2, LeO (storagebarterref42_Same.l0 k y0 y1 y2) (storagebarterref42_Same.l0 (k + 1) y0 y1 y2))
  | 0 => fun _ _ _ r h => by simp [storagebarterref42_Same.l0] at h
  | k + 1 => by
    have ih0 := storagebarterref42_Same.mono_l k
    · intro y0 y1 y2
      unfold storagebarterref42_Same.l0
      repeat' first
      | (with_reducible exact ih0 _ _ _)
      | (with_reducible exact storagebarterref42_One.mono _ _ _ _ _ _ _ _ _ _ _ _ _ _ _ _ _)
      | (with_reducible exact LeO.refl _)
      | (with_reducible exact LeO.none _)
      | (with_reducible refine LeO.ite ?_ ?_)
      | (with_reducible refine LeO.bind ?_ (fun _ => ?_))
      | exact ih0 _ _ _
      | exact storagebarterref42_One.mono _ _ _ _ _ _ _ _ _ _ _ _ _ _ _ _ _
      | exact LeO.none _
      | refine LeO.ite ?_ ?_
      | refine LeO.bind ?_ (fun _ => ?_)
theorem storagebarterref42_Same.mono : ∀ a0 a1 k, LeO (storagebarterref42_Same.f k a0 a1) (storagebarterref42_Same.f (k + 1) a0 a1) := by
  intro a0 a1 k
  have ih0 := storagebarterref42_Same.mono_l k
  unfold storagebarterref42_Same.f
  repeat' first
      | (with_reducible exact ih0 _ _ _)
      | (with_reducible exact storagebarterref42_One.mono _ _ _ _ _ _ _ _ _ _ _ _ _ _ _ _ _)
      | (with_reducible exact LeO.refl _)
      | (with_reducible exact LeO.none _)
      | (with_reducible refine LeO.ite ?_ ?_)
      | (with_reducible refine LeO.bind ?_ (fun _ => ?_))
      | exact ih0 _ _ _
      | exact storagebarterref42_One.mono _ _ _ _ _ _ _ _ _ _ _ _ _ _ _ _ _
      | exact LeO.none _
      | refine LeO.ite ?_ ?_
      | refine LeO.bind ?_ (fun _ => ?_)
def storagebarterref42_Same.T6 : Bool × List (List Nat × List Nat) := (true, [([], []), ([], []), ([0, 1], [0, 1]), ([2], [2]), ([], []), ([], []), ([4, 5], [4, 5]), ([6], [6]), ([3, 7], [3, 7]), ([8], [8])])
def storagebarterref42_Same.B6 : List Nat := [0, 0, 3, 7, 0, 0, 48, 112, 255, 511]
theorem storagebarterref42_Same.tab6 : rtab .any (opsOf Try.f11 6) = storagebarterref42_Same.T6 := by kernel_rfl
theorem storagebarterref42_Same.bits6 : waitsOk storagebarterref42_Same.T6.2 storagebarterref42_Same.B6 = true := by kernel_rfl
set_option maxHeartbeats 8000000 in
set_option maxRecDepth 100000 in
theorem storagebarterref42_Same.calls (k : Nat) (A0 : Option Addr) (c0 : Nat) (l0 : List (S28)) (A1 : Option Addr) (c1 : Nat) (l1 : List (S28)) (r : Bool) (w : World) (hr0 : Kd.C k28 w A0 l0.length l0) (hc0 : l0.length ≤ c0) (hr1 : Kd.C k28 w A1 l1.length l1) (hc1 : l1.length ≤ c1) (h : storagebarterref42_Same.f k l0 l1 = some r) :
    Calls Try.prog 11 #[.slice A0 l0.length c0, .slice A1 l1.length c1] w fun e w' => e = .returned (.bool r) ∧ Below w.heap.size w w' := by
  have hu28 := Try.underlying28
  have HR0 := Aside0.mk hr0
  have HC0 := Aside0.mk hc0
  clear hr0 hc0
  have HR1 := Aside0.mk hr1
  have HC1 := Aside0.mk hc1
  clear hr1 hc1
  have HB := Aside0.mk (Below.refl w.heap.size w)
  have H : (if (l0.length : Int) = (l1.length : Int) then (storagebarterref42_Same.l0 k l0 l1 0) else (some false)) = some r := h
  clear h
  by_cases c3 : (l0.length : Int) = (l1.length : Int)
  · rw [if_pos c3] at H
    have c3b0 : ((l0.length : Int) == (l1.length : Int)) = true := beq_iff_eq.mpr c3
    have c3b1 : ((l0.length : Int) != (l1.length : Int)) = false := bne_eq_false_iff_eq.mpr c3
    have c3b2 : (l0.length == l1.length) = true := by first | simpa using c3 | (simp at c3 ⊢; omega)
    clear c3
    have H' := Aside0.mk H
    clear H
    go_enter Try.func11, Try.ntmps11
    go_wp2
    go_loopg [5] k (fun kq v5 w' => ∃ (x5_1 : Int), v5 = .int .i64 x5_1 ∧ Aside0 (storagebarterref42_Same.l0 kq l0 l1 x5_1 = some r) ∧ Aside0 (kq ≤ k) ∧ Aside0 (Below w.heap.size w w'))
    case atStart => exact ⟨(0), (by first | rfl | (simp; done) | (simp [*]; done)), H', ⟨Nat.le_refl _⟩, ⟨by repeat (first | (with_reducible first | exact HB.out | apply below_alloc | apply pw_below_drewN | apply below_drew1) | exact HB.out)⟩⟩
    case round =>
      clear H'
      try clear c1
      try clear p2
      try clear c3
      try clear c3b0
      try clear c3b1
      try clear c3b2
      obtain ⟨x5_1, rfl, HA, HK1, HB⟩ := hrel
      cases gk with
      | zero => exact absurd HA.out (by simp [storagebarterref42_Same.l0])
      | succ k1 =>
        have H := HA.out
        clear HA
        simp only [storagebarterref42_Same.l0] at H
        by_cases c4 : x5_1 < (l0.length : Int)
        · rw [if_pos c4] at H
          have c4b0 : decide (x5_1 < (l0.length : Int)) = true := decide_eq_true c4
          clear c4
          by_cases c5 : 0 ≤ x5_1
          · rw [if_pos c5] at H
            have c5b0 : decide (0 ≤ x5_1) = true := decide_eq_true c5
            clear c5
            by_cases c6 : x5_1 < (l1.length : Int)
            · rw [if_pos c6] at H
              have c6b0 : decide (x5_1 < (l1.length : Int)) = true := decide_eq_true c6
              clear c6
              replace H := Option.bind_eq_some_iff.mp H
              obtain ⟨t204, A70, H⟩ := H
              replace H : (if t204 = true then (storagebarterref42_Same.l0 k1 l0 l1 (wrap64 (x5_1 + 1))) else (some false)) = some r := H
              have A7 := Aside0.mk A70
              clear A70
              by_cases c8 : t204 = true
              · subst c8
                have H1 : (storagebarterref42_Same.l0 k1 l0 l1 (wrap64 (x5_1 + 1))) = some r := by rw [if_pos rfl] at H; exact H
                clear H
                have H := H1
                clear H1
                have H' := Aside0.mk H
                clear H
                try go_wp2
                have n0_ := Aside0.mk (below_drew1 HB.out)
                clear HB
                have HB := n0_
                clear n0_
                have p202 : 0 ≤ (x5_1 : Int) := of_decide_eq_true (by first | (with_reducible assumption) | assumption)
                have q202 : x5_1 < (l0.length : Int) := of_decide_eq_true (by first | (with_reducible assumption) | assumption)
                obtain ⟨ad202, A202_7, c202_7, e202, hx202_0, hx202_1, hx202_2, hx202_3, hx202_4, hx202_5, hx202_6, hx202_7, hl202_7, hi202_7⟩ := at_T28 HR0.out x5_1 p202 q202
                have hw202_7 := hx202_7
                have hw202_6 := hx202_6
                have hw202_5 := hx202_5
                have hw202_4 := hx202_4
                have hw202_3 := hx202_3
                have hw202_2 := hx202_2
                have hw202_1 := hx202_1
                have hw202_0 := hx202_0
                cases e202
                replace hx202_0 := (HB.out.cell (World.block_lt_of_cell? w _ hx202_0)).trans hx202_0
                replace hx202_1 := (HB.out.cell (World.block_lt_of_cell? w _ hx202_1)).trans hx202_1
                replace hx202_2 := (HB.out.cell (World.block_lt_of_cell? w _ hx202_2)).trans hx202_2
                replace hx202_3 := (HB.out.cell (World.block_lt_of_cell? w _ hx202_3)).trans hx202_3
                replace hx202_4 := (HB.out.cell (World.block_lt_of_cell? w _ hx202_4)).trans hx202_4
                replace hx202_5 := (HB.out.cell (World.block_lt_of_cell? w _ hx202_5)).trans hx202_5
                replace hx202_6 := (HB.out.cell (World.block_lt_of_cell? w _ hx202_6)).trans hx202_6
                replace hx202_7 := (HB.out.cell (World.block_lt_of_cell? w _ hx202_7)).trans hx202_7
                have HR202_7 := Aside0.mk hi202_7
                have HC202_7 := Aside0.mk hl202_7
                clear hi202_7 hl202_7
                replace p202 := eq_true p202
                replace q202 := eq_true q202
                have p203 : 0 ≤ (x5_1 : Int) := of_decide_eq_true (by first | (with_reducible assumption) | assumption)
                have q203 : x5_1 < (l1.length : Int) := of_decide_eq_true (by first | (with_reducible assumption) | assumption)
                obtain ⟨ad203, A203_7, c203_7, e203, hx203_0, hx203_1, hx203_2, hx203_3, hx203_4, hx203_5, hx203_6, hx203_7, hl203_7, hi203_7⟩ := at_T28 HR1.out x5_1 p203 q203
                have hw203_7 := hx203_7
                have hw203_6 := hx203_6
                have hw203_5 := hx203_5
                have hw203_4 := hx203_4
                have hw203_3 := hx203_3
                have hw203_2 := hx203_2
                have hw203_1 := hx203_1
                have hw203_0 := hx203_0
                cases e203
                replace hx203_0 := (HB.out.cell (World.block_lt_of_cell? w _ hx203_0)).trans hx203_0
                replace hx203_1 := (HB.out.cell (World.block_lt_of_cell? w _ hx203_1)).trans hx203_1
                replace hx203_2 := (HB.out.cell (World.block_lt_of_cell? w _ hx203_2)).trans hx203_2
                replace hx203_3 := (HB.out.cell (World.block_lt_of_cell? w _ hx203_3)).trans hx203_3
                replace hx203_4 := (HB.out.cell (World.block_lt_of_cell? w _ hx203_4)).trans hx203_4
                replace hx203_5 := (HB.out.cell (World.block_lt_of_cell? w _ hx203_5)).trans hx203_5
                replace hx203_6 := (HB.out.cell (World.block_lt_of_cell? w _ hx203_6)).trans hx203_6
                replace hx203_7 := (HB.out.cell (World.block_lt_of_cell? w _ hx203_7)).trans hx203_7
                have HR203_7 := Aside0.mk hi203_7
                have HC203_7 := Aside0.mk hl203_7
                clear hi203_7 hl203_7
                replace p203 := eq_true p203
                replace q203 := eq_true q203
                refine start_ (n := 10) (S := fun w' => w'.cell? (ad202.add ((x5_1).toNat * 8)) = some (.int .i64 ((rd_T28 l0 x5_1).f0)) ∧ w'.cell? ⟨(ad202.add ((x5_1).toNat * 8)).block, (ad202.add ((x5_1).toNat * 8)).off + 1, none⟩ = some (.int .i64 ((rd_T28 l0 x5_1).f1)) ∧ w'.cell? ⟨(ad202.add ((x5_1).toNat * 8)).block, (ad202.add ((x5_1).toNat * 8)).off + 2, none⟩ = some (.int .i64 ((rd_T28 l0 x5_1).f2)) ∧ w'.cell? ⟨(ad202.add ((x5_1).toNat * 8)).block, (ad202.add ((x5_1).toNat * 8)).off + 3, none⟩ = some (.int .i64 ((rd_T28 l0 x5_1).f3)) ∧ w'.cell? ⟨(ad202.add ((x5_1).toNat * 8)).block, (ad202.add ((x5_1).toNat * 8)).off + 4, none⟩ = some (.string ((rd_T28 l0 x5_1).f4)) ∧ w'.cell? ⟨(ad202.add ((x5_1).toNat * 8)).block, (ad202.add ((x5_1).toNat * 8)).off + 5, none⟩ = some (.int .i64 ((rd_T28 l0 x5_1).f5.f0)) ∧ w'.cell? ⟨(ad202.add ((x5_1).toNat * 8)).block, (ad202.add ((x5_1).toNat * 8)).off + 6, none⟩ = some (.int .i64 ((rd_T28 l0 x5_1).f5.f1)) ∧ w'.cell? ⟨(ad202.add ((x5_1).toNat * 8)).block, (ad202.add ((x5_1).toNat * 8)).off + 7, none⟩ = some (.slice A202_7 ((rd_T28 l0 x5_1).f5.f2).length c202_7) ∧ w'.cell? (ad203.add ((x5_1).toNat * 8)) = some (.int .i64 ((rd_T28 l1 x5_1).f0)) ∧ w'.cell? ⟨(ad203.add ((x5_1).toNat * 8)).block, (ad203.add ((x5_1).toNat * 8)).off + 1, none⟩ = some (.int .i64 ((rd_T28 l1 x5_1).f1)) ∧ w'.cell? ⟨(ad203.add ((x5_1).toNat * 8)).block, (ad203.add ((x5_1).toNat * 8)).off + 2, none⟩ = some (.int .i64 ((rd_T28 l1 x5_1).f2)) ∧ w'.cell? ⟨(ad203.add ((x5_1).toNat * 8)).block, (ad203.add ((x5_1).toNat * 8)).off + 3, none⟩ = some (.int .i64 ((rd_T28 l1 x5_1).f3)) ∧ w'.cell? ⟨(ad203.add ((x5_1).toNat * 8)).block, (ad203.add ((x5_1).toNat * 8)).off + 4, none⟩ = some (.string ((rd_T28 l1 x5_1).f4)) ∧ w'.cell? ⟨(ad203.add ((x5_1).toNat * 8)).block, (ad203.add ((x5_1).toNat * 8)).off + 5, none⟩ = some (.int .i64 ((rd_T28 l1 x5_1).f5.f0)) ∧ w'.cell? ⟨(ad203.add ((x5_1).toNat * 8)).block, (ad203.add ((x5_1).toNat * 8)).off + 6, none⟩ = some (.int .i64 ((rd_T28 l1 x5_1).f5.f1)) ∧ w'.cell? ⟨(ad203.add ((x5_1).toNat * 8)).block, (ad203.add ((x5_1).toNat * 8)).off + 7, none⟩ = some (.slice A203_7 ((rd_T28 l1 x5_1).f5.f2).length c203_7)) (ds := []) #[false, false, false, false, false, false, false, false, false, false] (by kernel_rfl) rfl rfl ⟨((HB.out.cell (World.block_lt_of_cell? w _ hw202_0)).trans hw202_0), ((HB.out.cell (World.block_lt_of_cell? w _ hw202_1)).trans hw202_1), ((HB.out.cell (World.block_lt_of_cell? w _ hw202_2)).trans hw202_2), ((HB.out.cell (World.block_lt_of_cell? w _ hw202_3)).trans hw202_3), ((HB.out.cell (World.block_lt_of_cell? w _ hw202_4)).trans hw202_4), ((HB.out.cell (World.block_lt_of_cell? w _ hw202_5)).trans hw202_5), ((HB.out.cell (World.block_lt_of_cell? w _ hw202_6)).trans hw202_6), ((HB.out.cell (World.block_lt_of_cell? w _ hw202_7)).trans hw202_7), ((HB.out.cell (World.block_lt_of_cell? w _ hw203_0)).trans hw203_0), ((HB.out.cell (World.block_lt_of_cell? w _ hw203_1)).trans hw203_1), ((HB.out.cell (World.block_lt_of_cell? w _ hw203_2)).trans hw203_2), ((HB.out.cell (World.block_lt_of_cell? w _ hw203_3)).trans hw203_3), ((HB.out.cell (World.block_lt_of_cell? w _ hw203_4)).trans hw203_4), ((HB.out.cell (World.block_lt_of_cell? w _ hw203_5)).trans hw203_5), ((HB.out.cell (World.block_lt_of_cell? w _ hw203_6)).trans hw203_6), ((HB.out.cell (World.block_lt_of_cell? w _ hw203_7)).trans hw203_7)⟩ (fun hHeld => ?_); refine with_tabW storagebarterref42_Same.tab6 storagebarterref42_Same.bits6 (fun HT_ HW_ => ?_)
                generalize wr.drew = w9 at HB HR202_7 HR203_7 hx202_0 hx202_1 hx202_2 hx202_3 hx202_4 hx202_5 hx202_6 hx202_7 hx203_0 hx203_1 hx203_2 hx203_3 hx203_4 hx203_5 hx203_6 hx203_7 hHeld ⊢
                refine pure_ (i := 0) (N := some 17) (v := ?_) (a' := ?_) #[true, false, false, false, false, false, false, false, false, false] rfl rfl (any_of HT_.out (by kernel_rfl)) (fun _ _ _ h => h) (Or.inl ⟨by rfl, ?_⟩) ?_ ?_
                rotate_left
                · intro w'
                  go_simp
                  with_reducible rfl
                rotate_left
                · simp only [Act.put, List.setIfInBounds_toArray, List.set_cons_zero, List.set_cons_succ, i64_w, i32_w]
                  rfl
                refine pure_ (i := 1) (N := some 18) (v := ?_) (a' := ?_) #[true, true, false, false, false, false, false, false, false, false] rfl rfl (any_of HT_.out (by kernel_rfl)) (fun _ _ _ h => h) (Or.inl ⟨by rfl, ?_⟩) ?_ ?_
                rotate_left
                · intro w'
                  go_simp
                  with_reducible rfl
                rotate_left
                · simp only [Act.put, List.setIfInBounds_toArray, List.set_cons_zero, List.set_cons_succ, i64_w, i32_w]
                  rfl
                refine pure_ (i := 2) (N := some 19) (v := ?_) (a' := ?_) #[true, true, true, false, false, false, false, false, false, false] rfl rfl (any_of HT_.out (by kernel_rfl)) (fun _ _ _ h => h) (Or.inl ⟨by rfl, ?_⟩) ?_ ?_
                rotate_left
                · intro w'
                  go_simp
                  with_reducible rfl
                rotate_left
                · simp only [Act.put, List.setIfInBounds_toArray, List.set_cons_zero, List.set_cons_succ, i64_w, i32_w]
                  rfl
                refine pure_ (i := 4) (N := some 21) (v := ?_) (a' := ?_) #[true, true, true, false, true, false, false, false, false, false] rfl rfl (any_of HT_.out (by kernel_rfl)) (fun _ _ _ h => h) (Or.inl ⟨by rfl, ?_⟩) ?_ ?_
                rotate_left
                · intro w'
                  go_simp
                  with_reducible rfl
                rotate_left
                · simp only [Act.put, List.setIfInBounds_toArray, List.set_cons_zero, List.set_cons_succ, i64_w, i32_w]
                  rfl
                refine pure_ (i := 5) (N := some 22) (v := ?_) (a' := ?_) #[true, true, true, false, true, true, false, false, false, false] rfl rfl (any_of HT_.out (by kernel_rfl)) (fun _ _ _ h => h) (Or.inl ⟨by rfl, ?_⟩) ?_ ?_
                rotate_left
                · intro w'
                  go_simp
                  with_reducible rfl
                rotate_left
                · simp only [Act.put, List.setIfInBounds_toArray, List.set_cons_zero, List.set_cons_succ, i64_w, i32_w]
                  rfl
                refine pure_ (i := 6) (N := some 23) (v := ?_) (a' := ?_) #[true, true, true, false, true, true, true, false, false, false] rfl rfl (any_of HT_.out (by kernel_rfl)) (fun _ _ _ h => h) (Or.inl ⟨by rfl, ?_⟩) ?_ ?_
                rotate_left
                · intro w'
                  go_simp
                  with_reducible rfl
                rotate_left
                · simp only [Act.put, List.setIfInBounds_toArray, List.set_cons_zero, List.set_cons_succ, i64_w, i32_w]
                  rfl
                refine take_ (i := 3) (N := some 20) (v := ?_) (a' := ?_) #[true, true, true, true, true, true, true, false, false, false] rfl rfl (take_ofW HT_.out HW_.out (by kernel_rfl)) (fun _ _ _ h => h) (Or.inl ⟨by rfl, ?_⟩) hHeld ?_ ?_
                rotate_left
                · rintro w' ⟨s0, s1, s2, s3, s4, s5, s6, s7, s8, s9, s10, s11, s12, s13, s14, s15⟩
                  go_simp
                  with_reducible rfl
                rotate_left
                · simp only [Act.put, List.setIfInBounds_toArray, List.set_cons_zero, List.set_cons_succ, i64_w, i32_w]
                  rfl
                refine take_ (i := 7) (N := some 24) (v := ?_) (a' := ?_) #[true, true, true, true, true, true, true, true, false, false] rfl rfl (take_ofW HT_.out HW_.out (by kernel_rfl)) (fun _ _ _ h => h) (Or.inl ⟨by rfl, ?_⟩) hHeld ?_ ?_
                rotate_left
                · rintro w' ⟨s0, s1, s2, s3, s4, s5, s6, s7, s8, s9, s10, s11, s12, s13, s14, s15⟩
                  go_simp
                  with_reducible rfl
                rotate_left
                · simp only [Act.put, List.setIfInBounds_toArray, List.set_cons_zero, List.set_cons_succ, i64_w, i32_w]
                  rfl
                refine one_ (i := 8) (N := some 25) #[true, true, true, true, true, true, true, true, true, false] rfl rfl (one_of HT_.out (by kernel_rfl)) (by decide) (fun K hK => ?_)
                refine goes_ Try.func16 (by kernel_rfl) rfl #[.agg #[.int .i64 ((rd_T28 l0 x5_1).f0), .int .i64 ((rd_T28 l0 x5_1).f1), .int .i64 ((rd_T28 l0 x5_1).f2), .int .i64 ((rd_T28 l0 x5_1).f3), .string ((rd_T28 l0 x5_1).f4), .int .i64 ((rd_T28 l0 x5_1).f5.f0), .int .i64 ((rd_T28 l0 x5_1).f5.f1), .slice A202_7 ((rd_T28 l0 x5_1).f5.f2).length c202_7], .agg #[.int .i64 ((rd_T28 l1 x5_1).f0), .int .i64 ((rd_T28 l1 x5_1).f1), .int .i64 ((rd_T28 l1 x5_1).f2), .int .i64 ((rd_T28 l1 x5_1).f3), .string ((rd_T28 l1 x5_1).f4), .int .i64 ((rd_T28 l1 x5_1).f5.f0), .int .i64 ((rd_T28 l1 x5_1).f5.f1), .slice A203_7 ((rd_T28 l1 x5_1).f5.f2).length c203_7]] (by rfl) rfl rfl (by (try simp only [List.map_toArray, List.map_cons, List.map_nil]); first | done | rfl | (simp only [List.length_drop, List.length_take]; rfl)) ?_
                with_reducible refine (storagebarterref42_One.calls k1 ((rd_T28 l0 x5_1).f0) ((rd_T28 l0 x5_1).f1) ((rd_T28 l0 x5_1).f2) ((rd_T28 l0 x5_1).f3) ((rd_T28 l0 x5_1).f4) ((rd_T28 l0 x5_1).f5.f0) ((rd_T28 l0 x5_1).f5.f1) _ _ ((rd_T28 l0 x5_1).f5.f2) ((rd_T28 l1 x5_1).f0) ((rd_T28 l1 x5_1).f1) ((rd_T28 l1 x5_1).f2) ((rd_T28 l1 x5_1).f3) ((rd_T28 l1 x5_1).f4) ((rd_T28 l1 x5_1).f5.f0) ((rd_T28 l1 x5_1).f5.f1) _ _ ((rd_T28 l1 x5_1).f5.f2) true _ ?side1 ?side2 ?side3 ?side4 A7.out).mono ?_
                (case side1 => repeat (first | exact (Kd.C_below HR202_7.out HB.out) | (with_reducible refine Kd.C_alloc ?_ _) | (with_reducible refine Kd.C_drewN ?_ _) | (with_reducible refine Kd.C_drew ?_)))
                (case side2 => exact HC202_7.out)
                (case side3 => repeat (first | exact (Kd.C_below HR203_7.out HB.out) | (with_reducible refine Kd.C_alloc ?_ _) | (with_reducible refine Kd.C_drewN ?_ _) | (with_reducible refine Kd.C_drew ?_)))
                (case side4 => exact HC203_7.out)
                rintro e w10 ⟨rfl, hb⟩
                refine ⟨_, rfl, ?_⟩
                have n0_ := Aside0.mk (below_step (by repeat (first | (with_reducible first | exact HB.out | apply below_alloc | apply pw_below_drewN | apply below_drew1) | exact HB.out)) hb)
                clear HB
                have HB := n0_
                clear n0_
                (try clear hb)
                (try clear hb2)
                (try clear hk)
                (try clear hi)
                refine hK.out _ _ ⟨((HB.out.cell (World.block_lt_of_cell? w _ hw202_0)).trans hw202_0), ((HB.out.cell (World.block_lt_of_cell? w _ hw202_1)).trans hw202_1), ((HB.out.cell (World.block_lt_of_cell? w _ hw202_2)).trans hw202_2), ((HB.out.cell (World.block_lt_of_cell? w _ hw202_3)).trans hw202_3), ((HB.out.cell (World.block_lt_of_cell? w _ hw202_4)).trans hw202_4), ((HB.out.cell (World.block_lt_of_cell? w _ hw202_5)).trans hw202_5), ((HB.out.cell (World.block_lt_of_cell? w _ hw202_6)).trans hw202_6), ((HB.out.cell (World.block_lt_of_cell? w _ hw202_7)).trans hw202_7), ((HB.out.cell (World.block_lt_of_cell? w _ hw203_0)).trans hw203_0), ((HB.out.cell (World.block_lt_of_cell? w _ hw203_1)).trans hw203_1), ((HB.out.cell (World.block_lt_of_cell? w _ hw203_2)).trans hw203_2), ((HB.out.cell (World.block_lt_of_cell? w _ hw203_3)).trans hw203_3), ((HB.out.cell (World.block_lt_of_cell? w _ hw203_4)).trans hw203_4), ((HB.out.cell (World.block_lt_of_cell? w _ hw203_5)).trans hw203_5), ((HB.out.cell (World.block_lt_of_cell? w _ hw203_6)).trans hw203_6), ((HB.out.cell (World.block_lt_of_cell? w _ hw203_7)).trans hw203_7)⟩ (fun hHeld => ?_)
                clear hK K
                refine norm_ (a' := ?_) ?_ ?_
                rotate_left
                · show Act.put _ (some 25) _ = _
                  simp only [Act.put, List.setIfInBounds_toArray, List.set_cons_zero, List.set_cons_succ, i64_w, i32_w]
                  rfl
                refine pure_ (i := 9) (N := some 26) (v := ?_) (a' := ?_) #[true, true, true, true, true, true, true, true, true, true] rfl rfl (any_of HT_.out (by kernel_rfl)) (fun _ _ _ h => h) (Or.inl ⟨by rfl, ?_⟩) ?_ ?_
                rotate_left
                · intro w'
                  go_simp
                  with_reducible rfl
                rotate_left
                · simp only [Act.put, List.setIfInBounds_toArray, List.set_cons_zero, List.set_cons_succ, i64_w, i32_w]
                  rfl
                refine done_ (done_of HT_.out (by kernel_rfl)) ?_
                try go_wp2
                go_roundg k1
                case measure => have := HK1.out; omega
                case rel => exact ⟨(wrap64 (x5_1 + 1)), (by first | rfl | (simp; done) | (simp [*]; done)), H', ⟨by have := HK1.out; omega⟩, ⟨by repeat (first | (with_reducible first | exact HB.out | apply below_alloc | apply pw_below_drewN | apply below_drew1) | exact HB.out)⟩⟩
              · replace c8 := Bool.eq_false_iff.mpr c8
                subst c8
                have H1 : (some false) = some r := by rw [if_neg (show ¬ (false = true) by decide)] at H; exact H
                clear H
                have H := H1
                clear H1
                obtain rfl := Option.some.inj H
                try go_wp2
                have n0_ := Aside0.mk (below_drew1 HB.out)
                clear HB
                have HB := n0_
                clear n0_
                have p202 : 0 ≤ (x5_1 : Int) := of_decide_eq_true (by first | (with_reducible assumption) | assumption)
                have q202 : x5_1 < (l0.length : Int) := of_decide_eq_true (by first | (with_reducible assumption) | assumption)
                obtain ⟨ad202, A202_7, c202_7, e202, hx202_0, hx202_1, hx202_2, hx202_3, hx202_4, hx202_5, hx202_6, hx202_7, hl202_7, hi202_7⟩ := at_T28 HR0.out x5_1 p202 q202
                have hw202_7 := hx202_7
                have hw202_6 := hx202_6
                have hw202_5 := hx202_5
                have hw202_4 := hx202_4
                have hw202_3 := hx202_3
                have hw202_2 := hx202_2
                have hw202_1 := hx202_1
                have hw202_0 := hx202_0
                cases e202
                replace hx202_0 := (HB.out.cell (World.block_lt_of_cell? w _ hx202_0)).trans hx202_0
                replace hx202_1 := (HB.out.cell (World.block_lt_of_cell? w _ hx202_1)).trans hx202_1
                replace hx202_2 := (HB.out.cell (World.block_lt_of_cell? w _ hx202_2)).trans hx202_2
                replace hx202_3 := (HB.out.cell (World.block_lt_of_cell? w _ hx202_3)).trans hx202_3
                replace hx202_4 := (HB.out.cell (World.block_lt_of_cell? w _ hx202_4)).trans hx202_4
                replace hx202_5 := (HB.out.cell (World.block_lt_of_cell? w _ hx202_5)).trans hx202_5
                replace hx202_6 := (HB.out.cell (World.block_lt_of_cell? w _ hx202_6)).trans hx202_6
                replace hx202_7 := (HB.out.cell (World.block_lt_of_cell? w _ hx202_7)).trans hx202_7
                have HR202_7 := Aside0.mk hi202_7
                have HC202_7 := Aside0.mk hl202_7
                clear hi202_7 hl202_7
                replace p202 := eq_true p202
                replace q202 := eq_true q202
                have p203 : 0 ≤ (x5_1 : Int) := of_decide_eq_true (by first | (with_reducible assumption) | assumption)
                have q203 : x5_1 < (l1.length : Int) := of_decide_eq_true (by first | (with_reducible assumption) | assumption)
                obtain ⟨ad203, A203_7, c203_7, e203, hx203_0, hx203_1, hx203_2, hx203_3, hx203_4, hx203_5, hx203_6, hx203_7, hl203_7, hi203_7⟩ := at_T28 HR1.out x5_1 p203 q203
                have hw203_7 := hx203_7
                have hw203_6 := hx203_6
                have hw203_5 := hx203_5
                have hw203_4 := hx203_4
                have hw203_3 := hx203_3
                have hw203_2 := hx203_2
                have hw203_1 := hx203_1
                have hw203_0 := hx203_0
                cases e203
                replace hx203_0 := (HB.out.cell (World.block_lt_of_cell? w _ hx203_0)).trans hx203_0
                replace hx203_1 := (HB.out.cell (World.block_lt_of_cell? w _ hx203_1)).trans hx203_1
                replace hx203_2 := (HB.out.cell (World.block_lt_of_cell? w _ hx203_2)).trans hx203_2
                replace hx203_3 := (HB.out.cell (World.block_lt_of_cell? w _ hx203_3)).trans hx203_3
                replace hx203_4 := (HB.out.cell (World.block_lt_of_cell? w _ hx203_4)).trans hx203_4
                replace hx203_5 := (HB.out.cell (World.block_lt_of_cell? w _ hx203_5)).trans hx203_5
                replace hx203_6 := (HB.out.cell (World.block_lt_of_cell? w _ hx203_6)).trans hx203_6
                replace hx203_7 := (HB.out.cell (World.block_lt_of_cell? w _ hx203_7)).trans hx203_7
                have HR203_7 := Aside0.mk hi203_7
                have HC203_7 := Aside0.mk hl203_7
                clear hi203_7 hl203_7
                replace p203 := eq_true p203
                replace q203 := eq_true q203
                refine start_ (n := 10) (S := fun w' => w'.cell? (ad202.add ((x5_1).toNat * 8)) = some (.int .i64 ((rd_T28 l0 x5_1).f0)) ∧ w'.cell? ⟨(ad202.add ((x5_1).toNat * 8)).block, (ad202.add ((x5_1).toNat * 8)).off + 1, none⟩ = some (.int .i64 ((rd_T28 l0 x5_1).f1)) ∧ w'.cell? ⟨(ad202.add ((x5_1).toNat * 8)).block, (ad202.add ((x5_1).toNat * 8)).off + 2, none⟩ = some (.int .i64 ((rd_T28 l0 x5_1).f2)) ∧ w'.cell? ⟨(ad202.add ((x5_1).toNat * 8)).block, (ad202.add ((x5_1).toNat * 8)).off + 3, none⟩ = some (.int .i64 ((rd_T28 l0 x5_1).f3)) ∧ w'.cell? ⟨(ad202.add ((x5_1).toNat * 8)).block, (ad202.add ((x5_1).toNat * 8)).off + 4, none⟩ = some (.string ((rd_T28 l0 x5_1).f4)) ∧ w'.cell? ⟨(ad202.add ((x5_1).toNat * 8)).block, (ad202.add ((x5_1).toNat * 8)).off + 5, none⟩ = some (.int .i64 ((rd_T28 l0 x5_1).f5.f0)) ∧ w'.cell? ⟨(ad202.add ((x5_1).toNat * 8)).block, (ad202.add ((x5_1).toNat * 8)).off + 6, none⟩ = some (.int .i64 ((rd_T28 l0 x5_1).f5.f1)) ∧ w'.cell? ⟨(ad202.add ((x5_1).toNat * 8)).block, (ad202.add ((x5_1).toNat * 8)).off + 7, none⟩ = some (.slice A202_7 ((rd_T28 l0 x5_1).f5.f2).length c202_7) ∧ w'.cell? (ad203.add ((x5_1).toNat * 8)) = some (.int .i64 ((rd_T28 l1 x5_1).f0)) ∧ w'.cell? ⟨(ad203.add ((x5_1).toNat * 8)).block, (ad203.add ((x5_1).toNat * 8)).off + 1, none⟩ = some (.int .i64 ((rd_T28 l1 x5_1).f1)) ∧ w'.cell? ⟨(ad203.add ((x5_1).toNat * 8)).block, (ad203.add ((x5_1).toNat * 8)).off + 2, none⟩ = some (.int .i64 ((rd_T28 l1 x5_1).f2)) ∧ w'.cell? ⟨(ad203.add ((x5_1).toNat * 8)).block, (ad203.add ((x5_1).toNat * 8)).off + 3, none⟩ = some (.int .i64 ((rd_T28 l1 x5_1).f3)) ∧ w'.cell? ⟨(ad203.add ((x5_1).toNat * 8)).block, (ad203.add ((x5_1).toNat * 8)).off + 4, none⟩ = some (.string ((rd_T28 l1 x5_1).f4)) ∧ w'.cell? ⟨(ad203.add ((x5_1).toNat * 8)).block, (ad203.add ((x5_1).toNat * 8)).off + 5, none⟩ = some (.int .i64 ((rd_T28 l1 x5_1).f5.f0)) ∧ w'.cell? ⟨(ad203.add ((x5_1).toNat * 8)).block, (ad203.add ((x5_1).toNat * 8)).off + 6, none⟩ = some (.int .i64 ((rd_T28 l1 x5_1).f5.f1)) ∧ w'.cell? ⟨(ad203.add ((x5_1).toNat * 8)).block, (ad203.add ((x5_1).toNat * 8)).off + 7, none⟩ = some (.slice A203_7 ((rd_T28 l1 x5_1).f5.f2).length c203_7)) (ds := []) #[false, false, false, false, false, false, false, false, false, false] (by kernel_rfl) rfl rfl ⟨((HB.out.cell (World.block_lt_of_cell? w _ hw202_0)).trans hw202_0), ((HB.out.cell (World.block_lt_of_cell? w _ hw202_1)).trans hw202_1), ((HB.out.cell (World.block_lt_of_cell? w _ hw202_2)).trans hw202_2), ((HB.out.cell (World.block_lt_of_cell? w _ hw202_3)).trans hw202_3), ((HB.out.cell (World.block_lt_of_cell? w _ hw202_4)).trans hw202_4), ((HB.out.cell (World.block_lt_of_cell? w _ hw202_5)).trans hw202_5), ((HB.out.cell (World.block_lt_of_cell? w _ hw202_6)).trans hw202_6), ((HB.out.cell (World.block_lt_of_cell? w _ hw202_7)).trans hw202_7), ((HB.out.cell (World.block_lt_of_cell? w _ hw203_0)).trans hw203_0), ((HB.out.cell (World.block_lt_of_cell? w _ hw203_1)).trans hw203_1), ((HB.out.cell (World.block_lt_of_cell? w _ hw203_2)).trans hw203_2), ((HB.out.cell (World.block_lt_of_cell? w _ hw203_3)).trans hw203_3), ((HB.out.cell (World.block_lt_of_cell? w _ hw203_4)).trans hw203_4), ((HB.out.cell (World.block_lt_of_cell? w _ hw203_5)).trans hw203_5), ((HB.out.cell (World.block_lt_of_cell? w _ hw203_6)).trans hw203_6), ((HB.out.cell (World.block_lt_of_cell? w _ hw203_7)).trans hw203_7)⟩ (fun hHeld => ?_); refine with_tabW storagebarterref42_Same.tab6 storagebarterref42_Same.bits6 (fun HT_ HW_ => ?_)
                generalize wr.drew = w11 at HB HR202_7 HR203_7 hx202_0 hx202_1 hx202_2 hx202_3 hx202_4 hx202_5 hx202_6 hx202_7 hx203_0 hx203_1 hx203_2 hx203_3 hx203_4 hx203_5 hx203_6 hx203_7 hHeld ⊢
                refine pure_ (i := 0) (N := some 17) (v := ?_) (a' := ?_) #[true, false, false, false, false, false, false, false, false, false] rfl rfl (any_of HT_.out (by kernel_rfl)) (fun _ _ _ h => h) (Or.inl ⟨by rfl, ?_⟩) ?_ ?_
                rotate_left
                · intro w'
                  go_simp
                  with_reducible rfl
                rotate_left
                · simp only [Act.put, List.setIfInBounds_toArray, List.set_cons_zero, List.set_cons_succ, i64_w, i32_w]
                  rfl
                refine pure_ (i := 1) (N := some 18) (v := ?_) (a' := ?_) #[true, true, false, false, false, false, false, false, false, false] rfl rfl (any_of HT_.out (by kernel_rfl)) (fun _ _ _ h => h) (Or.inl ⟨by rfl, ?_⟩) ?_ ?_
                rotate_left
                · intro w'
                  go_simp
                  with_reducible rfl
                rotate_left
                · simp only [Act.put, List.setIfInBounds_toArray, List.set_cons_zero, List.set_cons_succ, i64_w, i32_w]
                  rfl
                refine pure_ (i := 2) (N := some 19) (v := ?_) (a' := ?_) #[true, true, true, false, false, false, false, false, false, false] rfl rfl (any_of HT_.out (by kernel_rfl)) (fun _ _ _ h => h) (Or.inl ⟨by rfl, ?_⟩) ?_ ?_
                rotate_left
                · intro w'
                  go_simp
                  with_reducible rfl
                rotate_left
                · simp only [Act.put, List.setIfInBounds_toArray, List.set_cons_zero, List.set_cons_succ, i64_w, i32_w]
                  rfl
                refine pure_ (i := 4) (N := some 21) (v := ?_) (a' := ?_) #[true, true, true, false, true, false, false, false, false, false] rfl rfl (any_of HT_.out (by kernel_rfl)) (fun _ _ _ h => h) (Or.inl ⟨by rfl, ?_⟩) ?_ ?_
                rotate_left
                · intro w'
                  go_simp
                  with_reducible rfl
                rotate_left
                · simp only [Act.put, List.setIfInBounds_toArray, List.set_cons_zero, List.set_cons_succ, i64_w, i32_w]
                  rfl
                refine pure_ (i := 5) (N := some 22) (v := ?_) (a' := ?_) #[true, true, true, false, true, true, false, false, false, false] rfl rfl (any_of HT_.out (by kernel_rfl)) (fun _ _ _ h => h) (Or.inl ⟨by rfl, ?_⟩) ?_ ?_
                rotate_left
                · intro w'
                  go_simp
                  with_reducible rfl
                rotate_left
                · simp only [Act.put, List.setIfInBounds_toArray, List.set_cons_zero, List.set_cons_succ, i64_w, i32_w]
                  rfl
                refine pure_ (i := 6) (N := some 23) (v := ?_) (a' := ?_) #[true, true, true, false, true, true, true, false, false, false] rfl rfl (any_of HT_.out (by kernel_rfl)) (fun _ _ _ h => h) (Or.inl ⟨by rfl, ?_⟩) ?_ ?_
                rotate_left
                · intro w'
                  go_simp
                  with_reducible rfl
                rotate_left
                · simp only [Act.put, List.setIfInBounds_toArray, List.set_cons_zero, List.set_cons_succ, i64_w, i32_w]
                  rfl
                refine take_ (i := 3) (N := some 20) (v := ?_) (a' := ?_) #[true, true, true, true, true, true, true, false, false, false] rfl rfl (take_ofW HT_.out HW_.out (by kernel_rfl)) (fun _ _ _ h => h) (Or.inl ⟨by rfl, ?_⟩) hHeld ?_ ?_
                rotate_left
                · rintro w' ⟨s0, s1, s2, s3, s4, s5, s6, s7, s8, s9, s10, s11, s12, s13, s14, s15⟩
                  go_simp
                  with_reducible rfl
                rotate_left
                · simp only [Act.put, List.setIfInBounds_toArray, List.set_cons_zero, List.set_cons_succ, i64_w, i32_w]
                  rfl
                refine take_ (i := 7) (N := some 24) (v := ?_) (a' := ?_) #[true, true, true, true, true, true, true, true, false, false] rfl rfl (take_ofW HT_.out HW_.out (by kernel_rfl)) (fun _ _ _ h => h) (Or.inl ⟨by rfl, ?_⟩) hHeld ?_ ?_
                rotate_left
                · rintro w' ⟨s0, s1, s2, s3, s4, s5, s6, s7, s8, s9, s10, s11, s12, s13, s14, s15⟩
                  go_simp
                  with_reducible rfl
                rotate_left
                · simp only [Act.put, List.setIfInBounds_toArray, List.set_cons_zero, List.set_cons_succ, i64_w, i32_w]
                  rfl
                refine one_ (i := 8) (N := some 25) #[true, true, true, true, true, true, true, true, true, false] rfl rfl (one_of HT_.out (by kernel_rfl)) (by decide) (fun K hK => ?_)
                refine goes_ Try.func16 (by kernel_rfl) rfl #[.agg #[.int .i64 ((rd_T28 l0 x5_1).f0), .int .i64 ((rd_T28 l0 x5_1).f1), .int .i64 ((rd_T28 l0 x5_1).f2), .int .i64 ((rd_T28 l0 x5_1).f3), .string ((rd_T28 l0 x5_1).f4), .int .i64 ((rd_T28 l0 x5_1).f5.f0), .int .i64 ((rd_T28 l0 x5_1).f5.f1), .slice A202_7 ((rd_T28 l0 x5_1).f5.f2).length c202_7], .agg #[.int .i64 ((rd_T28 l1 x5_1).f0), .int .i64 ((rd_T28 l1 x5_1).f1), .int .i64 ((rd_T28 l1 x5_1).f2), .int .i64 ((rd_T28 l1 x5_1).f3), .string ((rd_T28 l1 x5_1).f4), .int .i64 ((rd_T28 l1 x5_1).f5.f0), .int .i64 ((rd_T28 l1 x5_1).f5.f1), .slice A203_7 ((rd_T28 l1 x5_1).f5.f2).length c203_7]] (by rfl) rfl rfl (by (try simp only [List.map_toArray, List.map_cons, List.map_nil]); first | done | rfl | (simp only [List.length_drop, List.length_take]; rfl)) ?_
                with_reducible refine (storagebarterref42_One.calls k1 ((rd_T28 l0 x5_1).f0) ((rd_T28 l0 x5_1).f1) ((rd_T28 l0 x5_1).f2) ((rd_T28 l0 x5_1).f3) ((rd_T28 l0 x5_1).f4) ((rd_T28 l0 x5_1).f5.f0) ((rd_T28 l0 x5_1).f5.f1) _ _ ((rd_T28 l0 x5_1).f5.f2) ((rd_T28 l1 x5_1).f0) ((rd_T28 l1 x5_1).f1) ((rd_T28 l1 x5_1).f2) ((rd_T28 l1 x5_1).f3) ((rd_T28 l1 x5_1).f4) ((rd_T28 l1 x5_1).f5.f0) ((rd_T28 l1 x5_1).f5.f1) _ _ ((rd_T28 l1 x5_1).f5.f2) false _ ?side1 ?side2 ?side3 ?side4 A7.out).mono ?_
                (case side1 => repeat (first | exact (Kd.C_below HR202_7.out HB.out) | (with_reducible refine Kd.C_alloc ?_ _) | (with_reducible refine Kd.C_drewN ?_ _) | (with_reducible refine Kd.C_drew ?_)))
                (case side2 => exact HC202_7.out)
                (case side3 => repeat (first | exact (Kd.C_below HR203_7.out HB.out) | (with_reducible refine Kd.C_alloc ?_ _) | (with_reducible refine Kd.C_drewN ?_ _) | (with_reducible refine Kd.C_drew ?_)))
                (case side4 => exact HC203_7.out)
                rintro e w12 ⟨rfl, hb⟩
                refine ⟨_, rfl, ?_⟩
                have n0_ := Aside0.mk (below_step (by repeat (first | (with_reducible first | exact HB.out | apply below_alloc | apply pw_below_drewN | apply below_drew1) | exact HB.out)) hb)
                clear HB
                have HB := n0_
                clear n0_
                (try clear hb)
                (try clear hb2)
                (try clear hk)
                (try clear hi)
                refine hK.out _ _ ⟨((HB.out.cell (World.block_lt_of_cell? w _ hw202_0)).trans hw202_0), ((HB.out.cell (World.block_lt_of_cell? w _ hw202_1)).trans hw202_1), ((HB.out.cell (World.block_lt_of_cell? w _ hw202_2)).trans hw202_2), ((HB.out.cell (World.block_lt_of_cell? w _ hw202_3)).trans hw202_3), ((HB.out.cell (World.block_lt_of_cell? w _ hw202_4)).trans hw202_4), ((HB.out.cell (World.block_lt_of_cell? w _ hw202_5)).trans hw202_5), ((HB.out.cell (World.block_lt_of_cell? w _ hw202_6)).trans hw202_6), ((HB.out.cell (World.block_lt_of_cell? w _ hw202_7)).trans hw202_7), ((HB.out.cell (World.block_lt_of_cell? w _ hw203_0)).trans hw203_0), ((HB.out.cell (World.block_lt_of_cell? w _ hw203_1)).trans hw203_1), ((HB.out.cell (World.block_lt_of_cell? w _ hw203_2)).trans hw203_2), ((HB.out.cell (World.block_lt_of_cell? w _ hw203_3)).trans hw203_3), ((HB.out.cell (World.block_lt_of_cell? w _ hw203_4)).trans hw203_4), ((HB.out.cell (World.block_lt_of_cell? w _ hw203_5)).trans hw203_5), ((HB.out.cell (World.block_lt_of_cell? w _ hw203_6)).trans hw203_6), ((HB.out.cell (World.block_lt_of_cell? w _ hw203_7)).trans hw203_7)⟩ (fun hHeld => ?_)
                clear hK K
                refine norm_ (a' := ?_) ?_ ?_
                rotate_left
                · show Act.put _ (some 25) _ = _
                  simp only [Act.put, List.setIfInBounds_toArray, List.set_cons_zero, List.set_cons_succ, i64_w, i32_w]
                  rfl
                refine pure_ (i := 9) (N := some 26) (v := ?_) (a' := ?_) #[true, true, true, true, true, true, true, true, true, true] rfl rfl (any_of HT_.out (by kernel_rfl)) (fun _ _ _ h => h) (Or.inl ⟨by rfl, ?_⟩) ?_ ?_
                rotate_left
                · intro w'
                  go_simp
                  with_reducible rfl
                rotate_left
                · simp only [Act.put, List.setIfInBounds_toArray, List.set_cons_zero, List.set_cons_succ, i64_w, i32_w]
                  rfl
                refine done_ (done_of HT_.out (by kernel_rfl)) ?_
                try go_wp2
                go_ret
                exact ⟨by first | rfl | (simp [errW_none, errW_some] <;> rfl) | (simp [*, errW_none, errW_some] <;> rfl), by repeat (first | (with_reducible first | exact HB.out | apply below_alloc | apply pw_below_drewN | apply below_drew1) | exact HB.out)⟩
            · rw [if_neg c6] at H
              exact absurd H (by simp)
          · rw [if_neg c5] at H
            exact absurd H (by simp)
        · rw [if_neg c4] at H
          have c4b0 : decide (x5_1 < (l0.length : Int)) = false := decide_eq_false c4
          clear c4
          obtain rfl := Option.some.inj H
          go_wp2
          go_ret
          exact ⟨by first | rfl | (simp [errW_none, errW_some] <;> rfl) | (simp [*, errW_none, errW_some] <;> rfl), by repeat (first | (with_reducible first | exact HB.out | apply below_alloc | apply pw_below_drewN | apply below_drew1) | exact HB.out)⟩
  · rw [if_neg c3] at H
    have c3b0 : ((l0.length : Int) == (l1.length : Int)) = false := beq_eq_false_iff_ne.mpr c3
    have c3b1 : ((l0.length : Int) != (l1.length : Int)) = true := bne_iff_ne.mpr c3
    have c3b2 : (l0.length == l1.length) = false := by first | simpa using c3 | (simp at c3 ⊢; omega)
    obtain rfl := Option.some.inj H
    go_enter Try.func11, Try.ntmps11
    go_wp2
    go_ret
    exact ⟨by first | rfl | (simp [errW_none, errW_some] <;> rfl) | (simp [*, errW_none, errW_some] <;> rfl), by repeat (first | (with_reducible first | exact HB.out | apply below_alloc | apply pw_below_drewN | apply below_drew1) | exact HB.out)⟩
end Go.Proofs.Ytcjdnahgffkbdaa.Q

namespace Go.Proofs.Ytcjdnahgffkbdaa.Q
open Go.RowKit Go.Proofs.YtcjdnahgffkbdaaW.PrintWords Go.Proofs.YtcjdnahgffkbdaaW.PrintLast Go.Proofs.YtcjdnahgffkbdaaW.PrintMore Go.Proofs.Ytcjdnahgffkbdaa.Gput Go.Proofs.Ytcjdnahgffkbdaa.Gputl
attribute [local go_sem] max2_int min2_int max_two min_two max_three min_three max_four min_four   -- for this text's walks alone
set_option linter.unusedVariables false
set_option linter.unusedSimpArgs false
def storagebarterref42_Check.f (a0_0 : Int) (a0_1 : Int) (a0_2 : Int) (a0_3 : Int) (a0_4 : ByteArray) (a0_5 : Int) (a0_6 : Int) (l0_7 : List (S64)) : Option (Int) := if (a0_4.size : Int) > 16384 then (some 4) else (if (l0_7.length : Int) > 256 then (some 4) else (some 0))
set_option maxHeartbeats 8000000 in
set_option maxRecDepth 100000 in
theorem storagebarterref42_Check.calls (a0_0 : Int) (a0_1 : Int) (a0_2 : Int) (a0_3 : Int) (a0_4 : ByteArray) (a0_5 : Int) (a0_6 : Int) (A0_7 : Option Addr) (c0_7 : Nat) (l0_7 : List (S64)) (r : Int) (w : World) (hr0_7 : Kd.C k64 w A0_7 l0_7.length l0_7) (hc0_7 : l0_7.length ≤ c0_7) (h : storagebarterref42_Check.f a0_0 a0_1 a0_2 a0_3 a0_4 a0_5 a0_6 l0_7 = some r) :
    Calls Try.prog 23 #[.agg #[.int .i64 a0_0, .int .i64 a0_1, .int .i64 a0_2, .int .i64 a0_3, .string a0_4, .int .i64 a0_5, .int .i64 a0_6, .slice A0_7 l0_7.length c0_7]] w fun e w' => e = .returned (.int .i64 r) ∧ Below w.heap.size w w' := by
  have hu28 := Try.underlying28
  have HR0_7 := Aside0.mk hr0_7
  have HC0_7 := Aside0.mk hc0_7
  clear hr0_7 hc0_7
  have HB := Aside0.mk (Below.refl w.heap.size w)
  have H : (if (a0_4.size : Int) > 16384 then (some 4) else (if (l0_7.length : Int) > 256 then (some 4) else (some 0))) = some r := h
  clear h
  by_cases c2 : (a0_4.size : Int) > 16384
  · rw [if_pos c2] at H
    have c2b0 : decide (16384 < (a0_4.size : Int)) = true := decide_eq_true c2
    have c2b1 : decide (16384 < a0_4.size) = true := decide_eq_true (by omega)
    clear c2
    obtain rfl := Option.some.inj H
    go_enter Try.func23, Try.ntmps23
    go_wp2_with (first | ((with_reducible refine gate_dst (N := 1) rfl ?_); (try (refine gate_guard (by rfl) ?_; dsimp only)); refine box_event ?hg (N := 1) ?hd (cs := #[.int .i64 a0_0, .int .i64 a0_1, .int .i64 a0_2, .int .i64 a0_3, .string a0_4, .int .i64 a0_5, .int .i64 a0_6, .slice A0_7 l0_7.length c0_7]) (t := 28) ?hr ?_; (case hd => rfl); (case hg => rfl); (case hr => first | (go_simp; done) | (go_simp; rfl)); intro gb127 hg w3 hbox hb; have n0_ := Aside0.mk (below_step (by repeat (first | (with_reducible first | exact HB.out | apply below_alloc | apply pw_below_drewN | apply below_drew1) | exact HB.out)) hb); have n1_ := Aside0.mk (hbox); have n2_ := Aside0.mk ((by rw [hg]; exact (below_size (by repeat (first | (with_reducible first | exact HB.out | apply below_alloc | apply pw_below_drewN | apply below_drew1) | exact HB.out))) : w.heap.size ≤ gb127)); have n3_ := Aside0.mk ((by rw [hg]; exact (below_size (by repeat (first | (with_reducible first | exact HB.out | apply below_alloc | apply pw_below_drewN | apply below_drew1) | exact HB.out))) : w.heap.size ≤ gb127)); clear HB; have HB := n0_; have BK127 := n1_; have GW127 := n2_; have GE127 := n3_; clear n0_ n1_ n2_ n3_; clear hb hbox hg; have hcz4_0 : w3.cell? ⟨gb127, 0, none⟩ = some (.int .i64 a0_0) := (blk_cell BK127.out 0).trans rfl; have hcz4_1 : w3.cell? ⟨gb127, 1, none⟩ = some (.int .i64 a0_1) := (blk_cell BK127.out 1).trans rfl; have hcz4_2 : w3.cell? ⟨gb127, 2, none⟩ = some (.int .i64 a0_2) := (blk_cell BK127.out 2).trans rfl; have hcz4_3 : w3.cell? ⟨gb127, 3, none⟩ = some (.int .i64 a0_3) := (blk_cell BK127.out 3).trans rfl; have hcz4_4 : w3.cell? ⟨gb127, 4, none⟩ = some (.string a0_4) := (blk_cell BK127.out 4).trans rfl; have hcz4_5 : w3.cell? ⟨gb127, 5, none⟩ = some (.int .i64 a0_5) := (blk_cell BK127.out 5).trans rfl; have hcz4_6 : w3.cell? ⟨gb127, 6, none⟩ = some (.int .i64 a0_6) := (blk_cell BK127.out 6).trans rfl; have hcz4_7 : w3.cell? ⟨gb127, 7, none⟩ = some (.slice A0_7 l0_7.length c0_7) := (blk_cell BK127.out 7).trans rfl; have hfz4_0 := blk_frozen BK127.out 0; have hfz4_1 := blk_frozen BK127.out 1; have hfz4_2 := blk_frozen BK127.out 2; have hfz4_3 := blk_frozen BK127.out 3; have hfz4_4 := blk_frozen BK127.out 4; have hfz4_5 := blk_frozen BK127.out 5; have hfz4_6 := blk_frozen BK127.out 6; have hfz4_7 := blk_frozen BK127.out 7))
    go_ret
    exact ⟨by first | rfl | (simp [errW_none, errW_some] <;> rfl) | (simp [*, errW_none, errW_some] <;> rfl), by repeat (first | (with_reducible first | exact HB.out | apply below_alloc | apply pw_below_drewN | apply below_drew1 | refine below_set ?_ GE127.out) | exact HB.out)⟩
  · rw [if_neg c2] at H
    have c2b0 : decide (16384 < (a0_4.size : Int)) = false := decide_eq_false c2
    have c2b1 : decide (16384 < a0_4.size) = false := decide_eq_false (by omega)
    clear c2
    by_cases c5 : (l0_7.length : Int) > 256
    · rw [if_pos c5] at H
      have c5b0 : decide (256 < (l0_7.length : Int)) = true := decide_eq_true c5
      have c5b1 : decide (256 < l0_7.length) = true := decide_eq_true (by omega)
      clear c5
      obtain rfl := Option.some.inj H
      go_enter Try.func23, Try.ntmps23
      go_wp2_with (first | ((with_reducible refine gate_dst (N := 1) rfl ?_); (try (refine gate_guard (by rfl) ?_; dsimp only)); refine box_event ?hg (N := 1) ?hd (cs := #[.int .i64 a0_0, .int .i64 a0_1, .int .i64 a0_2, .int .i64 a0_3, .string a0_4, .int .i64 a0_5, .int .i64 a0_6, .slice A0_7 l0_7.length c0_7]) (t := 28) ?hr ?_; (case hd => rfl); (case hg => rfl); (case hr => first | (go_simp; done) | (go_simp; rfl)); intro gb127 hg w6 hbox hb; have n0_ := Aside0.mk (below_step (by repeat (first | (with_reducible first | exact HB.out | apply below_alloc | apply pw_below_drewN | apply below_drew1) | exact HB.out)) hb); have n1_ := Aside0.mk (hbox); have n2_ := Aside0.mk ((by rw [hg]; exact (below_size (by repeat (first | (with_reducible first | exact HB.out | apply below_alloc | apply pw_below_drewN | apply below_drew1) | exact HB.out))) : w.heap.size ≤ gb127)); have n3_ := Aside0.mk ((by rw [hg]; exact (below_size (by repeat (first | (with_reducible first | exact HB.out | apply below_alloc | apply pw_below_drewN | apply below_drew1) | exact HB.out))) : w.heap.size ≤ gb127)); clear HB; have HB := n0_; have BK127 := n1_; have GW127 := n2_; have GE127 := n3_; clear n0_ n1_ n2_ n3_; clear hb hbox hg; have hcz7_0 : w6.cell? ⟨gb127, 0, none⟩ = some (.int .i64 a0_0) := (blk_cell BK127.out 0).trans rfl; have hcz7_1 : w6.cell? ⟨gb127, 1, none⟩ = some (.int .i64 a0_1) := (blk_cell BK127.out 1).trans rfl; have hcz7_2 : w6.cell? ⟨gb127, 2, none⟩ = some (.int .i64 a0_2) := (blk_cell BK127.out 2).trans rfl; have hcz7_3 : w6.cell? ⟨gb127, 3, none⟩ = some (.int .i64 a0_3) := (blk_cell BK127.out 3).trans rfl; have hcz7_4 : w6.cell? ⟨gb127, 4, none⟩ = some (.string a0_4) := (blk_cell BK127.out 4).trans rfl; have hcz7_5 : w6.cell? ⟨gb127, 5, none⟩ = some (.int .i64 a0_5) := (blk_cell BK127.out 5).trans rfl; have hcz7_6 : w6.cell? ⟨gb127, 6, none⟩ = some (.int .i64 a0_6) := (blk_cell BK127.out 6).trans rfl; have hcz7_7 : w6.cell? ⟨gb127, 7, none⟩ = some (.slice A0_7 l0_7.length c0_7) := (blk_cell BK127.out 7).trans rfl; have hfz7_0 := blk_frozen BK127.out 0; have hfz7_1 := blk_frozen BK127.out 1; have hfz7_2 := blk_frozen BK127.out 2; have hfz7_3 := blk_frozen BK127.out 3; have hfz7_4 := blk_frozen BK127.out 4; have hfz7_5 := blk_frozen BK127.out 5; have hfz7_6 := blk_frozen BK127.out 6; have hfz7_7 := blk_frozen BK127.out 7))
      go_ret
      exact ⟨by first | rfl | (simp [errW_none, errW_some] <;> rfl) | (simp [*, errW_none, errW_some] <;> rfl), by repeat (first | (with_reducible first | exact HB.out | apply below_alloc | apply pw_below_drewN | apply below_drew1 | refine below_set ?_ GE127.out) | exact HB.out)⟩
    · rw [if_neg c5] at H
      have c5b0 : decide (256 < (l0_7.length : Int)) = false := decide_eq_false c5
      have c5b1 : decide (256 < l0_7.length) = false := decide_eq_false (by omega)
      clear c5
      obtain rfl := Option.some.inj H
      go_enter Try.func23, Try.ntmps23
      go_wp2_with (first | ((with_reducible refine gate_dst (N := 1) rfl ?_); (try (refine gate_guard (by rfl) ?_; dsimp only)); refine box_event ?hg (N := 1) ?hd (cs := #[.int .i64 a0_0, .int .i64 a0_1, .int .i64 a0_2, .int .i64 a0_3, .string a0_4, .int .i64 a0_5, .int .i64 a0_6, .slice A0_7 l0_7.length c0_7]) (t := 28) ?hr ?_; (case hd => rfl); (case hg => rfl); (case hr => first | (go_simp; done) | (go_simp; rfl)); intro gb127 hg w8 hbox hb; have n0_ := Aside0.mk (below_step (by repeat (first | (with_reducible first | exact HB.out | apply below_alloc | apply pw_below_drewN | apply below_drew1) | exact HB.out)) hb); have n1_ := Aside0.mk (hbox); have n2_ := Aside0.mk ((by rw [hg]; exact (below_size (by repeat (first | (with_reducible first | exact HB.out | apply below_alloc | apply pw_below_drewN | apply below_drew1) | exact HB.out))) : w.heap.size ≤ gb127)); have n3_ := Aside0.mk ((by rw [hg]; exact (below_size (by repeat (first | (with_reducible first | exact HB.out | apply below_alloc | apply pw_below_drewN | apply below_drew1) | exact HB.out))) : w.heap.size ≤ gb127)); clear HB; have HB := n0_; have BK127 := n1_; have GW127 := n2_; have GE127 := n3_; clear n0_ n1_ n2_ n3_; clear hb hbox hg; have hcz9_0 : w8.cell? ⟨gb127, 0, none⟩ = some (.int .i64 a0_0) := (blk_cell BK127.out 0).trans rfl; have hcz9_1 : w8.cell? ⟨gb127, 1, none⟩ = some (.int .i64 a0_1) := (blk_cell BK127.out 1).trans rfl; have hcz9_2 : w8.cell? ⟨gb127, 2, none⟩ = some (.int .i64 a0_2) := (blk_cell BK127.out 2).trans rfl; have hcz9_3 : w8.cell? ⟨gb127, 3, none⟩ = some (.int .i64 a0_3) := (blk_cell BK127.out 3).trans rfl; have hcz9_4 : w8.cell? ⟨gb127, 4, none⟩ = some (.string a0_4) := (blk_cell BK127.out 4).trans rfl; have hcz9_5 : w8.cell? ⟨gb127, 5, none⟩ = some (.int .i64 a0_5) := (blk_cell BK127.out 5).trans rfl; have hcz9_6 : w8.cell? ⟨gb127, 6, none⟩ = some (.int .i64 a0_6) := (blk_cell BK127.out 6).trans rfl; have hcz9_7 : w8.cell? ⟨gb127, 7, none⟩ = some (.slice A0_7 l0_7.length c0_7) := (blk_cell BK127.out 7).trans rfl; have hfz9_0 := blk_frozen BK127.out 0; have hfz9_1 := blk_frozen BK127.out 1; have hfz9_2 := blk_frozen BK127.out 2; have hfz9_3 := blk_frozen BK127.out 3; have hfz9_4 := blk_frozen BK127.out 4; have hfz9_5 := blk_frozen BK127.out 5; have hfz9_6 := blk_frozen BK127.out 6; have hfz9_7 := blk_frozen BK127.out 7))
      go_ret
      exact ⟨by first | rfl | (simp [errW_none, errW_some] <;> rfl) | (simp [*, errW_none, errW_some] <;> rfl), by repeat (first | (with_reducible first | exact HB.out | apply below_alloc | apply pw_below_drewN | apply below_drew1 | refine below_set ?_ GE127.out) | exact HB.out)⟩
end Go.Proofs.Ytcjdnahgffkbdaa.Q

namespace Go.Proofs.Ytcjdnahgffkbdaa.Q
open Go.RowKit Go.Proofs.YtcjdnahgffkbdaaW.PrintWords Go.Proofs.YtcjdnahgffkbdaaW.PrintLast Go.Proofs.YtcjdnahgffkbdaaW.PrintMore Go.Proofs.Ytcjdnahgffkbdaa.Gput Go.Proofs.Ytcjdnahgffkbdaa.Gputl
attribute [local go_sem] max2_int min2_int max_two min_two max_three min_three max_four min_four   -- for this text's walks alone
set_option linter.unusedVariables false
set_option linter.unusedSimpArgs false
def storagebarterref42_Put.l0 : Nat → ByteArray → Int → Int → Int → Int → Int → ByteArray → Int → Int → List (S64) → Option (ByteArray × Int)
  | 0, _, _, _, _, _, _, _, _, _, _ => none
  | k + 1, x0, x7, x139000, x139001, x139002, x139003, x139004, x139005, x139006, x139007 => if x7 < (x139007.length : Int) then (if 0 ≤ x7 then ((storagebarterref01_PutList.f k x0 (([(rd_T64 x139007 x7).f0, (rd_T64 x139007 x7).f1, (rd_T64 x139007 x7).f2, (rd_T64 x139007 x7).f3, (rd_T64 x139007 x7).f4, (rd_T64 x139007 x7).f5, (rd_T64 x139007 x7).f6, (rd_T64 x139007 x7).f7, (rd_T64 x139007 x7).f8, (rd_T64 x139007 x7).f9, (rd_T64 x139007 x7).f10] : List Int))).bind fun t153 => (storagebarterref42_Put.l0 k t153 (wrap64 (x7 + 1)) x139000 x139001 x139002 x139003 x139004 x139005 x139006 x139007)) else (none)) else (some (x0, 0))
def storagebarterref42_Put.f (k : Nat) (a0 : ByteArray) (a1_0 : Int) (a1_1 : Int) (a1_2 : Int) (a1_3 : Int) (a1_4 : ByteArray) (a1_5 : Int) (a1_6 : Int) (l1_7 : List (S64)) : Option (ByteArray × Int) := (storagebarterref42_Check.f a1_0 a1_1 a1_2 a1_3 a1_4 a1_5 a1_6 l1_7).bind fun t139 => (if t139 = 0 then ((storagebarterref01_PutInt.f k a0 a1_0).bind fun t140 => ((storagebarterref01_PutInt.f k t140 a1_1).bind fun t141 => ((storagebarterref01_PutInt.f k t141 a1_2).bind fun t142 => ((storagebarterref01_PutInt.f k t142 a1_3).bind fun t143 => ((storagebarterref01_PutText.f k t143 a1_4).bind fun t144 => ((storagebarterref01_PutInt.f k t144 a1_5).bind fun t145 => ((storagebarterref01_PutInt.f k t145 a1_6).bind fun t146 => ((storagebarterref01_PutInt.f k t146 (l1_7.length : Int)).bind fun t147 => (storagebarterref42_Put.l0 k t147 0 a1_0 a1_1 a1_2 a1_3 a1_4 a1_5 a1_6 l1_7))))))))) else (some ((⟨#[]⟩ : ByteArray), t139)))
theorem storagebarterref42_Put.mono_l : ∀ k, (∀ y0 y1 y2 y3 y4 y5 y6 y7 y8 y9, LeO (storagebarterref42_Put.l0 k y0 y1 y2 y3 y4 y5 y6 y7 y8 y9) (storagebarterref42_Put.l0 (k + 1) y0 y1 y2 y3 y4 y5 y6 y7 y8 y9))
  | 0 => fun _ _ _ _ _ _ _ _ _ _ r h => by simp [storagebarterref42_Put.l0] at h
  | k + 1 => by
    have ih0 := storagebarterref42_Put.mono_l k
    · intro y0 y1 y2 y3 y4 y5 y6 y7 y8 y9
      unfold storagebarterref42_Put.l0
      repeat' first
      | (with_reducible exact ih0 _ _ _ _ _ _ _ _ _ _)
      | (with_reducible exact storagebarterref01_PutInt.mono _ _ _)
      | (with_reducible exact storagebarterref01_PutList.mono _ _ _)
      | (with_reducible exact storagebarterref01_PutText.mono _ _ _)
      | (with_reducible exact LeO.refl _)
      | (with_reducible exact LeO.none _)
      | (with_reducible refine LeO.ite ?_ ?_)
      | (with_reducible refine LeO.bind ?_ (fun _ => ?_))
      | exact ih0 _ _ _ _ _ _ _ _ _ _
      | exact storagebarterref01_PutInt.mono _ _ _
      | exact storagebarterref01_PutList.mono _ _ _
      | exact storagebarterref01_PutText.mono _ _ _
      | exact LeO.none _
      | refine LeO.ite ?_ ?_
      | refine LeO.bind ?_ (fun _ => ?_)
theorem storagebarterref42_Put.mono : ∀ a0 a1 a2 a3 a4 a5 a6 a7 a8 k, LeO (storagebarterref42_Put.f k a0 a1 a2 a3 a4 a5 a6 a7 a8) (storagebarterref42_Put.f (k + 1) a0 a1 a2 a3 a4 a5 a6 a7 a8) := by
  intro a0 a1 a2 a3 a4 a5 a6 a7 a8 k
  have ih0 := storagebarterref42_Put.mono_l k
  unfold storagebarterref42_Put.f
  repeat' first
      | (with_reducible exact ih0 _ _ _ _ _ _ _ _ _ _)
      | (with_reducible exact storagebarterref01_PutInt.mono _ _ _)
      | (with_reducible exact storagebarterref01_PutList.mono _ _ _)
      | (with_reducible exact storagebarterref01_PutText.mono _ _ _)
      | (with_reducible exact LeO.refl _)
      | (with_reducible exact LeO.none _)
      | (with_reducible refine LeO.ite ?_ ?_)
      | (with_reducible refine LeO.bind ?_ (fun _ => ?_))
      | exact ih0 _ _ _ _ _ _ _ _ _ _
      | exact storagebarterref01_PutInt.mono _ _ _
      | exact storagebarterref01_PutList.mono _ _ _
      | exact storagebarterref01_PutText.mono _ _ _
      | exact LeO.none _
      | refine LeO.ite ?_ ?_
      | refine LeO.bind ?_ (fun _ => ?_)
def storagebarterref42_Put.T4 : Bool × List (List Nat × List Nat) := (true, [([], []), ([], []), ([1], [1]), ([0, 2], [0, 2]), ([], []), ([4], [4]), ([3, 5, 3], [3, 5]), ([], []), ([7], [7]), ([6, 8, 6], [6, 8]), ([], []), ([10], [10]), ([9, 11, 9], [9, 11]), ([12, 12, 0, 1, 2, 3, 4, 5, 6, 7, 8, 9, 10, 11, 12], [0, 12])])
def storagebarterref42_Put.B4 : List Nat := [0, 0, 2, 7, 0, 16, 63, 0, 128, 511, 0, 1024, 4095, 8191]
theorem storagebarterref42_Put.tab4 : rtab .any (opsOf Try.f21 4) = storagebarterref42_Put.T4 := by kernel_rfl
theorem storagebarterref42_Put.bits4 : waitsOk storagebarterref42_Put.T4.2 storagebarterref42_Put.B4 = true := by kernel_rfl
def storagebarterref42_Put.T5 : Bool × List (List Nat × List Nat) := (true, [([], []), ([], []), ([1], [1]), ([0, 2], [0, 2]), ([], []), ([4], [4]), ([5], [5]), ([3, 6, 3], [3, 6]), ([], []), ([8], [8]), ([9], [9]), ([7, 10, 7], [7, 10]), ([11, 11, 0, 1, 2, 3, 4, 5, 6, 7, 8, 9, 10, 11], [0, 11])])
def storagebarterref42_Put.B5 : List Nat := [0, 0, 2, 7, 0, 16, 48, 127, 0, 256, 768, 2047, 4095]
theorem storagebarterref42_Put.tab5 : rtab .any (opsOf Try.f21 5) = storagebarterref42_Put.T5 := by kernel_rfl
theorem storagebarterref42_Put.bits5 : waitsOk storagebarterref42_Put.T5.2 storagebarterref42_Put.B5 = true := by kernel_rfl
set_option maxHeartbeats 8000000 in
set_option maxRecDepth 100000 in
theorem storagebarterref42_Put.calls (k : Nat) (a0 : ByteArray) (a1_0 : Int) (a1_1 : Int) (a1_2 : Int) (a1_3 : Int) (a1_4 : ByteArray) (a1_5 : Int) (a1_6 : Int) (A1_7 : Option Addr) (c1_7 : Nat) (l1_7 : List (S64)) (r1 : ByteArray) (r2 : Int) (w : World) (hr1_7 : Kd.C k64 w A1_7 l1_7.length l1_7) (hc1_7 : l1_7.length ≤ c1_7) (h : storagebarterref42_Put.f k a0 a1_0 a1_1 a1_2 a1_3 a1_4 a1_5 a1_6 l1_7 = some (r1, r2)) :
    Calls Try.prog 21 #[.string a0, .agg #[.int .i64 a1_0, .int .i64 a1_1, .int .i64 a1_2, .int .i64 a1_3, .string a1_4, .int .i64 a1_5, .int .i64 a1_6, .slice A1_7 l1_7.length c1_7]] w fun e w' => e = .returned (.tuple #[.string r1, .int .i64 r2]) ∧ Below w.heap.size w w' := by
  have hu28 := Try.underlying28
  have hu64 := Try.underlying64
  have HR1_7 := Aside0.mk hr1_7
  have HC1_7 := Aside0.mk hc1_7
  clear hr1_7 hc1_7
  have HB := Aside0.mk (Below.refl w.heap.size w)
  have H : ((storagebarterref42_Check.f a1_0 a1_1 a1_2 a1_3 a1_4 a1_5 a1_6 l1_7).bind fun t139 => (if t139 = 0 then ((storagebarterref01_PutInt.f k a0 a1_0).bind fun t140 => ((storagebarterref01_PutInt.f k t140 a1_1).bind fun t141 => ((storagebarterref01_PutInt.f k t141 a1_2).bind fun t142 => ((storagebarterref01_PutInt.f k t142 a1_3).bind fun t143 => ((storagebarterref01_PutText.f k t143 a1_4).bind fun t144 => ((storagebarterref01_PutInt.f k t144 a1_5).bind fun t145 => ((storagebarterref01_PutInt.f k t145 a1_6).bind fun t146 => ((storagebarterref01_PutInt.f k t146 (l1_7.length : Int)).bind fun t147 => (storagebarterref42_Put.l0 k t147 0 a1_0 a1_1 a1_2 a1_3 a1_4 a1_5 a1_6 l1_7))))))))) else (some ((⟨#[]⟩ : ByteArray), t139)))) = some (r1, r2) := h
  clear h
  replace H := Option.bind_eq_some_iff.mp H
  obtain ⟨t139, A30, H⟩ := H
  replace H : (if t139 = 0 then ((storagebarterref01_PutInt.f k a0 a1_0).bind fun t140 => ((storagebarterref01_PutInt.f k t140 a1_1).bind fun t141 => ((storagebarterref01_PutInt.f k t141 a1_2).bind fun t142 => ((storagebarterref01_PutInt.f k t142 a1_3).bind fun t143 => ((storagebarterref01_PutText.f k t143 a1_4).bind fun t144 => ((storagebarterref01_PutInt.f k t144 a1_5).bind fun t145 => ((storagebarterref01_PutInt.f k t145 a1_6).bind fun t146 => ((storagebarterref01_PutInt.f k t146 (l1_7.length : Int)).bind fun t147 => (storagebarterref42_Put.l0 k t147 0 a1_0 a1_1 a1_2 a1_3 a1_4 a1_5 a1_6 l1_7))))))))) else (some ((⟨#[]⟩ : ByteArray), t139))) = some (r1, r2) := H
  have A3 := Aside0.mk A30
  clear A30
  by_cases c4 : t139 = 0
  · rw [if_pos c4] at H
    have c4b0 : (t139 == 0) = true := beq_iff_eq.mpr c4
    have c4b1 : (t139 != 0) = false := bne_eq_false_iff_eq.mpr c4
    clear c4
    replace H := Option.bind_eq_some_iff.mp H
    obtain ⟨t140, A50, H⟩ := H
    replace H : ((storagebarterref01_PutInt.f k t140 a1_1).bind fun t141 => ((storagebarterref01_PutInt.f k t141 a1_2).bind fun t142 => ((storagebarterref01_PutInt.f k t142 a1_3).bind fun t143 => ((storagebarterref01_PutText.f k t143 a1_4).bind fun t144 => ((storagebarterref01_PutInt.f k t144 a1_5).bind fun t145 => ((storagebarterref01_PutInt.f k t145 a1_6).bind fun t146 => ((storagebarterref01_PutInt.f k t146 (l1_7.length : Int)).bind fun t147 => (storagebarterref42_Put.l0 k t147 0 a1_0 a1_1 a1_2 a1_3 a1_4 a1_5 a1_6 l1_7)))))))) = some (r1, r2) := H
    have A5 := Aside0.mk A50
    clear A50
    replace H := Option.bind_eq_some_iff.mp H
    obtain ⟨t141, A60, H⟩ := H
    replace H : ((storagebarterref01_PutInt.f k t141 a1_2).bind fun t142 => ((storagebarterref01_PutInt.f k t142 a1_3).bind fun t143 => ((storagebarterref01_PutText.f k t143 a1_4).bind fun t144 => ((storagebarterref01_PutInt.f k t144 a1_5).bind fun t145 => ((storagebarterref01_PutInt.f k t145 a1_6).bind fun t146 => ((storagebarterref01_PutInt.f k t146 (l1_7.length : Int)).bind fun t147 => (storagebarterref42_Put.l0 k t147 0 a1_0 a1_1 a1_2 a1_3 a1_4 a1_5 a1_6 l1_7))))))) = some (r1, r2) := H
    have A6 := Aside0.mk A60
    clear A60
    replace H := Option.bind_eq_some_iff.mp H
    obtain ⟨t142, A70, H⟩ := H
    replace H : ((storagebarterref01_PutInt.f k t142 a1_3).bind fun t143 => ((storagebarterref01_PutText.f k t143 a1_4).bind fun t144 => ((storagebarterref01_PutInt.f k t144 a1_5).bind fun t145 => ((storagebarterref01_PutInt.f k t145 a1_6).bind fun t146 => ((storagebarterref01_PutInt.f k t146 (l1_7.length : Int)).bind fun t147 => (storagebarterref42_Put.l0 k t147 0 a1_0 a1_1 a1_2 a1_3 a1_4 a1_5 a1_6 l1_7)))))) = some (r1, r2) := H
    have A7 := Aside0.mk A70
    clear A70
    replace H := Option.bind_eq_some_iff.mp H
    obtain ⟨t143, A80, H⟩ := H
    replace H : ((storagebarterref01_PutText.f k t143 a1_4).bind fun t144 => ((storagebarterref01_PutInt.f k t144 a1_5).bind fun t145 => ((storagebarterref01_PutInt.f k t145 a1_6).bind fun t146 => ((storagebarterref01_PutInt.f k t146 (l1_7.length : Int)).bind fun t147 => (storagebarterref42_Put.l0 k t147 0 a1_0 a1_1 a1_2 a1_3 a1_4 a1_5 a1_6 l1_7))))) = some (r1, r2) := H
    have A8 := Aside0.mk A80
    clear A80
    replace H := Option.bind_eq_some_iff.mp H
    obtain ⟨t144, A90, H⟩ := H
    replace H : ((storagebarterref01_PutInt.f k t144 a1_5).bind fun t145 => ((storagebarterref01_PutInt.f k t145 a1_6).bind fun t146 => ((storagebarterref01_PutInt.f k t146 (l1_7.length : Int)).bind fun t147 => (storagebarterref42_Put.l0 k t147 0 a1_0 a1_1 a1_2 a1_3 a1_4 a1_5 a1_6 l1_7)))) = some (r1, r2) := H
    have A9 := Aside0.mk A90
    clear A90
    replace H := Option.bind_eq_some_iff.mp H
    obtain ⟨t145, A100, H⟩ := H
    replace H : ((storagebarterref01_PutInt.f k t145 a1_6).bind fun t146 => ((storagebarterref01_PutInt.f k t146 (l1_7.length : Int)).bind fun t147 => (storagebarterref42_Put.l0 k t147 0 a1_0 a1_1 a1_2 a1_3 a1_4 a1_5 a1_6 l1_7))) = some (r1, r2) := H
    have A10 := Aside0.mk A100
    clear A100
    replace H := Option.bind_eq_some_iff.mp H
    obtain ⟨t146, A110, H⟩ := H
    replace H : ((storagebarterref01_PutInt.f k t146 (l1_7.length : Int)).bind fun t147 => (storagebarterref42_Put.l0 k t147 0 a1_0 a1_1 a1_2 a1_3 a1_4 a1_5 a1_6 l1_7)) = some (r1, r2) := H
    have A11 := Aside0.mk A110
    clear A110
    replace H := Option.bind_eq_some_iff.mp H
    obtain ⟨t147, A120, H⟩ := H
    replace H : (storagebarterref42_Put.l0 k t147 0 a1_0 a1_1 a1_2 a1_3 a1_4 a1_5 a1_6 l1_7) = some (r1, r2) := H
    have A12 := Aside0.mk A120
    clear A120
    have H' := Aside0.mk H
    clear H
    go_enter Try.func21, Try.ntmps21
    try go_wp2_with (first | ((with_reducible refine gate_dst (N := 3) rfl ?_); refine box_event ?hg (N := 3) ?hd (cs := #[.int .i64 a1_0, .int .i64 a1_1, .int .i64 a1_2, .int .i64 a1_3, .string a1_4, .int .i64 a1_5, .int .i64 a1_6, .slice A1_7 l1_7.length c1_7]) (t := 28) ?hr ?_; (case hd => rfl); (case hg => rfl); (case hr => first | (go_simp; done) | (go_simp; rfl)); intro gb138 hg w13 hbox hb; have n0_ := Aside0.mk (below_step (by repeat (first | (with_reducible first | exact HB.out | apply below_alloc | apply pw_below_drewN | apply below_drew1) | exact HB.out)) hb); have n1_ := Aside0.mk (hbox); have n2_ := Aside0.mk ((by rw [hg]; exact (below_size (by repeat (first | (with_reducible first | exact HB.out | apply below_alloc | apply pw_below_drewN | apply below_drew1) | exact HB.out))) : w.heap.size ≤ gb138)); have n3_ := Aside0.mk ((by rw [hg]; exact (below_size (by repeat (first | (with_reducible first | exact HB.out | apply below_alloc | apply pw_below_drewN | apply below_drew1) | exact HB.out))) : w.heap.size ≤ gb138)); clear HB; have HB := n0_; have BK138 := n1_; have GW138 := n2_; have GE138 := n3_; clear n0_ n1_ n2_ n3_; clear hb hbox hg; have hcz14_0 : w13.cell? ⟨gb138, 0, none⟩ = some (.int .i64 a1_0) := (blk_cell BK138.out 0).trans rfl; have hcz14_1 : w13.cell? ⟨gb138, 1, none⟩ = some (.int .i64 a1_1) := (blk_cell BK138.out 1).trans rfl; have hcz14_2 : w13.cell? ⟨gb138, 2, none⟩ = some (.int .i64 a1_2) := (blk_cell BK138.out 2).trans rfl; have hcz14_3 : w13.cell? ⟨gb138, 3, none⟩ = some (.int .i64 a1_3) := (blk_cell BK138.out 3).trans rfl; have hcz14_4 : w13.cell? ⟨gb138, 4, none⟩ = some (.string a1_4) := (blk_cell BK138.out 4).trans rfl; have hcz14_5 : w13.cell? ⟨gb138, 5, none⟩ = some (.int .i64 a1_5) := (blk_cell BK138.out 5).trans rfl; have hcz14_6 : w13.cell? ⟨gb138, 6, none⟩ = some (.int .i64 a1_6) := (blk_cell BK138.out 6).trans rfl; have hcz14_7 : w13.cell? ⟨gb138, 7, none⟩ = some (.slice A1_7 l1_7.length c1_7) := (blk_cell BK138.out 7).trans rfl; have hfz14_0 := blk_frozen BK138.out 0; have hfz14_1 := blk_frozen BK138.out 1; have hfz14_2 := blk_frozen BK138.out 2; have hfz14_3 := blk_frozen BK138.out 3; have hfz14_4 := blk_frozen BK138.out 4; have hfz14_5 := blk_frozen BK138.out 5; have hfz14_6 := blk_frozen BK138.out 6; have hfz14_7 := blk_frozen BK138.out 7) | ((with_reducible refine gate_callee (f := 23) rfl ?_); refine goesL_ (some 10) rfl rfl Try.func23 (by kernel_rfl) rfl #[.agg #[.int .i64 a1_0, .int .i64 a1_1, .int .i64 a1_2, .int .i64 a1_3, .string a1_4, .int .i64 a1_5, .int .i64 a1_6, .slice A1_7 l1_7.length c1_7]] rfl (by (try simp only [List.map_toArray, List.map_cons, List.map_nil]); first | done | rfl | (simp only [List.length_drop, List.length_take]; rfl)) ?_; (with_reducible refine (storagebarterref42_Check.calls a1_0 a1_1 a1_2 a1_3 a1_4 a1_5 a1_6 _ _ l1_7 t139 _ ?side1 ?side2 A3.out).mono ?_); (case side1 => repeat (first | exact (Kd.C_below HR1_7.out HB.out) | (with_reducible refine Kd.C_alloc ?_ _) | (with_reducible refine Kd.C_drewN ?_ _) | (with_reducible refine Kd.C_drew ?_))); (case side2 => exact HC1_7.out); rintro e w15 ⟨rfl, hb⟩; refine ⟨_, rfl, ?_⟩; have n0_ := Aside0.mk (blk_below (g := gb138) (o := .cells #[.int .i64 a1_0, .int .i64 a1_1, .int .i64 a1_2, .int .i64 a1_3, .string a1_4, .int .i64 a1_5, .int .i64 a1_6, .slice A1_7 l1_7.length c1_7] 28 (0, 0)) (by (with_reducible repeat (first | refine blk_drewN ?_ _ | refine blk_drew ?_ | refine blk_alloc ?_ _)); exact BK138.out) hb); have n1_ := Aside0.mk (below_step (by repeat (first | (with_reducible first | exact HB.out | apply below_alloc | apply pw_below_drewN | apply below_drew1 | refine below_set ?_ GE138.out) | exact HB.out)) hb); clear BK138; clear HB; have BK138 := n0_; have HB := n1_; clear n0_ n1_; (try clear hb); (try clear hb2); (try clear hk); (try clear hi)))
    have n0_ := Aside0.mk (blk_drew BK138.out)
    have n1_ := Aside0.mk (below_drew1 HB.out)
    clear BK138
    clear HB
    have BK138 := n0_
    have HB := n1_
    clear n0_ n1_
    refine start_ (n := 14) (S := fun w' => w'.cell? ⟨gb138, 0, none⟩ = some (.int .i64 a1_0) ∧ w'.cell? ⟨gb138, 1, none⟩ = some (.int .i64 a1_1) ∧ w'.cell? ⟨gb138, 2, none⟩ = some (.int .i64 a1_2) ∧ w'.cell? ⟨gb138, 3, none⟩ = some (.int .i64 a1_3) ∧ w'.cell? ⟨gb138, 4, none⟩ = some (.string a1_4) ∧ w'.cell? ⟨gb138, 5, none⟩ = some (.int .i64 a1_5) ∧ w'.cell? ⟨gb138, 6, none⟩ = some (.int .i64 a1_6) ∧ w'.cell? ⟨gb138, 7, none⟩ = some (.slice A1_7 l1_7.length c1_7)) (ds := []) #[false, false, false, false, false, false, false, false, false, false, false, false, false, false] (by kernel_rfl) rfl rfl ⟨(blk_cell BK138.out 0).trans rfl, (blk_cell BK138.out 1).trans rfl, (blk_cell BK138.out 2).trans rfl, (blk_cell BK138.out 3).trans rfl, (blk_cell BK138.out 4).trans rfl, (blk_cell BK138.out 5).trans rfl, (blk_cell BK138.out 6).trans rfl, (blk_cell BK138.out 7).trans rfl⟩ (fun hHeld => ?_); refine with_tabW storagebarterref42_Put.tab4 storagebarterref42_Put.bits4 (fun HT_ HW_ => ?_)
    generalize w15.drew = w16 at BK138 HB hHeld ⊢
    refine pure_ (i := 0) (N := some 14) (v := ?_) (a' := ?_) #[true, false, false, false, false, false, false, false, false, false, false, false, false, false] rfl rfl (any_of HT_.out (by kernel_rfl)) (fun _ _ _ h => h) (Or.inl ⟨by rfl, ?_⟩) ?_ ?_
    rotate_left
    · intro w'
      go_simp
      with_reducible rfl
    rotate_left
    · simp only [Act.put, List.setIfInBounds_toArray, List.set_cons_zero, List.set_cons_succ, i64_w, i32_w]
      rfl
    refine pure_ (i := 1) (N := some 15) (v := ?_) (a' := ?_) #[true, true, false, false, false, false, false, false, false, false, false, false, false, false] rfl rfl (any_of HT_.out (by kernel_rfl)) (fun _ _ _ h => h) (Or.inl ⟨by rfl, ?_⟩) ?_ ?_
    rotate_left
    · intro w'
      go_simp
      with_reducible rfl
    rotate_left
    · simp only [Act.put, List.setIfInBounds_toArray, List.set_cons_zero, List.set_cons_succ, i64_w, i32_w]
      rfl
    refine pure_ (i := 4) (N := some 18) (v := ?_) (a' := ?_) #[true, true, false, false, true, false, false, false, false, false, false, false, false, false] rfl rfl (any_of HT_.out (by kernel_rfl)) (fun _ _ _ h => h) (Or.inl ⟨by rfl, ?_⟩) ?_ ?_
    rotate_left
    · intro w'
      go_simp
      with_reducible rfl
    rotate_left
    · simp only [Act.put, List.setIfInBounds_toArray, List.set_cons_zero, List.set_cons_succ, i64_w, i32_w]
      rfl
    refine pure_ (i := 7) (N := some 21) (v := ?_) (a' := ?_) #[true, true, false, false, true, false, false, true, false, false, false, false, false, false] rfl rfl (any_of HT_.out (by kernel_rfl)) (fun _ _ _ h => h) (Or.inl ⟨by rfl, ?_⟩) ?_ ?_
    rotate_left
    · intro w'
      go_simp
      with_reducible rfl
    rotate_left
    · simp only [Act.put, List.setIfInBounds_toArray, List.set_cons_zero, List.set_cons_succ, i64_w, i32_w]
      rfl
    refine pure_ (i := 10) (N := some 24) (v := ?_) (a' := ?_) #[true, true, false, false, true, false, false, true, false, false, true, false, false, false] rfl rfl (any_of HT_.out (by kernel_rfl)) (fun _ _ _ h => h) (Or.inl ⟨by rfl, ?_⟩) ?_ ?_
    rotate_left
    · intro w'
      go_simp
      with_reducible rfl
    rotate_left
    · simp only [Act.put, List.setIfInBounds_toArray, List.set_cons_zero, List.set_cons_succ, i64_w, i32_w]
      rfl
    refine take_ (i := 2) (N := some 16) (v := ?_) (a' := ?_) #[true, true, true, false, true, false, false, true, false, false, true, false, false, false] rfl rfl (take_ofW HT_.out HW_.out (by kernel_rfl)) (fun _ _ _ h => h) (Or.inl ⟨by rfl, ?_⟩) hHeld ?_ ?_
    rotate_left
    · rintro w' ⟨s0, s1, s2, s3, s4, s5, s6, s7⟩
      go_simp
      with_reducible rfl
    rotate_left
    · simp only [Act.put, List.setIfInBounds_toArray, List.set_cons_zero, List.set_cons_succ, i64_w, i32_w]
      rfl
    refine take_ (i := 5) (N := some 19) (v := ?_) (a' := ?_) #[true, true, true, false, true, true, false, true, false, false, true, false, false, false] rfl rfl (take_ofW HT_.out HW_.out (by kernel_rfl)) (fun _ _ _ h => h) (Or.inl ⟨by rfl, ?_⟩) hHeld ?_ ?_
    rotate_left
    · rintro w' ⟨s0, s1, s2, s3, s4, s5, s6, s7⟩
      go_simp
      with_reducible rfl
    rotate_left
    · simp only [Act.put, List.setIfInBounds_toArray, List.set_cons_zero, List.set_cons_succ, i64_w, i32_w]
      rfl
    refine take_ (i := 8) (N := some 22) (v := ?_) (a' := ?_) #[true, true, true, false, true, true, false, true, true, false, true, false, false, false] rfl rfl (take_ofW HT_.out HW_.out (by kernel_rfl)) (fun _ _ _ h => h) (Or.inl ⟨by rfl, ?_⟩) hHeld ?_ ?_
    rotate_left
    · rintro w' ⟨s0, s1, s2, s3, s4, s5, s6, s7⟩
      go_simp
      with_reducible rfl
    rotate_left
    · simp only [Act.put, List.setIfInBounds_toArray, List.set_cons_zero, List.set_cons_succ, i64_w, i32_w]
      rfl
    refine take_ (i := 11) (N := some 25) (v := ?_) (a' := ?_) #[true, true, true, false, true, true, false, true, true, false, true, true, false, false] rfl rfl (take_ofW HT_.out HW_.out (by kernel_rfl)) (fun _ _ _ h => h) (Or.inl ⟨by rfl, ?_⟩) hHeld ?_ ?_
    rotate_left
    · rintro w' ⟨s0, s1, s2, s3, s4, s5, s6, s7⟩
      go_simp
      with_reducible rfl
    rotate_left
    · simp only [Act.put, List.setIfInBounds_toArray, List.set_cons_zero, List.set_cons_succ, i64_w, i32_w]
      rfl
    refine one_ (i := 3) (N := some 17) #[true, true, true, true, true, true, false, true, true, false, true, true, false, false] rfl rfl (one_of HT_.out (by kernel_rfl)) (by decide) (fun K hK => ?_)
    refine goes_ Try.func25 (by kernel_rfl) rfl #[.string a0, .int .i64 a1_0] (by rfl) rfl rfl (by (try simp only [List.map_toArray, List.map_cons, List.map_nil]); first | done | rfl | (simp only [List.length_drop, List.length_take]; rfl)) ?_
    with_reducible refine (storagebarterref01_PutInt.calls k a0 a1_0 t140 _ A5.out).mono ?_
    rintro e w17 ⟨rfl, hb⟩
    refine ⟨_, rfl, ?_⟩
    have n0_ := Aside0.mk (blk_below (g := gb138) (o := .cells #[.int .i64 a1_0, .int .i64 a1_1, .int .i64 a1_2, .int .i64 a1_3, .string a1_4, .int .i64 a1_5, .int .i64 a1_6, .slice A1_7 l1_7.length c1_7] 28 (0, 0)) (by (with_reducible repeat (first | refine blk_drewN ?_ _ | refine blk_drew ?_ | refine blk_alloc ?_ _)); exact BK138.out) hb)
    have n1_ := Aside0.mk (below_step (by repeat (first | (with_reducible first | exact HB.out | apply below_alloc | apply pw_below_drewN | apply below_drew1 | refine below_set ?_ GE138.out) | exact HB.out)) hb)
    clear BK138
    clear HB
    have BK138 := n0_
    have HB := n1_
    clear n0_ n1_
    (try clear hb)
    (try clear hb2)
    (try clear hk)
    (try clear hi)
    refine hK.out _ _ ⟨(blk_cell BK138.out 0).trans rfl, (blk_cell BK138.out 1).trans rfl, (blk_cell BK138.out 2).trans rfl, (blk_cell BK138.out 3).trans rfl, (blk_cell BK138.out 4).trans rfl, (blk_cell BK138.out 5).trans rfl, (blk_cell BK138.out 6).trans rfl, (blk_cell BK138.out 7).trans rfl⟩ (fun hHeld => ?_)
    clear hK K
    refine norm_ (a' := ?_) ?_ ?_
    rotate_left
    · show Act.put _ (some 17) _ = _
      simp only [Act.put, List.setIfInBounds_toArray, List.set_cons_zero, List.set_cons_succ, i64_w, i32_w]
      rfl
    refine one_ (i := 6) (N := some 20) #[true, true, true, true, true, true, true, true, true, false, true, true, false, false] rfl rfl (one_of HT_.out (by kernel_rfl)) (by decide) (fun K hK => ?_)
    refine goes_ Try.func25 (by kernel_rfl) rfl #[.string t140, .int .i64 a1_1] (by rfl) rfl rfl (by (try simp only [List.map_toArray, List.map_cons, List.map_nil]); first | done | rfl | (simp only [List.length_drop, List.length_take]; rfl)) ?_
    with_reducible refine (storagebarterref01_PutInt.calls k t140 a1_1 t141 _ A6.out).mono ?_
    rintro e w18 ⟨rfl, hb⟩
    refine ⟨_, rfl, ?_⟩
    have n0_ := Aside0.mk (blk_below (g := gb138) (o := .cells #[.int .i64 a1_0, .int .i64 a1_1, .int .i64 a1_2, .int .i64 a1_3, .string a1_4, .int .i64 a1_5, .int .i64 a1_6, .slice A1_7 l1_7.length c1_7] 28 (0, 0)) (by (with_reducible repeat (first | refine blk_drewN ?_ _ | refine blk_drew ?_ | refine blk_alloc ?_ _)); exact BK138.out) hb)
    have n1_ := Aside0.mk (below_step (by repeat (first | (with_reducible first | exact HB.out | apply below_alloc | apply pw_below_drewN | apply below_drew1 | refine below_set ?_ GE138.out) | exact HB.out)) hb)
    clear BK138
    clear HB
    have BK138 := n0_
    have HB := n1_
    clear n0_ n1_
    (try clear hb)
    (try clear hb2)
    (try clear hk)
    (try clear hi)
    refine hK.out _ _ ⟨(blk_cell BK138.out 0).trans rfl, (blk_cell BK138.out 1).trans rfl, (blk_cell BK138.out 2).trans rfl, (blk_cell BK138.out 3).trans rfl, (blk_cell BK138.out 4).trans rfl, (blk_cell BK138.out 5).trans rfl, (blk_cell BK138.out 6).trans rfl, (blk_cell BK138.out 7).trans rfl⟩ (fun hHeld => ?_)
    clear hK K
    refine norm_ (a' := ?_) ?_ ?_
    rotate_left
    · show Act.put _ (some 20) _ = _
      simp only [Act.put, List.setIfInBounds_toArray, List.set_cons_zero, List.set_cons_succ, i64_w, i32_w]
      rfl
    refine one_ (i := 9) (N := some 23) #[true, true, true, true, true, true, true, true, true, true, true, true, false, false] rfl rfl (one_of HT_.out (by kernel_rfl)) (by decide) (fun K hK => ?_)
    refine goes_ Try.func25 (by kernel_rfl) rfl #[.string t141, .int .i64 a1_2] (by rfl) rfl rfl (by (try simp only [List.map_toArray, List.map_cons, List.map_nil]); first | done | rfl | (simp only [List.length_drop, List.length_take]; rfl)) ?_
    with_reducible refine (storagebarterref01_PutInt.calls k t141 a1_2 t142 _ A7.out).mono ?_
    rintro e w19 ⟨rfl, hb⟩
    refine ⟨_, rfl, ?_⟩
    have n0_ := Aside0.mk (blk_below (g := gb138) (o := .cells #[.int .i64 a1_0, .int .i64 a1_1, .int .i64 a1_2, .int .i64 a1_3, .string a1_4, .int .i64 a1_5, .int .i64 a1_6, .slice A1_7 l1_7.length c1_7] 28 (0, 0)) (by (with_reducible repeat (first | refine blk_drewN ?_ _ | refine blk_drew ?_ | refine blk_alloc ?_ _)); exact BK138.out) hb)
    have n1_ := Aside0.mk (below_step (by repeat (first | (with_reducible first | exact HB.out | apply below_alloc | apply pw_below_drewN | apply below_drew1 | refine below_set ?_ GE138.out) | exact HB.out)) hb)
    clear BK138
    clear HB
    have BK138 := n0_
    have HB := n1_
    clear n0_ n1_
    (try clear hb)
    (try clear hb2)
    (try clear hk)
    (try clear hi)
    refine hK.out _ _ ⟨(blk_cell BK138.out 0).trans rfl, (blk_cell BK138.out 1).trans rfl, (blk_cell BK138.out 2).trans rfl, (blk_cell BK138.out 3).trans rfl, (blk_cell BK138.out 4).trans rfl, (blk_cell BK138.out 5).trans rfl, (blk_cell BK138.out 6).trans rfl, (blk_cell BK138.out 7).trans rfl⟩ (fun hHeld => ?_)
    clear hK K
    refine norm_ (a' := ?_) ?_ ?_
    rotate_left
    · show Act.put _ (some 23) _ = _
      simp only [Act.put, List.setIfInBounds_toArray, List.set_cons_zero, List.set_cons_succ, i64_w, i32_w]
      rfl
    refine one_ (i := 12) (N := some 26) #[true, true, true, true, true, true, true, true, true, true, true, true, true, false] rfl rfl (one_of HT_.out (by kernel_rfl)) (by decide) (fun K hK => ?_)
    refine goes_ Try.func25 (by kernel_rfl) rfl #[.string t142, .int .i64 a1_3] (by rfl) rfl rfl (by (try simp only [List.map_toArray, List.map_cons, List.map_nil]); first | done | rfl | (simp only [List.length_drop, List.length_take]; rfl)) ?_
    with_reducible refine (storagebarterref01_PutInt.calls k t142 a1_3 t143 _ A8.out).mono ?_
    rintro e w20 ⟨rfl, hb⟩
    refine ⟨_, rfl, ?_⟩
    have n0_ := Aside0.mk (blk_below (g := gb138) (o := .cells #[.int .i64 a1_0, .int .i64 a1_1, .int .i64 a1_2, .int .i64 a1_3, .string a1_4, .int .i64 a1_5, .int .i64 a1_6, .slice A1_7 l1_7.length c1_7] 28 (0, 0)) (by (with_reducible repeat (first | refine blk_drewN ?_ _ | refine blk_drew ?_ | refine blk_alloc ?_ _)); exact BK138.out) hb)
    have n1_ := Aside0.mk (below_step (by repeat (first | (with_reducible first | exact HB.out | apply below_alloc | apply pw_below_drewN | apply below_drew1 | refine below_set ?_ GE138.out) | exact HB.out)) hb)
    clear BK138
    clear HB
    have BK138 := n0_
    have HB := n1_
    clear n0_ n1_
    (try clear hb)
    (try clear hb2)
    (try clear hk)
    (try clear hi)
    refine hK.out _ _ ⟨(blk_cell BK138.out 0).trans rfl, (blk_cell BK138.out 1).trans rfl, (blk_cell BK138.out 2).trans rfl, (blk_cell BK138.out 3).trans rfl, (blk_cell BK138.out 4).trans rfl, (blk_cell BK138.out 5).trans rfl, (blk_cell BK138.out 6).trans rfl, (blk_cell BK138.out 7).trans rfl⟩ (fun hHeld => ?_)
    clear hK K
    refine norm_ (a' := ?_) ?_ ?_
    rotate_left
    · show Act.put _ (some 26) _ = _
      simp only [Act.put, List.setIfInBounds_toArray, List.set_cons_zero, List.set_cons_succ, i64_w, i32_w]
      rfl
    refine pure_ (i := 13) (N := some 0) (v := ?_) (a' := ?_) #[true, true, true, true, true, true, true, true, true, true, true, true, true, true] rfl rfl (any_of HT_.out (by kernel_rfl)) (fun _ _ _ h => h) (Or.inl ⟨by rfl, ?_⟩) ?_ ?_
    rotate_left
    · intro w'
      go_simp
      with_reducible rfl
    rotate_left
    · simp only [Act.put, List.setIfInBounds_toArray, List.set_cons_zero, List.set_cons_succ, i64_w, i32_w]
      rfl
    refine done_ (done_of HT_.out (by kernel_rfl)) ?_
    try go_wp2
    have n0_ := Aside0.mk (blk_drew BK138.out)
    have n1_ := Aside0.mk (below_drew1 HB.out)
    clear BK138
    clear HB
    have BK138 := n0_
    have HB := n1_
    clear n0_ n1_
    refine start_ (n := 13) (S := fun w' => w'.cell? ⟨gb138, 0, none⟩ = some (.int .i64 a1_0) ∧ w'.cell? ⟨gb138, 1, none⟩ = some (.int .i64 a1_1) ∧ w'.cell? ⟨gb138, 2, none⟩ = some (.int .i64 a1_2) ∧ w'.cell? ⟨gb138, 3, none⟩ = some (.int .i64 a1_3) ∧ w'.cell? ⟨gb138, 4, none⟩ = some (.string a1_4) ∧ w'.cell? ⟨gb138, 5, none⟩ = some (.int .i64 a1_5) ∧ w'.cell? ⟨gb138, 6, none⟩ = some (.int .i64 a1_6) ∧ w'.cell? ⟨gb138, 7, none⟩ = some (.slice A1_7 l1_7.length c1_7)) (ds := []) #[false, false, false, false, false, false, false, false, false, false, false, false, false] (by kernel_rfl) rfl rfl ⟨(blk_cell BK138.out 0).trans rfl, (blk_cell BK138.out 1).trans rfl, (blk_cell BK138.out 2).trans rfl, (blk_cell BK138.out 3).trans rfl, (blk_cell BK138.out 4).trans rfl, (blk_cell BK138.out 5).trans rfl, (blk_cell BK138.out 6).trans rfl, (blk_cell BK138.out 7).trans rfl⟩ (fun hHeld => ?_); refine with_tabW storagebarterref42_Put.tab5 storagebarterref42_Put.bits5 (fun HT_ HW_ => ?_)
    generalize w20.drew = w21 at BK138 HB hHeld ⊢
    refine pure_ (i := 0) (N := some 27) (v := ?_) (a' := ?_) #[true, false, false, false, false, false, false, false, false, false, false, false, false] rfl rfl (any_of HT_.out (by kernel_rfl)) (fun _ _ _ h => h) (Or.inl ⟨by rfl, ?_⟩) ?_ ?_
    rotate_left
    · intro w'
      go_simp
      with_reducible rfl
    rotate_left
    · simp only [Act.put, List.setIfInBounds_toArray, List.set_cons_zero, List.set_cons_succ, i64_w, i32_w]
      rfl
    refine pure_ (i := 1) (N := some 28) (v := ?_) (a' := ?_) #[true, true, false, false, false, false, false, false, false, false, false, false, false] rfl rfl (any_of HT_.out (by kernel_rfl)) (fun _ _ _ h => h) (Or.inl ⟨by rfl, ?_⟩) ?_ ?_
    rotate_left
    · intro w'
      go_simp
      with_reducible rfl
    rotate_left
    · simp only [Act.put, List.setIfInBounds_toArray, List.set_cons_zero, List.set_cons_succ, i64_w, i32_w]
      rfl
    refine pure_ (i := 4) (N := some 31) (v := ?_) (a' := ?_) #[true, true, false, false, true, false, false, false, false, false, false, false, false] rfl rfl (any_of HT_.out (by kernel_rfl)) (fun _ _ _ h => h) (Or.inl ⟨by rfl, ?_⟩) ?_ ?_
    rotate_left
    · intro w'
      go_simp
      with_reducible rfl
    rotate_left
    · simp only [Act.put, List.setIfInBounds_toArray, List.set_cons_zero, List.set_cons_succ, i64_w, i32_w]
      rfl
    refine pure_ (i := 5) (N := some 32) (v := ?_) (a' := ?_) #[true, true, false, false, true, true, false, false, false, false, false, false, false] rfl rfl (any_of HT_.out (by kernel_rfl)) (fun _ _ _ h => h) (Or.inl ⟨by rfl, ?_⟩) ?_ ?_
    rotate_left
    · intro w'
      go_simp
      with_reducible rfl
    rotate_left
    · simp only [Act.put, List.setIfInBounds_toArray, List.set_cons_zero, List.set_cons_succ, i64_w, i32_w]
      rfl
    refine pure_ (i := 8) (N := some 35) (v := ?_) (a' := ?_) #[true, true, false, false, true, true, false, false, true, false, false, false, false] rfl rfl (any_of HT_.out (by kernel_rfl)) (fun _ _ _ h => h) (Or.inl ⟨by rfl, ?_⟩) ?_ ?_
    rotate_left
    · intro w'
      go_simp
      with_reducible rfl
    rotate_left
    · simp only [Act.put, List.setIfInBounds_toArray, List.set_cons_zero, List.set_cons_succ, i64_w, i32_w]
      rfl
    refine pure_ (i := 9) (N := some 36) (v := ?_) (a' := ?_) #[true, true, false, false, true, true, false, false, true, true, false, false, false] rfl rfl (any_of HT_.out (by kernel_rfl)) (fun _ _ _ h => h) (Or.inl ⟨by rfl, ?_⟩) ?_ ?_
    rotate_left
    · intro w'
      go_simp
      with_reducible rfl
    rotate_left
    · simp only [Act.put, List.setIfInBounds_toArray, List.set_cons_zero, List.set_cons_succ, i64_w, i32_w]
      rfl
    refine take_ (i := 2) (N := some 29) (v := ?_) (a' := ?_) #[true, true, true, false, true, true, false, false, true, true, false, false, false] rfl rfl (take_ofW HT_.out HW_.out (by kernel_rfl)) (fun _ _ _ h => h) (Or.inl ⟨by rfl, ?_⟩) hHeld ?_ ?_
    rotate_left
    · rintro w' ⟨s0, s1, s2, s3, s4, s5, s6, s7⟩
      go_simp
      with_reducible rfl
    rotate_left
    · simp only [Act.put, List.setIfInBounds_toArray, List.set_cons_zero, List.set_cons_succ, i64_w, i32_w]
      rfl
    refine take_ (i := 6) (N := some 33) (v := ?_) (a' := ?_) #[true, true, true, false, true, true, true, false, true, true, false, false, false] rfl rfl (take_ofW HT_.out HW_.out (by kernel_rfl)) (fun _ _ _ h => h) (Or.inl ⟨by rfl, ?_⟩) hHeld ?_ ?_
    rotate_left
    · rintro w' ⟨s0, s1, s2, s3, s4, s5, s6, s7⟩
      go_simp
      with_reducible rfl
    rotate_left
    · simp only [Act.put, List.setIfInBounds_toArray, List.set_cons_zero, List.set_cons_succ, i64_w, i32_w]
      rfl
    refine take_ (i := 10) (N := some 37) (v := ?_) (a' := ?_) #[true, true, true, false, true, true, true, false, true, true, true, false, false] rfl rfl (take_ofW HT_.out HW_.out (by kernel_rfl)) (fun _ _ _ h => h) (Or.inl ⟨by rfl, ?_⟩) hHeld ?_ ?_
    rotate_left
    · rintro w' ⟨s0, s1, s2, s3, s4, s5, s6, s7⟩
      go_simp
      with_reducible rfl
    rotate_left
    · simp only [Act.put, List.setIfInBounds_toArray, List.set_cons_zero, List.set_cons_succ, i64_w, i32_w]
      rfl
    refine one_ (i := 3) (N := some 30) #[true, true, true, true, true, true, true, false, true, true, true, false, false] rfl rfl (one_of HT_.out (by kernel_rfl)) (by decide) (fun K hK => ?_)
    refine goes_ Try.func40 (by kernel_rfl) rfl #[.string t143, .string a1_4] (by rfl) rfl rfl (by (try simp only [List.map_toArray, List.map_cons, List.map_nil]); first | done | rfl | (simp only [List.length_drop, List.length_take]; rfl)) ?_
    with_reducible refine (storagebarterref01_PutText.calls k t143 a1_4 t144 _ A9.out).mono ?_
    rintro e w22 ⟨rfl, hb⟩
    refine ⟨_, rfl, ?_⟩
    have n0_ := Aside0.mk (blk_below (g := gb138) (o := .cells #[.int .i64 a1_0, .int .i64 a1_1, .int .i64 a1_2, .int .i64 a1_3, .string a1_4, .int .i64 a1_5, .int .i64 a1_6, .slice A1_7 l1_7.length c1_7] 28 (0, 0)) (by (with_reducible repeat (first | refine blk_drewN ?_ _ | refine blk_drew ?_ | refine blk_alloc ?_ _)); exact BK138.out) hb)
    have n1_ := Aside0.mk (below_step (by repeat (first | (with_reducible first | exact HB.out | apply below_alloc | apply pw_below_drewN | apply below_drew1 | refine below_set ?_ GE138.out) | exact HB.out)) hb)
    clear BK138
    clear HB
    have BK138 := n0_
    have HB := n1_
    clear n0_ n1_
    (try clear hb)
    (try clear hb2)
    (try clear hk)
    (try clear hi)
    refine hK.out _ _ ⟨(blk_cell BK138.out 0).trans rfl, (blk_cell BK138.out 1).trans rfl, (blk_cell BK138.out 2).trans rfl, (blk_cell BK138.out 3).trans rfl, (blk_cell BK138.out 4).trans rfl, (blk_cell BK138.out 5).trans rfl, (blk_cell BK138.out 6).trans rfl, (blk_cell BK138.out 7).trans rfl⟩ (fun hHeld => ?_)
    clear hK K
    refine norm_ (a' := ?_) ?_ ?_
    rotate_left
    · show Act.put _ (some 30) _ = _
      simp only [Act.put, List.setIfInBounds_toArray, List.set_cons_zero, List.set_cons_succ, i64_w, i32_w]
      rfl
    refine one_ (i := 7) (N := some 34) #[true, true, true, true, true, true, true, true, true, true, true, false, false] rfl rfl (one_of HT_.out (by kernel_rfl)) (by decide) (fun K hK => ?_)
    refine goes_ Try.func25 (by kernel_rfl) rfl #[.string t144, .int .i64 a1_5] (by rfl) rfl rfl (by (try simp only [List.map_toArray, List.map_cons, List.map_nil]); first | done | rfl | (simp only [List.length_drop, List.length_take]; rfl)) ?_
    with_reducible refine (storagebarterref01_PutInt.calls k t144 a1_5 t145 _ A10.out).mono ?_
    rintro e w23 ⟨rfl, hb⟩
    refine ⟨_, rfl, ?_⟩
    have n0_ := Aside0.mk (blk_below (g := gb138) (o := .cells #[.int .i64 a1_0, .int .i64 a1_1, .int .i64 a1_2, .int .i64 a1_3, .string a1_4, .int .i64 a1_5, .int .i64 a1_6, .slice A1_7 l1_7.length c1_7] 28 (0, 0)) (by (with_reducible repeat (first | refine blk_drewN ?_ _ | refine blk_drew ?_ | refine blk_alloc ?_ _)); exact BK138.out) hb)
    have n1_ := Aside0.mk (below_step (by repeat (first | (with_reducible first | exact HB.out | apply below_alloc | apply pw_below_drewN | apply below_drew1 | refine below_set ?_ GE138.out) | exact HB.out)) hb)
    clear BK138
    clear HB
    have BK138 := n0_
    have HB := n1_
    clear n0_ n1_
    (try clear hb)
    (try clear hb2)
    (try clear hk)
    (try clear hi)
    refine hK.out _ _ ⟨(blk_cell BK138.out 0).trans rfl, (blk_cell BK138.out 1).trans rfl, (blk_cell BK138.out 2).trans rfl, (blk_cell BK138.out 3).trans rfl, (blk_cell BK138.out 4).trans rfl, (blk_cell BK138.out 5).trans rfl, (blk_cell BK138.out 6).trans rfl, (blk_cell BK138.out 7).trans rfl⟩ (fun hHeld => ?_)
    clear hK K
    refine norm_ (a' := ?_) ?_ ?_
    rotate_left
    · show Act.put _ (some 34) _ = _
      simp only [Act.put, List.setIfInBounds_toArray, List.set_cons_zero, List.set_cons_succ, i64_w, i32_w]
      rfl
    refine one_ (i := 11) (N := some 38) #[true, true, true, true, true, true, true, true, true, true, true, true, false] rfl rfl (one_of HT_.out (by kernel_rfl)) (by decide) (fun K hK => ?_)
    refine goes_ Try.func25 (by kernel_rfl) rfl #[.string t145, .int .i64 a1_6] (by rfl) rfl rfl (by (try simp only [List.map_toArray, List.map_cons, List.map_nil]); first | done | rfl | (simp only [List.length_drop, List.length_take]; rfl)) ?_
    with_reducible refine (storagebarterref01_PutInt.calls k t145 a1_6 t146 _ A11.out).mono ?_
    rintro e w24 ⟨rfl, hb⟩
    refine ⟨_, rfl, ?_⟩
    have n0_ := Aside0.mk (blk_below (g := gb138) (o := .cells #[.int .i64 a1_0, .int .i64 a1_1, .int .i64 a1_2, .int .i64 a1_3, .string a1_4, .int .i64 a1_5, .int .i64 a1_6, .slice A1_7 l1_7.length c1_7] 28 (0, 0)) (by (with_reducible repeat (first | refine blk_drewN ?_ _ | refine blk_drew ?_ | refine blk_alloc ?_ _)); exact BK138.out) hb)
    have n1_ := Aside0.mk (below_step (by repeat (first | (with_reducible first | exact HB.out | apply below_alloc | apply pw_below_drewN | apply below_drew1 | refine below_set ?_ GE138.out) | exact HB.out)) hb)
    clear BK138
    clear HB
    have BK138 := n0_
    have HB := n1_
    clear n0_ n1_
    (try clear hb)
    (try clear hb2)
    (try clear hk)
    (try clear hi)
    refine hK.out _ _ ⟨(blk_cell BK138.out 0).trans rfl, (blk_cell BK138.out 1).trans rfl, (blk_cell BK138.out 2).trans rfl, (blk_cell BK138.out 3).trans rfl, (blk_cell BK138.out 4).trans rfl, (blk_cell BK138.out 5).trans rfl, (blk_cell BK138.out 6).trans rfl, (blk_cell BK138.out 7).trans rfl⟩ (fun hHeld => ?_)
    clear hK K
    refine norm_ (a' := ?_) ?_ ?_
    rotate_left
    · show Act.put _ (some 38) _ = _
      simp only [Act.put, List.setIfInBounds_toArray, List.set_cons_zero, List.set_cons_succ, i64_w, i32_w]
      rfl
    refine pure_ (i := 12) (N := some 0) (v := ?_) (a' := ?_) #[true, true, true, true, true, true, true, true, true, true, true, true, true] rfl rfl (any_of HT_.out (by kernel_rfl)) (fun _ _ _ h => h) (Or.inl ⟨by rfl, ?_⟩) ?_ ?_
    rotate_left
    · intro w'
      go_simp
      with_reducible rfl
    rotate_left
    · simp only [Act.put, List.setIfInBounds_toArray, List.set_cons_zero, List.set_cons_succ, i64_w, i32_w]
      rfl
    refine done_ (done_of HT_.out (by kernel_rfl)) ?_
    have hcz25_0 : w24.cell? ⟨gb138, 0, none⟩ = some (.int .i64 a1_0) := (blk_cell BK138.out 0).trans rfl
    have hcz25_1 : w24.cell? ⟨gb138, 1, none⟩ = some (.int .i64 a1_1) := (blk_cell BK138.out 1).trans rfl
    have hcz25_2 : w24.cell? ⟨gb138, 2, none⟩ = some (.int .i64 a1_2) := (blk_cell BK138.out 2).trans rfl
    have hcz25_3 : w24.cell? ⟨gb138, 3, none⟩ = some (.int .i64 a1_3) := (blk_cell BK138.out 3).trans rfl
    have hcz25_4 : w24.cell? ⟨gb138, 4, none⟩ = some (.string a1_4) := (blk_cell BK138.out 4).trans rfl
    have hcz25_5 : w24.cell? ⟨gb138, 5, none⟩ = some (.int .i64 a1_5) := (blk_cell BK138.out 5).trans rfl
    have hcz25_6 : w24.cell? ⟨gb138, 6, none⟩ = some (.int .i64 a1_6) := (blk_cell BK138.out 6).trans rfl
    have hcz25_7 : w24.cell? ⟨gb138, 7, none⟩ = some (.slice A1_7 l1_7.length c1_7) := (blk_cell BK138.out 7).trans rfl
    have hfz25_0 := blk_frozen BK138.out 0
    have hfz25_1 := blk_frozen BK138.out 1
    have hfz25_2 := blk_frozen BK138.out 2
    have hfz25_3 := blk_frozen BK138.out 3
    have hfz25_4 := blk_frozen BK138.out 4
    have hfz25_5 := blk_frozen BK138.out 5
    have hfz25_6 := blk_frozen BK138.out 6
    have hfz25_7 := blk_frozen BK138.out 7
    try go_wp2_with (first | ((with_reducible refine gate_callee (f := 25) rfl ?_); refine goesL_ (some 44) rfl rfl Try.func25 (by kernel_rfl) rfl #[.string t146, .int .i64 (l1_7.length : Int)] rfl (by (try simp only [List.map_toArray, List.map_cons, List.map_nil]); first | done | rfl | (simp only [List.length_drop, List.length_take]; rfl)) ?_; (with_reducible refine (storagebarterref01_PutInt.calls k t146 (l1_7.length : Int) t147 _ A12.out).mono ?_); rintro e w26 ⟨rfl, hb⟩; refine ⟨_, rfl, ?_⟩; have n0_ := Aside0.mk (blk_below (g := gb138) (o := .cells #[.int .i64 a1_0, .int .i64 a1_1, .int .i64 a1_2, .int .i64 a1_3, .string a1_4, .int .i64 a1_5, .int .i64 a1_6, .slice A1_7 l1_7.length c1_7] 28 (0, 0)) (by (with_reducible repeat (first | refine blk_drewN ?_ _ | refine blk_drew ?_ | refine blk_alloc ?_ _)); exact BK138.out) hb); have n1_ := Aside0.mk (below_step (by repeat (first | (with_reducible first | exact HB.out | apply below_alloc | apply pw_below_drewN | apply below_drew1 | refine below_set ?_ GE138.out) | exact HB.out)) hb); clear BK138; clear HB; have BK138 := n0_; have HB := n1_; clear n0_ n1_; (try clear hb); (try clear hb2); (try clear hk); (try clear hi)))
    go_loopg [0, 7] k (fun kq v0 v7 w' => ∃ (x0_1 : ByteArray) (x7_1 : Int), v0 = .string x0_1 ∧ v7 = .int .i64 x7_1 ∧ Aside0 (storagebarterref42_Put.l0 kq x0_1 x7_1 a1_0 a1_1 a1_2 a1_3 a1_4 a1_5 a1_6 l1_7 = some (r1, r2)) ∧ Aside0 (kq ≤ k) ∧ Aside0 (w'.heap[gb138]? = some (.cells #[.int .i64 a1_0, .int .i64 a1_1, .int .i64 a1_2, .int .i64 a1_3, .string a1_4, .int .i64 a1_5, .int .i64 a1_6, (.slice A1_7 l1_7.length c1_7)] 28 (0, 0))) ∧ Aside0 (Below w.heap.size w w'))
    case atStart => exact ⟨(t147), (0), (by first | rfl | (simp; done) | (simp [*]; done)), (by first | rfl | (simp; done) | (simp [*]; done)), H', ⟨Nat.le_refl _⟩, ⟨by (with_reducible repeat (first | refine blk_drewN ?_ _ | refine blk_drew ?_ | refine blk_alloc ?_ _)); exact BK138.out⟩, ⟨by repeat (first | (with_reducible first | exact HB.out | apply below_alloc | apply pw_below_drewN | apply below_drew1 | refine below_set ?_ GE138.out) | exact HB.out)⟩⟩
    case round =>
      clear H'
      try clear c1
      try clear c2
      try clear p2
      try clear c4
      try clear c4b0
      try clear c4b1
      try clear c21
      try clear c23
      try clear c25
      try clear hcz14_0
      try clear hcz14_1
      try clear hcz14_2
      try clear hcz14_3
      try clear hcz14_4
      try clear hcz14_5
      try clear hcz14_6
      try clear hcz14_7
      try clear hcz25_0
      try clear hcz25_1
      try clear hcz25_2
      try clear hcz25_3
      try clear hcz25_4
      try clear hcz25_5
      try clear hcz25_6
      try clear hcz25_7
      try clear hfz14_0
      try clear hfz14_1
      try clear hfz14_2
      try clear hfz14_3
      try clear hfz14_4
      try clear hfz14_5
      try clear hfz14_6
      try clear hfz14_7
      try clear hfz25_0
      try clear hfz25_1
      try clear hfz25_2
      try clear hfz25_3
      try clear hfz25_4
      try clear hfz25_5
      try clear hfz25_6
      try clear hfz25_7
      obtain ⟨x0_1, x7_1, rfl, rfl, HA, HK1, BK138, HB⟩ := hrel
      cases gk with
      | zero => exact absurd HA.out (by simp [storagebarterref42_Put.l0])
      | succ k1 =>
        have H := HA.out
        clear HA
        simp only [storagebarterref42_Put.l0] at H
        by_cases c27 : x7_1 < (l1_7.length : Int)
        · rw [if_pos c27] at H
          have c27b0 : decide (x7_1 < (l1_7.length : Int)) = true := decide_eq_true c27
          clear c27
          by_cases c28 : 0 ≤ x7_1
          · rw [if_pos c28] at H
            have c28b0 : decide (0 ≤ x7_1) = true := decide_eq_true c28
            clear c28
            obtain ⟨y150, hy150⟩ : ∃ y_ : List Int, y_ = (([(rd_T64 l1_7 x7_1).f0, (rd_T64 l1_7 x7_1).f1, (rd_T64 l1_7 x7_1).f2, (rd_T64 l1_7 x7_1).f3, (rd_T64 l1_7 x7_1).f4, (rd_T64 l1_7 x7_1).f5, (rd_T64 l1_7 x7_1).f6, (rd_T64 l1_7 x7_1).f7, (rd_T64 l1_7 x7_1).f8, (rd_T64 l1_7 x7_1).f9, (rd_T64 l1_7 x7_1).f10] : List Int)) := ⟨_, rfl⟩
            replace H : ((storagebarterref01_PutList.f k1 x0_1 y150).bind fun t153 => (storagebarterref42_Put.l0 k1 t153 (wrap64 (x7_1 + 1)) a1_0 a1_1 a1_2 a1_3 a1_4 a1_5 a1_6 l1_7)) = some (r1, r2) := by first | (rw [hy150]; with_reducible exact H) | (have H2_ := (Option.bind_some _ _).symm.trans H; rw [hy150]; with_reducible exact H2_) | (have H2_ := (Option.bind_some _ _).symm.trans H; with_reducible exact H2_) | with_reducible exact H | (rw [hy150]; exact H) | exact H
            have Ny150 := Aside0.mk hy150
            clear hy150
            replace H := Option.bind_eq_some_iff.mp H
            obtain ⟨t153, A290, H⟩ := H
            replace H : (storagebarterref42_Put.l0 k1 t153 (wrap64 (x7_1 + 1)) a1_0 a1_1 a1_2 a1_3 a1_4 a1_5 a1_6 l1_7) = some (r1, r2) := H
            have A29 := Aside0.mk A290
            clear A290
            have H' := Aside0.mk H
            clear H
            have hcz30_0 : wr.cell? ⟨gb138, 0, none⟩ = some (.int .i64 a1_0) := (blk_cell BK138.out 0).trans rfl
            have hcz30_1 : wr.cell? ⟨gb138, 1, none⟩ = some (.int .i64 a1_1) := (blk_cell BK138.out 1).trans rfl
            have hcz30_2 : wr.cell? ⟨gb138, 2, none⟩ = some (.int .i64 a1_2) := (blk_cell BK138.out 2).trans rfl
            have hcz30_3 : wr.cell? ⟨gb138, 3, none⟩ = some (.int .i64 a1_3) := (blk_cell BK138.out 3).trans rfl
            have hcz30_4 : wr.cell? ⟨gb138, 4, none⟩ = some (.string a1_4) := (blk_cell BK138.out 4).trans rfl
            have hcz30_5 : wr.cell? ⟨gb138, 5, none⟩ = some (.int .i64 a1_5) := (blk_cell BK138.out 5).trans rfl
            have hcz30_6 : wr.cell? ⟨gb138, 6, none⟩ = some (.int .i64 a1_6) := (blk_cell BK138.out 6).trans rfl
            have hcz30_7 : wr.cell? ⟨gb138, 7, none⟩ = some (.slice A1_7 l1_7.length c1_7) := (blk_cell BK138.out 7).trans rfl
            have hfz30_0 := blk_frozen BK138.out 0
            have hfz30_1 := blk_frozen BK138.out 1
            have hfz30_2 := blk_frozen BK138.out 2
            have hfz30_3 := blk_frozen BK138.out 3
            have hfz30_4 := blk_frozen BK138.out 4
            have hfz30_5 := blk_frozen BK138.out 5
            have hfz30_6 := blk_frozen BK138.out 6
            have hfz30_7 := blk_frozen BK138.out 7
            have p148 : 0 ≤ (x7_1 : Int) := of_decide_eq_true (by first | (with_reducible assumption) | assumption)
            have q148 : x7_1 < (l1_7.length : Int) := of_decide_eq_true (by first | (with_reducible assumption) | assumption)
            obtain ⟨ad148, e148, hx148_0, hx148_1, hx148_2, hx148_3, hx148_4, hx148_5, hx148_6, hx148_7, hx148_8, hx148_9, hx148_10⟩ := at_T64 HR1_7.out x7_1 p148 q148
            cases e148
            replace hx148_0 := (HB.out.cell (World.block_lt_of_cell? w _ hx148_0)).trans hx148_0
            replace hx148_1 := (HB.out.cell (World.block_lt_of_cell? w _ hx148_1)).trans hx148_1
            replace hx148_2 := (HB.out.cell (World.block_lt_of_cell? w _ hx148_2)).trans hx148_2
            replace hx148_3 := (HB.out.cell (World.block_lt_of_cell? w _ hx148_3)).trans hx148_3
            replace hx148_4 := (HB.out.cell (World.block_lt_of_cell? w _ hx148_4)).trans hx148_4
            replace hx148_5 := (HB.out.cell (World.block_lt_of_cell? w _ hx148_5)).trans hx148_5
            replace hx148_6 := (HB.out.cell (World.block_lt_of_cell? w _ hx148_6)).trans hx148_6
            replace hx148_7 := (HB.out.cell (World.block_lt_of_cell? w _ hx148_7)).trans hx148_7
            replace hx148_8 := (HB.out.cell (World.block_lt_of_cell? w _ hx148_8)).trans hx148_8
            replace hx148_9 := (HB.out.cell (World.block_lt_of_cell? w _ hx148_9)).trans hx148_9
            replace hx148_10 := (HB.out.cell (World.block_lt_of_cell? w _ hx148_10)).trans hx148_10
            replace p148 := eq_true p148
            replace q148 := eq_true q148
            go_wp2_with (first | ((with_reducible refine gate_dst (N := 8) rfl ?_); refine box_event ?hg (N := 8) ?hd (cs := #[.int .i64 0, .int .i64 0, .int .i64 0, .int .i64 0, .int .i64 0, .int .i64 0, .int .i64 0, .int .i64 0, .int .i64 0, .int .i64 0, .int .i64 0]) (t := 64) ?hr ?_; (case hd => rfl); (case hg => rfl); (case hr => first | (go_simp; done) | (go_simp; rfl)); intro gb149 hg w31 hbox hb; have n0_ := Aside0.mk (blk_below (g := gb138) (o := .cells #[.int .i64 a1_0, .int .i64 a1_1, .int .i64 a1_2, .int .i64 a1_3, .string a1_4, .int .i64 a1_5, .int .i64 a1_6, .slice (some ad148) l1_7.length c1_7] 28 (0, 0)) (by (with_reducible repeat (first | refine blk_drewN ?_ _ | refine blk_drew ?_ | refine blk_alloc ?_ _)); exact BK138.out) hb); have n1_ := Aside0.mk (below_step (by repeat (first | (with_reducible first | exact HB.out | apply below_alloc | apply pw_below_drewN | apply below_drew1 | refine below_set ?_ GE138.out) | exact HB.out)) hb); have n2_ := Aside0.mk (hbox); have n3_ := Aside0.mk ((by rw [hg]; exact (below_size (by repeat (first | (with_reducible first | exact HB.out | apply below_alloc | apply pw_below_drewN | apply below_drew1 | refine below_set ?_ GE138.out) | exact HB.out))) : w.heap.size ≤ gb149)); have n4_ := Aside0.mk ((by rw [hg]; exact (below_size (by repeat (first | (with_reducible first | exact HB.out | apply below_alloc | apply pw_below_drewN | apply below_drew1 | refine below_set ?_ GE138.out) | exact HB.out))) : w.heap.size ≤ gb149)); have n5_ := Aside0.mk ((by rw [hg]; exact Nat.ne_of_lt (blk_lt (g := gb138) (o := .cells #[.int .i64 a1_0, .int .i64 a1_1, .int .i64 a1_2, .int .i64 a1_3, .string a1_4, .int .i64 a1_5, .int .i64 a1_6, .slice (some ad148) l1_7.length c1_7] 28 (0, 0)) (by (with_reducible repeat (first | refine blk_drewN ?_ _ | refine blk_drew ?_ | refine blk_alloc ?_ _)); exact BK138.out)) : gb138 ≠ gb149)); have n6_ := Aside0.mk ((by rw [hg]; exact Nat.ne_of_gt (blk_lt (g := gb138) (o := .cells #[.int .i64 a1_0, .int .i64 a1_1, .int .i64 a1_2, .int .i64 a1_3, .string a1_4, .int .i64 a1_5, .int .i64 a1_6, .slice (some ad148) l1_7.length c1_7] 28 (0, 0)) (by (with_reducible repeat (first | refine blk_drewN ?_ _ | refine blk_drew ?_ | refine blk_alloc ?_ _)); exact BK138.out)) : gb149 ≠ gb138)); clear BK138; clear HB; have BK138 := n0_; have HB := n1_; have BK149 := n2_; have GW149 := n3_; have GE149 := n4_; have NB138_149 := n5_; have NB149_138 := n6_; clear n0_ n1_ n2_ n3_ n4_ n5_ n6_; clear hb hbox hg; have hnb32 := NB149_138.out; have hnc32 := NB138_149.out; have hcz33_0 : w31.cell? ⟨gb149, 0, none⟩ = some (.int .i64 0) := (blk_cell BK149.out 0).trans rfl; have hcz33_1 : w31.cell? ⟨gb149, 1, none⟩ = some (.int .i64 0) := (blk_cell BK149.out 1).trans rfl; have hcz33_2 : w31.cell? ⟨gb149, 2, none⟩ = some (.int .i64 0) := (blk_cell BK149.out 2).trans rfl; have hcz33_3 : w31.cell? ⟨gb149, 3, none⟩ = some (.int .i64 0) := (blk_cell BK149.out 3).trans rfl; have hcz33_4 : w31.cell? ⟨gb149, 4, none⟩ = some (.int .i64 0) := (blk_cell BK149.out 4).trans rfl; have hcz33_5 : w31.cell? ⟨gb149, 5, none⟩ = some (.int .i64 0) := (blk_cell BK149.out 5).trans rfl; have hcz33_6 : w31.cell? ⟨gb149, 6, none⟩ = some (.int .i64 0) := (blk_cell BK149.out 6).trans rfl; have hcz33_7 : w31.cell? ⟨gb149, 7, none⟩ = some (.int .i64 0) := (blk_cell BK149.out 7).trans rfl; have hcz33_8 : w31.cell? ⟨gb149, 8, none⟩ = some (.int .i64 0) := (blk_cell BK149.out 8).trans rfl; have hcz33_9 : w31.cell? ⟨gb149, 9, none⟩ = some (.int .i64 0) := (blk_cell BK149.out 9).trans rfl; have hcz33_10 : w31.cell? ⟨gb149, 10, none⟩ = some (.int .i64 0) := (blk_cell BK149.out 10).trans rfl; have hfz33_0 := blk_frozen BK149.out 0; have hfz33_1 := blk_frozen BK149.out 1; have hfz33_2 := blk_frozen BK149.out 2; have hfz33_3 := blk_frozen BK149.out 3; have hfz33_4 := blk_frozen BK149.out 4; have hfz33_5 := blk_frozen BK149.out 5; have hfz33_6 := blk_frozen BK149.out 6; have hfz33_7 := blk_frozen BK149.out 7; have hfz33_8 := blk_frozen BK149.out 8; have hfz33_9 := blk_frozen BK149.out 9; have hfz33_10 := blk_frozen BK149.out 10) | ((with_reducible refine gate_dst (N := 82) rfl ?_); refine Kd.R_lit (Kd.int .i64) _ 3 ?hg (N := 82) ?hd (xs := ([(rd_T64 l1_7 x7_1).f0, (rd_T64 l1_7 x7_1).f1, (rd_T64 l1_7 x7_1).f2, (rd_T64 l1_7 x7_1).f3, (rd_T64 l1_7 x7_1).f4, (rd_T64 l1_7 x7_1).f5, (rd_T64 l1_7 x7_1).f6, (rd_T64 l1_7 x7_1).f7, (rd_T64 l1_7 x7_1).f8, (rd_T64 l1_7 x7_1).f9, (rd_T64 l1_7 x7_1).f10] : List Int)) (inner := [.int .i64 ((rd_T64 l1_7 x7_1).f0), .int .i64 ((rd_T64 l1_7 x7_1).f1), .int .i64 ((rd_T64 l1_7 x7_1).f2), .int .i64 ((rd_T64 l1_7 x7_1).f3), .int .i64 ((rd_T64 l1_7 x7_1).f4), .int .i64 ((rd_T64 l1_7 x7_1).f5), .int .i64 ((rd_T64 l1_7 x7_1).f6), .int .i64 ((rd_T64 l1_7 x7_1).f7), .int .i64 ((rd_T64 l1_7 x7_1).f8), .int .i64 ((rd_T64 l1_7 x7_1).f9), .int .i64 ((rd_T64 l1_7 x7_1).f10)]) (ok := fun _ => True) (okp := fun _ => True) ?hr ?hp (fun _ hk => hk) trivial (Below.refl _ _) (Nat.le_refl _) (by simp) ?_; (case hd => rfl); (case hg => rfl); (case hr => first | (go_simp; done) | (go_simp; rfl)); (case hp => exact (Reps.one (show Kd.M (Kd.int .i64) _ _ _ ((rd_T64 l1_7 x7_1).f0) [.int .i64 ((rd_T64 l1_7 x7_1).f0)] from rfl) (Reps.one (show Kd.M (Kd.int .i64) _ _ _ ((rd_T64 l1_7 x7_1).f1) [.int .i64 ((rd_T64 l1_7 x7_1).f1)] from rfl) (Reps.one (show Kd.M (Kd.int .i64) _ _ _ ((rd_T64 l1_7 x7_1).f2) [.int .i64 ((rd_T64 l1_7 x7_1).f2)] from rfl) (Reps.one (show Kd.M (Kd.int .i64) _ _ _ ((rd_T64 l1_7 x7_1).f3) [.int .i64 ((rd_T64 l1_7 x7_1).f3)] from rfl) (Reps.one (show Kd.M (Kd.int .i64) _ _ _ ((rd_T64 l1_7 x7_1).f4) [.int .i64 ((rd_T64 l1_7 x7_1).f4)] from rfl) (Reps.one (show Kd.M (Kd.int .i64) _ _ _ ((rd_T64 l1_7 x7_1).f5) [.int .i64 ((rd_T64 l1_7 x7_1).f5)] from rfl) (Reps.one (show Kd.M (Kd.int .i64) _ _ _ ((rd_T64 l1_7 x7_1).f6) [.int .i64 ((rd_T64 l1_7 x7_1).f6)] from rfl) (Reps.one (show Kd.M (Kd.int .i64) _ _ _ ((rd_T64 l1_7 x7_1).f7) [.int .i64 ((rd_T64 l1_7 x7_1).f7)] from rfl) (Reps.one (show Kd.M (Kd.int .i64) _ _ _ ((rd_T64 l1_7 x7_1).f8) [.int .i64 ((rd_T64 l1_7 x7_1).f8)] from rfl) (Reps.one (show Kd.M (Kd.int .i64) _ _ _ ((rd_T64 l1_7 x7_1).f9) [.int .i64 ((rd_T64 l1_7 x7_1).f9)] from rfl) (Reps.one (show Kd.M (Kd.int .i64) _ _ _ ((rd_T64 l1_7 x7_1).f10) [.int .i64 ((rd_T64 l1_7 x7_1).f10)] from rfl) (Reps.none _ _))))))))))))); intro v151 w34 ho35 hb hg_ hnew_; clear hg_ hnew_; (first | rw [← Ny150.out] at ho35 | (simp only [Int.reduceToNat] at ho35; rw [← Ny150.out] at ho35)); have n0_ := Aside0.mk (Kd.R_lower ho35 (below_size (by repeat (first | (with_reducible first | exact HB.out | apply below_alloc | apply pw_below_drewN | apply below_drew1 | refine below_set ?_ GE138.out | refine below_set ?_ GE149.out) | exact HB.out)))); have n1_ := Aside0.mk (blk_below (g := gb138) (o := .cells #[.int .i64 a1_0, .int .i64 a1_1, .int .i64 a1_2, .int .i64 a1_3, .string a1_4, .int .i64 a1_5, .int .i64 a1_6, .slice (some ad148) l1_7.length c1_7] 28 (0, 0)) (by (with_reducible repeat (first | refine blk_drewN ?_ _ | refine blk_drew ?_ | refine blk_alloc ?_ _)); refine blk_far ?_ NB138_149.out _; (with_reducible repeat (first | refine blk_drewN ?_ _ | refine blk_drew ?_ | refine blk_alloc ?_ _)); refine blk_far ?_ NB138_149.out _; (with_reducible repeat (first | refine blk_drewN ?_ _ | refine blk_drew ?_ | refine blk_alloc ?_ _)); refine blk_far ?_ NB138_149.out _; (with_reducible repeat (first | refine blk_drewN ?_ _ | refine blk_drew ?_ | refine blk_alloc ?_ _)); refine blk_far ?_ NB138_149.out _; (with_reducible repeat (first | refine blk_drewN ?_ _ | refine blk_drew ?_ | refine blk_alloc ?_ _)); refine blk_far ?_ NB138_149.out _; (with_reducible repeat (first | refine blk_drewN ?_ _ | refine blk_drew ?_ | refine blk_alloc ?_ _)); refine blk_far ?_ NB138_149.out _; (with_reducible repeat (first | refine blk_drewN ?_ _ | refine blk_drew ?_ | refine blk_alloc ?_ _)); refine blk_far ?_ NB138_149.out _; (with_reducible repeat (first | refine blk_drewN ?_ _ | refine blk_drew ?_ | refine blk_alloc ?_ _)); refine blk_far ?_ NB138_149.out _; (with_reducible repeat (first | refine blk_drewN ?_ _ | refine blk_drew ?_ | refine blk_alloc ?_ _)); refine blk_far ?_ NB138_149.out _; (with_reducible repeat (first | refine blk_drewN ?_ _ | refine blk_drew ?_ | refine blk_alloc ?_ _)); refine blk_far ?_ NB138_149.out _; (with_reducible repeat (first | refine blk_drewN ?_ _ | refine blk_drew ?_ | refine blk_alloc ?_ _)); refine blk_far ?_ NB138_149.out _; (with_reducible repeat (first | refine blk_drewN ?_ _ | refine blk_drew ?_ | refine blk_alloc ?_ _)); exact BK138.out) hb); have n2_ := Aside0.mk (blk_below (g := gb149) (o := .cells #[.int .i64 ((rd_T64 l1_7 x7_1).f0), .int .i64 ((rd_T64 l1_7 x7_1).f1), .int .i64 ((rd_T64 l1_7 x7_1).f2), .int .i64 ((rd_T64 l1_7 x7_1).f3), .int .i64 ((rd_T64 l1_7 x7_1).f4), .int .i64 ((rd_T64 l1_7 x7_1).f5), .int .i64 ((rd_T64 l1_7 x7_1).f6), .int .i64 ((rd_T64 l1_7 x7_1).f7), .int .i64 ((rd_T64 l1_7 x7_1).f8), .int .i64 ((rd_T64 l1_7 x7_1).f9), .int .i64 ((rd_T64 l1_7 x7_1).f10)] 64 (0, 0)) (by (with_reducible repeat (first | refine blk_drewN ?_ _ | refine blk_drew ?_ | refine blk_alloc ?_ _)); refine blk_put (cs := #[.int .i64 ((rd_T64 l1_7 x7_1).f0), .int .i64 ((rd_T64 l1_7 x7_1).f1), .int .i64 ((rd_T64 l1_7 x7_1).f2), .int .i64 ((rd_T64 l1_7 x7_1).f3), .int .i64 ((rd_T64 l1_7 x7_1).f4), .int .i64 ((rd_T64 l1_7 x7_1).f5), .int .i64 ((rd_T64 l1_7 x7_1).f6), .int .i64 ((rd_T64 l1_7 x7_1).f7), .int .i64 ((rd_T64 l1_7 x7_1).f8), .int .i64 ((rd_T64 l1_7 x7_1).f9), .int .i64 0]) ?_ 10 _ rfl; (with_reducible repeat (first | refine blk_drewN ?_ _ | refine blk_drew ?_ | refine blk_alloc ?_ _)); refine blk_put (cs := #[.int .i64 ((rd_T64 l1_7 x7_1).f0), .int .i64 ((rd_T64 l1_7 x7_1).f1), .int .i64 ((rd_T64 l1_7 x7_1).f2), .int .i64 ((rd_T64 l1_7 x7_1).f3), .int .i64 ((rd_T64 l1_7 x7_1).f4), .int .i64 ((rd_T64 l1_7 x7_1).f5), .int .i64 ((rd_T64 l1_7 x7_1).f6), .int .i64 ((rd_T64 l1_7 x7_1).f7), .int .i64 ((rd_T64 l1_7 x7_1).f8), .int .i64 0, .int .i64 0]) ?_ 9 _ rfl; (with_reducible repeat (first | refine blk_drewN ?_ _ | refine blk_drew ?_ | refine blk_alloc ?_ _)); refine blk_put (cs := #[.int .i64 ((rd_T64 l1_7 x7_1).f0), .int .i64 ((rd_T64 l1_7 x7_1).f1), .int .i64 ((rd_T64 l1_7 x7_1).f2), .int .i64 ((rd_T64 l1_7 x7_1).f3), .int .i64 ((rd_T64 l1_7 x7_1).f4), .int .i64 ((rd_T64 l1_7 x7_1).f5), .int .i64 ((rd_T64 l1_7 x7_1).f6), .int .i64 ((rd_T64 l1_7 x7_1).f7), .int .i64 0, .int .i64 0, .int .i64 0]) ?_ 8 _ rfl; (with_reducible repeat (first | refine blk_drewN ?_ _ | refine blk_drew ?_ | refine blk_alloc ?_ _)); refine blk_put (cs := #[.int .i64 ((rd_T64 l1_7 x7_1).f0), .int .i64 ((rd_T64 l1_7 x7_1).f1), .int .i64 ((rd_T64 l1_7 x7_1).f2), .int .i64 ((rd_T64 l1_7 x7_1).f3), .int .i64 ((rd_T64 l1_7 x7_1).f4), .int .i64 ((rd_T64 l1_7 x7_1).f5), .int .i64 ((rd_T64 l1_7 x7_1).f6), .int .i64 0, .int .i64 0, .int .i64 0, .int .i64 0]) ?_ 7 _ rfl; (with_reducible repeat (first | refine blk_drewN ?_ _ | refine blk_drew ?_ | refine blk_alloc ?_ _)); refine blk_put (cs := #[.int .i64 ((rd_T64 l1_7 x7_1).f0), .int .i64 ((rd_T64 l1_7 x7_1).f1), .int .i64 ((rd_T64 l1_7 x7_1).f2), .int .i64 ((rd_T64 l1_7 x7_1).f3), .int .i64 ((rd_T64 l1_7 x7_1).f4), .int .i64 ((rd_T64 l1_7 x7_1).f5), .int .i64 0, .int .i64 0, .int .i64 0, .int .i64 0, .int .i64 0]) ?_ 6 _ rfl; (with_reducible repeat (first | refine blk_drewN ?_ _ | refine blk_drew ?_ | refine blk_alloc ?_ _)); refine blk_put (cs := #[.int .i64 ((rd_T64 l1_7 x7_1).f0), .int .i64 ((rd_T64 l1_7 x7_1).f1), .int .i64 ((rd_T64 l1_7 x7_1).f2), .int .i64 ((rd_T64 l1_7 x7_1).f3), .int .i64 ((rd_T64 l1_7 x7_1).f4), .int .i64 0, .int .i64 0, .int .i64 0, .int .i64 0, .int .i64 0, .int .i64 0]) ?_ 5 _ rfl; (with_reducible repeat (first | refine blk_drewN ?_ _ | refine blk_drew ?_ | refine blk_alloc ?_ _)); refine blk_put (cs := #[.int .i64 ((rd_T64 l1_7 x7_1).f0), .int .i64 ((rd_T64 l1_7 x7_1).f1), .int .i64 ((rd_T64 l1_7 x7_1).f2), .int .i64 ((rd_T64 l1_7 x7_1).f3), .int .i64 0, .int .i64 0, .int .i64 0, .int .i64 0, .int .i64 0, .int .i64 0, .int .i64 0]) ?_ 4 _ rfl; (with_reducible repeat (first | refine blk_drewN ?_ _ | refine blk_drew ?_ | refine blk_alloc ?_ _)); refine blk_put (cs := #[.int .i64 ((rd_T64 l1_7 x7_1).f0), .int .i64 ((rd_T64 l1_7 x7_1).f1), .int .i64 ((rd_T64 l1_7 x7_1).f2), .int .i64 0, .int .i64 0, .int .i64 0, .int .i64 0, .int .i64 0, .int .i64 0, .int .i64 0, .int .i64 0]) ?_ 3 _ rfl; (with_reducible repeat (first | refine blk_drewN ?_ _ | refine blk_drew ?_ | refine blk_alloc ?_ _)); refine blk_put (cs := #[.int .i64 ((rd_T64 l1_7 x7_1).f0), .int .i64 ((rd_T64 l1_7 x7_1).f1), .int .i64 0, .int .i64 0, .int .i64 0, .int .i64 0, .int .i64 0, .int .i64 0, .int .i64 0, .int .i64 0, .int .i64 0]) ?_ 2 _ rfl; (with_reducible repeat (first | refine blk_drewN ?_ _ | refine blk_drew ?_ | refine blk_alloc ?_ _)); refine blk_put (cs := #[.int .i64 ((rd_T64 l1_7 x7_1).f0), .int .i64 0, .int .i64 0, .int .i64 0, .int .i64 0, .int .i64 0, .int .i64 0, .int .i64 0, .int .i64 0, .int .i64 0, .int .i64 0]) ?_ 1 _ rfl; (with_reducible repeat (first | refine blk_drewN ?_ _ | refine blk_drew ?_ | refine blk_alloc ?_ _)); refine blk_put (cs := #[.int .i64 0, .int .i64 0, .int .i64 0, .int .i64 0, .int .i64 0, .int .i64 0, .int .i64 0, .int .i64 0, .int .i64 0, .int .i64 0, .int .i64 0]) ?_ 0 _ rfl; (with_reducible repeat (first | refine blk_drewN ?_ _ | refine blk_drew ?_ | refine blk_alloc ?_ _)); exact BK149.out) hb); have n3_ := Aside0.mk (below_step (by repeat (first | (with_reducible first | exact HB.out | apply below_alloc | apply pw_below_drewN | apply below_drew1 | refine below_set ?_ GE138.out | refine below_set ?_ GE149.out) | exact HB.out)) hb); clear BK138; clear BK149; clear HB; have HO152 := n0_; have BK138 := n1_; have BK149 := n2_; have HB := n3_; clear n0_ n1_ n2_ n3_; clear hb ho35; obtain ⟨Ao36, co36, eo36⟩ := Kd.R_slice HO152.out; subst eo36) | ((with_reducible refine gate_callee (f := 41) rfl ?_); refine goesL_ (some 83) rfl rfl Try.func41 (by kernel_rfl) rfl #[.string x0_1, .slice Ao36 y150.length co36] rfl (by (try simp only [List.map_toArray, List.map_cons, List.map_nil]); first | done | rfl | (simp only [List.length_drop, List.length_take]; rfl)) ?_; (with_reducible refine (storagebarterref01_PutList.calls k1 x0_1 _ _ y150 t153 _ ?side1 ?side2 A29.out).mono ?_); (case side1 => repeat (first | exact (Kd.R_reads' HO152.out).2.2 | (with_reducible refine Kd.C_alloc ?_ _) | (with_reducible refine Kd.C_drewN ?_ _) | (with_reducible refine Kd.C_drew ?_))); (case side2 => exact (Kd.R_reads' HO152.out).2.1); rintro e w37 ⟨rfl, hb⟩; refine ⟨_, rfl, ?_⟩; have n0_ := Aside0.mk (Kd.R_below (by (with_reducible repeat (first | apply Kd.R_alloc | apply Kd.R_drewN | apply Kd.R_drew)); exact HO152.out) hb); have n1_ := Aside0.mk (blk_below (g := gb138) (o := .cells #[.int .i64 a1_0, .int .i64 a1_1, .int .i64 a1_2, .int .i64 a1_3, .string a1_4, .int .i64 a1_5, .int .i64 a1_6, .slice (some ad148) l1_7.length c1_7] 28 (0, 0)) (by (with_reducible repeat (first | refine blk_drewN ?_ _ | refine blk_drew ?_ | refine blk_alloc ?_ _)); exact BK138.out) hb); have n2_ := Aside0.mk (blk_below (g := gb149) (o := .cells #[.int .i64 ((rd_T64 l1_7 x7_1).f0), .int .i64 ((rd_T64 l1_7 x7_1).f1), .int .i64 ((rd_T64 l1_7 x7_1).f2), .int .i64 ((rd_T64 l1_7 x7_1).f3), .int .i64 ((rd_T64 l1_7 x7_1).f4), .int .i64 ((rd_T64 l1_7 x7_1).f5), .int .i64 ((rd_T64 l1_7 x7_1).f6), .int .i64 ((rd_T64 l1_7 x7_1).f7), .int .i64 ((rd_T64 l1_7 x7_1).f8), .int .i64 ((rd_T64 l1_7 x7_1).f9), .int .i64 ((rd_T64 l1_7 x7_1).f10)] 64 (0, 0)) (by (with_reducible repeat (first | refine blk_drewN ?_ _ | refine blk_drew ?_ | refine blk_alloc ?_ _)); exact BK149.out) hb); have n3_ := Aside0.mk (below_step (by repeat (first | (with_reducible first | exact HB.out | apply below_alloc | apply pw_below_drewN | apply below_drew1 | refine below_set ?_ GE138.out | refine below_set ?_ GE149.out) | exact HB.out)) hb); clear HO152; clear BK138; clear BK149; clear HB; have HO152 := n0_; have BK138 := n1_; have BK149 := n2_; have HB := n3_; clear n0_ n1_ n2_ n3_; (try clear hb); (try clear hb2); (try clear hk); (try clear hi)))
            go_roundg k1
            case measure => have := HK1.out; omega
            case rel => exact ⟨(t153), (wrap64 (x7_1 + 1)), (by first | rfl | (simp; done) | (simp [*]; done)), (by first | rfl | (simp; done) | (simp [*]; done)), H', ⟨by have := HK1.out; omega⟩, ⟨by (with_reducible repeat (first | refine blk_drewN ?_ _ | refine blk_drew ?_ | refine blk_alloc ?_ _)); exact BK138.out⟩, ⟨by repeat (first | (with_reducible first | exact HB.out | apply below_alloc | apply pw_below_drewN | apply below_drew1 | refine below_set ?_ GE138.out | refine below_set ?_ GE149.out) | exact HB.out)⟩⟩
          · rw [if_neg c28] at H
            exact absurd H (by simp)
        · rw [if_neg c27] at H
          have c27b0 : decide (x7_1 < (l1_7.length : Int)) = false := decide_eq_false c27
          clear c27
          simp only [Option.some.injEq, Prod.mk.injEq] at H
          obtain ⟨rfl, rfl⟩ := H
          have hcz38_0 : wr.cell? ⟨gb138, 0, none⟩ = some (.int .i64 a1_0) := (blk_cell BK138.out 0).trans rfl
          have hcz38_1 : wr.cell? ⟨gb138, 1, none⟩ = some (.int .i64 a1_1) := (blk_cell BK138.out 1).trans rfl
          have hcz38_2 : wr.cell? ⟨gb138, 2, none⟩ = some (.int .i64 a1_2) := (blk_cell BK138.out 2).trans rfl
          have hcz38_3 : wr.cell? ⟨gb138, 3, none⟩ = some (.int .i64 a1_3) := (blk_cell BK138.out 3).trans rfl
          have hcz38_4 : wr.cell? ⟨gb138, 4, none⟩ = some (.string a1_4) := (blk_cell BK138.out 4).trans rfl
          have hcz38_5 : wr.cell? ⟨gb138, 5, none⟩ = some (.int .i64 a1_5) := (blk_cell BK138.out 5).trans rfl
          have hcz38_6 : wr.cell? ⟨gb138, 6, none⟩ = some (.int .i64 a1_6) := (blk_cell BK138.out 6).trans rfl
          have hcz38_7 : wr.cell? ⟨gb138, 7, none⟩ = some (.slice A1_7 l1_7.length c1_7) := (blk_cell BK138.out 7).trans rfl
          have hfz38_0 := blk_frozen BK138.out 0
          have hfz38_1 := blk_frozen BK138.out 1
          have hfz38_2 := blk_frozen BK138.out 2
          have hfz38_3 := blk_frozen BK138.out 3
          have hfz38_4 := blk_frozen BK138.out 4
          have hfz38_5 := blk_frozen BK138.out 5
          have hfz38_6 := blk_frozen BK138.out 6
          have hfz38_7 := blk_frozen BK138.out 7
          go_wp2
          go_ret2
          exact ⟨by first | rfl | (simp [errW_none, errW_some] <;> rfl) | (simp [*, errW_none, errW_some] <;> rfl), by repeat (first | (with_reducible first | exact HB.out | apply below_alloc | apply pw_below_drewN | apply below_drew1 | refine below_set ?_ GE138.out) | exact HB.out)⟩
  · rw [if_neg c4] at H
    have c4b0 : (t139 == 0) = false := beq_eq_false_iff_ne.mpr c4
    have c4b1 : (t139 != 0) = true := bne_iff_ne.mpr c4
    simp only [Option.some.injEq, Prod.mk.injEq] at H
    obtain ⟨rfl, rfl⟩ := H
    go_enter Try.func21, Try.ntmps21
    go_wp2_with (first | ((with_reducible refine gate_dst (N := 3) rfl ?_); refine box_event ?hg (N := 3) ?hd (cs := #[.int .i64 a1_0, .int .i64 a1_1, .int .i64 a1_2, .int .i64 a1_3, .string a1_4, .int .i64 a1_5, .int .i64 a1_6, .slice A1_7 l1_7.length c1_7]) (t := 28) ?hr ?_; (case hd => rfl); (case hg => rfl); (case hr => first | (go_simp; done) | (go_simp; rfl)); intro gb138 hg w39 hbox hb; have n0_ := Aside0.mk (below_step (by repeat (first | (with_reducible first | exact HB.out | apply below_alloc | apply pw_below_drewN | apply below_drew1) | exact HB.out)) hb); have n1_ := Aside0.mk (hbox); have n2_ := Aside0.mk ((by rw [hg]; exact (below_size (by repeat (first | (with_reducible first | exact HB.out | apply below_alloc | apply pw_below_drewN | apply below_drew1) | exact HB.out))) : w.heap.size ≤ gb138)); have n3_ := Aside0.mk ((by rw [hg]; exact (below_size (by repeat (first | (with_reducible first | exact HB.out | apply below_alloc | apply pw_below_drewN | apply below_drew1) | exact HB.out))) : w.heap.size ≤ gb138)); clear HB; have HB := n0_; have BK138 := n1_; have GW138 := n2_; have GE138 := n3_; clear n0_ n1_ n2_ n3_; clear hb hbox hg; have hcz40_0 : w39.cell? ⟨gb138, 0, none⟩ = some (.int .i64 a1_0) := (blk_cell BK138.out 0).trans rfl; have hcz40_1 : w39.cell? ⟨gb138, 1, none⟩ = some (.int .i64 a1_1) := (blk_cell BK138.out 1).trans rfl; have hcz40_2 : w39.cell? ⟨gb138, 2, none⟩ = some (.int .i64 a1_2) := (blk_cell BK138.out 2).trans rfl; have hcz40_3 : w39.cell? ⟨gb138, 3, none⟩ = some (.int .i64 a1_3) := (blk_cell BK138.out 3).trans rfl; have hcz40_4 : w39.cell? ⟨gb138, 4, none⟩ = some (.string a1_4) := (blk_cell BK138.out 4).trans rfl; have hcz40_5 : w39.cell? ⟨gb138, 5, none⟩ = some (.int .i64 a1_5) := (blk_cell BK138.out 5).trans rfl; have hcz40_6 : w39.cell? ⟨gb138, 6, none⟩ = some (.int .i64 a1_6) := (blk_cell BK138.out 6).trans rfl; have hcz40_7 : w39.cell? ⟨gb138, 7, none⟩ = some (.slice A1_7 l1_7.length c1_7) := (blk_cell BK138.out 7).trans rfl; have hfz40_0 := blk_frozen BK138.out 0; have hfz40_1 := blk_frozen BK138.out 1; have hfz40_2 := blk_frozen BK138.out 2; have hfz40_3 := blk_frozen BK138.out 3; have hfz40_4 := blk_frozen BK138.out 4; have hfz40_5 := blk_frozen BK138.out 5; have hfz40_6 := blk_frozen BK138.out 6; have hfz40_7 := blk_frozen BK138.out 7) | ((with_reducible refine gate_callee (f := 23) rfl ?_); refine goesL_ (some 10) rfl rfl Try.func23 (by kernel_rfl) rfl #[.agg #[.int .i64 a1_0, .int .i64 a1_1, .int .i64 a1_2, .int .i64 a1_3, .string a1_4, .int .i64 a1_5, .int .i64 a1_6, .slice A1_7 l1_7.length c1_7]] rfl (by (try simp only [List.map_toArray, List.map_cons, List.map_nil]); first | done | rfl | (simp only [List.length_drop, List.length_take]; rfl)) ?_; (with_reducible refine (storagebarterref42_Check.calls a1_0 a1_1 a1_2 a1_3 a1_4 a1_5 a1_6 _ _ l1_7 t139 _ ?side1 ?side2 A3.out).mono ?_); (case side1 => repeat (first | exact (Kd.C_below HR1_7.out HB.out) | (with_reducible refine Kd.C_alloc ?_ _) | (with_reducible refine Kd.C_drewN ?_ _) | (with_reducible refine Kd.C_drew ?_))); (case side2 => exact HC1_7.out); rintro e w41 ⟨rfl, hb⟩; refine ⟨_, rfl, ?_⟩; have n0_ := Aside0.mk (blk_below (g := gb138) (o := .cells #[.int .i64 a1_0, .int .i64 a1_1, .int .i64 a1_2, .int .i64 a1_3, .string a1_4, .int .i64 a1_5, .int .i64 a1_6, .slice A1_7 l1_7.length c1_7] 28 (0, 0)) (by (with_reducible repeat (first | refine blk_drewN ?_ _ | refine blk_drew ?_ | refine blk_alloc ?_ _)); exact BK138.out) hb); have n1_ := Aside0.mk (below_step (by repeat (first | (with_reducible first | exact HB.out | apply below_alloc | apply pw_below_drewN | apply below_drew1 | refine below_set ?_ GE138.out) | exact HB.out)) hb); clear BK138; clear HB; have BK138 := n0_; have HB := n1_; clear n0_ n1_; (try clear hb); (try clear hb2); (try clear hk); (try clear hi)))
    go_ret2
    exact ⟨by first | rfl | (simp [errW_none, errW_some] <;> rfl) | (simp [*, errW_none, errW_some] <;> rfl), by repeat (first | (with_reducible first | exact HB.out | apply below_alloc | apply pw_below_drewN | apply below_drew1 | refine below_set ?_ GE138.out) | exact HB.out)⟩
end Go.Proofs.Ytcjdnahgffkbdaa.Q

namespace Go.Proofs.Ytcjdnahgffkbdaa.Q
open Go.RowKit Go.Proofs.YtcjdnahgffkbdaaW.PrintWords Go.Proofs.YtcjdnahgffkbdaaW.PrintLast Go.Proofs.YtcjdnahgffkbdaaW.PrintMore Go.Proofs.Ytcjdnahgffkbdaa.Gput Go.Proofs.Ytcjdnahgffkbdaa.Gputl
attribute [local go_sem] max2_int min2_int max_two min_two max_three min_three max_four min_four   -- for this text's walks alone
set_option linter.unusedVariables false
set_option linter.unusedSimpArgs false
def storagebarterref42_Encode.l0 : Nat → List (S28) → ByteArray → Int → Option (ByteArray × Int)
  | 0, _, _, _ => none
  | k + 1, x0, x4, x5 => if x5 < (x0.length : Int) then (if 0 ≤ x5 then ((storagebarterref42_Put.f k x4 ((rd_T28 x0 x5).f0) ((rd_T28 x0 x5).f1) ((rd_T28 x0 x5).f2) ((rd_T28 x0 x5).f3) ((rd_T28 x0 x5).f4) ((rd_T28 x0 x5).f5.f0) ((rd_T28 x0 x5).f5.f1) ((rd_T28 x0 x5).f5.f2)).bind fun bt156 => (if bt156.2 = 0 then (storagebarterref42_Encode.l0 k x0 bt156.1 (wrap64 (x5 + 1))) else (some ((⟨#[]⟩ : ByteArray), bt156.2)))) else (none)) else (some (x4, 0))
def storagebarterref42_Encode.f (k : Nat) (l0 : List (S28)) : Option (ByteArray × Int) := if (l0.length : Int) > 256 then (some ((⟨#[]⟩ : ByteArray), 4)) else ((storagebarterref01_PutInt.f k (⟨#[]⟩ : ByteArray) (l0.length : Int)).bind fun t154 => (storagebarterref42_Encode.l0 k l0 t154 0))
theorem storagebarterref42_Encode.mono_l : ∀ k, (∀ y0 y1 y2, LeO (storagebarterref42_Encode.l0 k y0 y1 y2) (storagebarterref42_Encode.l0 (k + 1) y0 y1 y2))
  | 0 => fun _ _ _ r h => by simp [storagebarterref42_Encode.l0] at h
  | k + 1 => by
    have ih0 := storagebarterref42_Encode.mono_l k
    · intro y0 y1 y2
      unfold storagebarterref42_Encode.l0
      repeat' first
      | (with_reducible exact ih0 _ _ _)
      | (with_reducible exact storagebarterref01_PutInt.mono _ _ _)
      | (with_reducible exact storagebarterref42_Put.mono _ _ _ _ _ _ _ _ _ _)
      | (with_reducible exact LeO.refl _)
      | (with_reducible exact LeO.none _)
      | (with_reducible refine LeO.ite ?_ ?_)
      | (with_reducible refine LeO.bind ?_ (fun _ => ?_))
      | exact ih0 _ _ _
      | exact storagebarterref01_PutInt.mono _ _ _
      | exact storagebarterref42_Put.mono _ _ _ _ _ _ _ _ _ _
      | exact LeO.none _
      | refine LeO.ite ?_ ?_
      | refine LeO.bind ?_ (fun _ => ?_)
theorem storagebarterref42_Encode.mono : ∀ a0 k, LeO (storagebarterref42_Encode.f k a0) (storagebarterref42_Encode.f (k + 1) a0) := by
  intro a0 k
  have ih0 := storagebarterref42_Encode.mono_l k
  unfold storagebarterref42_Encode.f
  repeat' first
      | (with_reducible exact ih0 _ _ _)
      | (with_reducible exact storagebarterref01_PutInt.mono _ _ _)
      | (with_reducible exact storagebarterref42_Put.mono _ _ _ _ _ _ _ _ _ _)
      | (with_reducible exact LeO.refl _)
      | (with_reducible exact LeO.none _)
      | (with_reducible refine LeO.ite ?_ ?_)
      | (with_reducible refine LeO.bind ?_ (fun _ => ?_))
      | exact ih0 _ _ _
      | exact storagebarterref01_PutInt.mono _ _ _
      | exact storagebarterref42_Put.mono _ _ _ _ _ _ _ _ _ _
      | exact LeO.none _
      | refine LeO.ite ?_ ?_
      | refine LeO.bind ?_ (fun _ => ?_)
set_option maxHeartbeats 8000000 in
set_option maxRecDepth 100000 in
theorem storagebarterref42_Encode.calls (k : Nat) (A0 : Option Addr) (c0 : Nat) (l0 : List (S28)) (r1 : ByteArray) (r2 : Int) (w : World) (hr0 : Kd.C k28 w A0 l0.length l0) (hc0 : l0.length ≤ c0) (h : storagebarterref42_Encode.f k l0 = some (r1, r2)) :
    Calls Try.prog 9 #[.slice A0 l0.length c0] w fun e w' => e = .returned (.tuple #[.string r1, .int .i64 r2]) ∧ Below w.heap.size w w' := by
  have hu28 := Try.underlying28
  have HR0 := Aside0.mk hr0
  have HC0 := Aside0.mk hc0
  clear hr0 hc0
  have HB := Aside0.mk (Below.refl w.heap.size w)
  have H : (if (l0.length : Int) > 256 then (some ((⟨#[]⟩ : ByteArray), 4)) else ((storagebarterref01_PutInt.f k (⟨#[]⟩ : ByteArray) (l0.length : Int)).bind fun t154 => (storagebarterref42_Encode.l0 k l0 t154 0))) = some (r1, r2) := h
  clear h
  by_cases c2 : (l0.length : Int) > 256
  · rw [if_pos c2] at H
    have c2b0 : decide (256 < (l0.length : Int)) = true := decide_eq_true c2
    have c2b1 : decide (256 < l0.length) = true := decide_eq_true (by omega)
    clear c2
    simp only [Option.some.injEq, Prod.mk.injEq] at H
    obtain ⟨rfl, rfl⟩ := H
    go_enter Try.func9, Try.ntmps9
    go_wp2
    go_ret2
    exact ⟨by first | rfl | (simp [errW_none, errW_some] <;> rfl) | (simp [*, errW_none, errW_some] <;> rfl), by repeat (first | (with_reducible first | exact HB.out | apply below_alloc | apply pw_below_drewN | apply below_drew1) | exact HB.out)⟩
  · rw [if_neg c2] at H
    have c2b0 : decide (256 < (l0.length : Int)) = false := decide_eq_false c2
    have c2b1 : decide (256 < l0.length) = false := decide_eq_false (by omega)
    clear c2
    replace H := Option.bind_eq_some_iff.mp H
    obtain ⟨t154, A30, H⟩ := H
    replace H : (storagebarterref42_Encode.l0 k l0 t154 0) = some (r1, r2) := H
    have A3 := Aside0.mk A30
    clear A30
    have H' := Aside0.mk H
    clear H
    go_enter Try.func9, Try.ntmps9
    go_wp2_with (first | ((with_reducible refine gate_callee (f := 25) rfl ?_); refine goesL_ (some 13) rfl rfl Try.func25 (by kernel_rfl) rfl #[.string (⟨#[]⟩ : ByteArray), .int .i64 (l0.length : Int)] rfl (by (try simp only [List.map_toArray, List.map_cons, List.map_nil]); first | done | rfl | (simp only [List.length_drop, List.length_take]; rfl)) ?_; (with_reducible refine (storagebarterref01_PutInt.calls k (⟨#[]⟩ : ByteArray) (l0.length : Int) t154 _ A3.out).mono ?_); rintro e w4 ⟨rfl, hb⟩; refine ⟨_, rfl, ?_⟩; have n0_ := Aside0.mk (below_step (by repeat (first | (with_reducible first | exact HB.out | apply below_alloc | apply pw_below_drewN | apply below_drew1) | exact HB.out)) hb); clear HB; have HB := n0_; clear n0_; (try clear hb); (try clear hb2); (try clear hk); (try clear hi)))
    go_loopg [4, 5] k (fun kq v4 v5 w' => ∃ (x4_1 : ByteArray) (x5_1 : Int), v4 = .string x4_1 ∧ v5 = .int .i64 x5_1 ∧ Aside0 (storagebarterref42_Encode.l0 kq l0 x4_1 x5_1 = some (r1, r2)) ∧ Aside0 (kq ≤ k) ∧ Aside0 (Below w.heap.size w w'))
    case atStart => exact ⟨(t154), (0), (by first | rfl | (simp; done) | (simp [*]; done)), (by first | rfl | (simp; done) | (simp [*]; done)), H', ⟨Nat.le_refl _⟩, ⟨by repeat (first | (with_reducible first | exact HB.out | apply below_alloc | apply pw_below_drewN | apply below_drew1) | exact HB.out)⟩⟩
    case round =>
      clear H'
      try clear c2
      try clear c2b0
      try clear c2b1
      try clear p2
      obtain ⟨x4_1, x5_1, rfl, rfl, HA, HK1, HB⟩ := hrel
      cases gk with
      | zero => exact absurd HA.out (by simp [storagebarterref42_Encode.l0])
      | succ k1 =>
        have H := HA.out
        clear HA
        simp only [storagebarterref42_Encode.l0] at H
        by_cases c5 : x5_1 < (l0.length : Int)
        · rw [if_pos c5] at H
          have c5b0 : decide (x5_1 < (l0.length : Int)) = true := decide_eq_true c5
          clear c5
          by_cases c6 : 0 ≤ x5_1
          · rw [if_pos c6] at H
            have c6b0 : decide (0 ≤ x5_1) = true := decide_eq_true c6
            clear c6
            replace H := Option.bind_eq_some_iff.mp H
            obtain ⟨⟨t156, t157⟩, A70, H⟩ := H
            replace H : (if t157 = 0 then (storagebarterref42_Encode.l0 k1 l0 t156 (wrap64 (x5_1 + 1))) else (some ((⟨#[]⟩ : ByteArray), t157))) = some (r1, r2) := H
            have A7 := Aside0.mk A70
            clear A70
            by_cases c8 : t157 = 0
            · rw [if_pos c8] at H
              have c8b0 : (t157 == 0) = true := beq_iff_eq.mpr c8
              have c8b1 : (t157 != 0) = false := bne_eq_false_iff_eq.mpr c8
              clear c8
              have H' := Aside0.mk H
              clear H
              have p155 : 0 ≤ (x5_1 : Int) := of_decide_eq_true (by first | (with_reducible assumption) | assumption)
              have q155 : x5_1 < (l0.length : Int) := of_decide_eq_true (by first | (with_reducible assumption) | assumption)
              obtain ⟨ad155, A155_7, c155_7, e155, hx155_0, hx155_1, hx155_2, hx155_3, hx155_4, hx155_5, hx155_6, hx155_7, hl155_7, hi155_7⟩ := at_T28 HR0.out x5_1 p155 q155
              cases e155
              replace hx155_0 := (HB.out.cell (World.block_lt_of_cell? w _ hx155_0)).trans hx155_0
              replace hx155_1 := (HB.out.cell (World.block_lt_of_cell? w _ hx155_1)).trans hx155_1
              replace hx155_2 := (HB.out.cell (World.block_lt_of_cell? w _ hx155_2)).trans hx155_2
              replace hx155_3 := (HB.out.cell (World.block_lt_of_cell? w _ hx155_3)).trans hx155_3
              replace hx155_4 := (HB.out.cell (World.block_lt_of_cell? w _ hx155_4)).trans hx155_4
              replace hx155_5 := (HB.out.cell (World.block_lt_of_cell? w _ hx155_5)).trans hx155_5
              replace hx155_6 := (HB.out.cell (World.block_lt_of_cell? w _ hx155_6)).trans hx155_6
              replace hx155_7 := (HB.out.cell (World.block_lt_of_cell? w _ hx155_7)).trans hx155_7
              have HR155_7 := Aside0.mk hi155_7
              have HC155_7 := Aside0.mk hl155_7
              clear hi155_7 hl155_7
              replace p155 := eq_true p155
              replace q155 := eq_true q155
              go_wp2_with (first | ((with_reducible refine gate_callee (f := 21) rfl ?_); refine goesL_ (some 26) rfl rfl Try.func21 (by kernel_rfl) rfl #[.string x4_1, .agg #[.int .i64 ((rd_T28 l0 x5_1).f0), .int .i64 ((rd_T28 l0 x5_1).f1), .int .i64 ((rd_T28 l0 x5_1).f2), .int .i64 ((rd_T28 l0 x5_1).f3), .string ((rd_T28 l0 x5_1).f4), .int .i64 ((rd_T28 l0 x5_1).f5.f0), .int .i64 ((rd_T28 l0 x5_1).f5.f1), .slice A155_7 ((rd_T28 l0 x5_1).f5.f2).length c155_7]] rfl (by (try simp only [List.map_toArray, List.map_cons, List.map_nil]); first | done | rfl | (simp only [List.length_drop, List.length_take]; rfl)) ?_; (with_reducible refine (storagebarterref42_Put.calls k1 x4_1 ((rd_T28 l0 x5_1).f0) ((rd_T28 l0 x5_1).f1) ((rd_T28 l0 x5_1).f2) ((rd_T28 l0 x5_1).f3) ((rd_T28 l0 x5_1).f4) ((rd_T28 l0 x5_1).f5.f0) ((rd_T28 l0 x5_1).f5.f1) _ _ ((rd_T28 l0 x5_1).f5.f2) t156 t157 _ ?side1 ?side2 A7.out).mono ?_); (case side1 => repeat (first | exact (Kd.C_below HR155_7.out HB.out) | (with_reducible refine Kd.C_alloc ?_ _) | (with_reducible refine Kd.C_drewN ?_ _) | (with_reducible refine Kd.C_drew ?_))); (case side2 => exact HC155_7.out); rintro e w9 ⟨rfl, hb⟩; refine ⟨_, rfl, ?_⟩; have n0_ := Aside0.mk (below_step (by repeat (first | (with_reducible first | exact HB.out | apply below_alloc | apply pw_below_drewN | apply below_drew1) | exact HB.out)) hb); clear HB; have HB := n0_; clear n0_; (try clear hb); (try clear hb2); (try clear hk); (try clear hi)))
              go_roundg k1
              case measure => have := HK1.out; omega
              case rel => exact ⟨(t156), (wrap64 (x5_1 + 1)), (by first | rfl | (simp; done) | (simp [*]; done)), (by first | rfl | (simp; done) | (simp [*]; done)), H', ⟨by have := HK1.out; omega⟩, ⟨by repeat (first | (with_reducible first | exact HB.out | apply below_alloc | apply pw_below_drewN | apply below_drew1) | exact HB.out)⟩⟩
            · rw [if_neg c8] at H
              have c8b0 : (t157 == 0) = false := beq_eq_false_iff_ne.mpr c8
              have c8b1 : (t157 != 0) = true := bne_iff_ne.mpr c8
              simp only [Option.some.injEq, Prod.mk.injEq] at H
              obtain ⟨rfl, rfl⟩ := H
              have p155 : 0 ≤ (x5_1 : Int) := of_decide_eq_true (by first | (with_reducible assumption) | assumption)
              have q155 : x5_1 < (l0.length : Int) := of_decide_eq_true (by first | (with_reducible assumption) | assumption)
              obtain ⟨ad155, A155_7, c155_7, e155, hx155_0, hx155_1, hx155_2, hx155_3, hx155_4, hx155_5, hx155_6, hx155_7, hl155_7, hi155_7⟩ := at_T28 HR0.out x5_1 p155 q155
              cases e155
              replace hx155_0 := (HB.out.cell (World.block_lt_of_cell? w _ hx155_0)).trans hx155_0
              replace hx155_1 := (HB.out.cell (World.block_lt_of_cell? w _ hx155_1)).trans hx155_1
              replace hx155_2 := (HB.out.cell (World.block_lt_of_cell? w _ hx155_2)).trans hx155_2
              replace hx155_3 := (HB.out.cell (World.block_lt_of_cell? w _ hx155_3)).trans hx155_3
              replace hx155_4 := (HB.out.cell (World.block_lt_of_cell? w _ hx155_4)).trans hx155_4
              replace hx155_5 := (HB.out.cell (World.block_lt_of_cell? w _ hx155_5)).trans hx155_5
              replace hx155_6 := (HB.out.cell (World.block_lt_of_cell? w _ hx155_6)).trans hx155_6
              replace hx155_7 := (HB.out.cell (World.block_lt_of_cell? w _ hx155_7)).trans hx155_7
              have HR155_7 := Aside0.mk hi155_7
              have HC155_7 := Aside0.mk hl155_7
              clear hi155_7 hl155_7
              replace p155 := eq_true p155
              replace q155 := eq_true q155
              go_wp2_with (first | ((with_reducible refine gate_callee (f := 21) rfl ?_); refine goesL_ (some 26) rfl rfl Try.func21 (by kernel_rfl) rfl #[.string x4_1, .agg #[.int .i64 ((rd_T28 l0 x5_1).f0), .int .i64 ((rd_T28 l0 x5_1).f1), .int .i64 ((rd_T28 l0 x5_1).f2), .int .i64 ((rd_T28 l0 x5_1).f3), .string ((rd_T28 l0 x5_1).f4), .int .i64 ((rd_T28 l0 x5_1).f5.f0), .int .i64 ((rd_T28 l0 x5_1).f5.f1), .slice A155_7 ((rd_T28 l0 x5_1).f5.f2).length c155_7]] rfl (by (try simp only [List.map_toArray, List.map_cons, List.map_nil]); first | done | rfl | (simp only [List.length_drop, List.length_take]; rfl)) ?_; (with_reducible refine (storagebarterref42_Put.calls k1 x4_1 ((rd_T28 l0 x5_1).f0) ((rd_T28 l0 x5_1).f1) ((rd_T28 l0 x5_1).f2) ((rd_T28 l0 x5_1).f3) ((rd_T28 l0 x5_1).f4) ((rd_T28 l0 x5_1).f5.f0) ((rd_T28 l0 x5_1).f5.f1) _ _ ((rd_T28 l0 x5_1).f5.f2) t156 t157 _ ?side1 ?side2 A7.out).mono ?_); (case side1 => repeat (first | exact (Kd.C_below HR155_7.out HB.out) | (with_reducible refine Kd.C_alloc ?_ _) | (with_reducible refine Kd.C_drewN ?_ _) | (with_reducible refine Kd.C_drew ?_))); (case side2 => exact HC155_7.out); rintro e w10 ⟨rfl, hb⟩; refine ⟨_, rfl, ?_⟩; have n0_ := Aside0.mk (below_step (by repeat (first | (with_reducible first | exact HB.out | apply below_alloc | apply pw_below_drewN | apply below_drew1) | exact HB.out)) hb); clear HB; have HB := n0_; clear n0_; (try clear hb); (try clear hb2); (try clear hk); (try clear hi)))
              go_ret2
              exact ⟨by first | rfl | (simp [errW_none, errW_some] <;> rfl) | (simp [*, errW_none, errW_some] <;> rfl), by repeat (first | (with_reducible first | exact HB.out | apply below_alloc | apply pw_below_drewN | apply below_drew1) | exact HB.out)⟩
          · rw [if_neg c6] at H
            exact absurd H (by simp)
        · rw [if_neg c5] at H
          have c5b0 : decide (x5_1 < (l0.length : Int)) = false := decide_eq_false c5
          clear c5
          simp only [Option.some.injEq, Prod.mk.injEq] at H
          obtain ⟨rfl, rfl⟩ := H
          go_wp2
          go_ret2
          exact ⟨by first | rfl | (simp [errW_none, errW_some] <;> rfl) | (simp [*, errW_none, errW_some] <;> rfl), by repeat (first | (with_reducible first | exact HB.out | apply below_alloc | apply pw_below_drewN | apply below_drew1) | exact HB.out)⟩
end Go.Proofs.Ytcjdnahgffkbdaa.Q

namespace Go.Proofs.Ytcjdnahgffkbdaa.Son
open Go Go.RowKit Go.Proofs Go.Proofs.Ytcjdnahgffkbdaa.Gm Go.Proofs.Ytcjdnahgffkbdaa.Gwa Go.Proofs.Ytcjdnahgffkbdaa.Gwb Go.Proofs.Ytcjdnahgffkbdaa.Gwd Go.Proofs.Ytcjdnahgffkbdaa.Spt Go.Proofs.Ytcjdnahgffkbdaa.Sen Go.Proofs.Ytcjdnahgffkbdaa.Srt Go.Proofs.Ytcjdnahgffkbdaa.Snx Go.Proofs.Ytcjdnahgffkbdaa.Q Go.Proofs.Ytcjdnahgffkbdaa.Gput Go.Proofs.YtcjdnahgffkbdaaW.PrintWords Go.Proofs.YtcjdnahgffkbdaaW.PrintLast Go.Proofs.YtcjdnahgffkbdaaW.PrintMore
set_option linter.unusedVariables false
def num (a b : Int) : Int := if a < b then -1 else if a > b then 1 else 0
theorem num_eq (a b : Int) : storagebarterref23_number.f a b = some (num a b) := by
  unfold storagebarterref23_number.f num
  by_cases h : a < b
  · rw [if_pos h, if_pos h]
  · rw [if_neg h, if_neg h]
    by_cases h2 : a > b
    · rw [if_pos h2, if_pos h2]
    · rw [if_neg h2, if_neg h2]
theorem num_zero {a b : Int} : num a b = 0 ↔ a = b := by
  unfold num
  by_cases h : a < b
  · rw [if_pos h]; omega
  · rw [if_neg h]
    by_cases h2 : a > b
    · rw [if_pos h2]; omega
    · rw [if_neg h2]; omega
/-- The first number that is not 0. -/
def fnz : List Int → Int
  | [] => 0
  | x :: xs => if x = 0 then fnz xs else x
theorem fnz_zero : ∀ (l : List Int), fnz l = 0 ↔ ∀ x ∈ l, x = 0
  | [] => by simp [fnz]
  | x :: xs => by
    have ih := fnz_zero xs
    by_cases h : x = 0
    · simp [fnz, h, ih]
    · simp [fnz, h]
theorem first_l0 (l : List Int) (hl : l.length ≤ 1000000) : ∀ (d i k : Nat), l.length - i = d → i ≤ l.length → d < k → storagebarterref23_first.l0 k l (i : Int) = some (fnz (l.drop i)) := by
  intro d
  induction d with
  | zero =>
    intro i k hd hi hk
    obtain ⟨k, rfl⟩ : ∃ m, k = m + 1 := ⟨k - 1, by omega⟩
    rw [storagebarterref23_first.l0, if_neg (by omega), List.drop_of_length_le (by omega)]
    rfl
  | succ d ih =>
    intro i k hd hi hk
    obtain ⟨k, rfl⟩ : ∃ m, k = m + 1 := ⟨k - 1, by omega⟩
    have hil : i < l.length := by omega
    have e : rd l (i : Int) = l[i] := by simp [rd, List.getD, hil]
    rw [storagebarterref23_first.l0, if_pos (by omega), if_pos (by omega), e, List.drop_eq_getElem_cons hil, fnz]
    by_cases h : l[i] = 0
    · rw [if_pos h, if_pos h, Gwa.w64 (x := (i : Int) + 1) (by omega), show ((i : Int) + 1) = ((i + 1 : Nat) : Int) by omega]
      exact ih (i + 1) k (by omega) (by omega) (by omega)
    · rw [if_neg h, if_neg h]
theorem first_eq (l : List Int) (k : Nat) (hl : l.length ≤ 1000000) (hk : l.length < k) : storagebarterref23_first.f k l = some (fnz l) := by
  have h := first_l0 l hl l.length 0 k rfl (by omega) hk
  rw [List.drop_zero] at h
  exact h
theorem say_eq (s u : S64) (k : Nat) (hk : 12 ≤ k) : ∃ c, storagebarterref23_say.f k s.f0 s.f1 s.f2 s.f3 s.f4 s.f5 s.f6 s.f7 s.f8 s.f9 s.f10 u.f0 u.f1 u.f2 u.f3 u.f4 u.f5 u.f6 u.f7 u.f8 u.f9 u.f10 = some c ∧ (c = 0 ↔ s = u) := by
  unfold storagebarterref23_say.f
  simp only [num_eq, Option.bind_some]
  rw [first_eq _ k (by simp) (by simp; omega), Option.bind_some]
  refine ⟨_, rfl, ?_⟩
  rw [fnz_zero]
  simp only [List.mem_cons, List.not_mem_nil, or_false, forall_eq_or_imp, forall_eq, num_zero]
  constructor
  · rintro ⟨h0, h1, h2, h3, h4, h5, h6, h7, h8, h9, h10⟩
    cases s
    cases u
    simp_all
  · rintro rfl
    simp
theorem says_l0 (a b : List S64) (hab : a.length = b.length) (hl : a.length ≤ 1000000) : ∀ (d i k : Nat), a.length - i = d → i ≤ a.length → d + 13 ≤ k → ∃ c, storagebarterref23_says.l0 k a b (i : Int) = some c ∧ (c = 0 ↔ a.drop i = b.drop i) := by
  intro d
  induction d with
  | zero =>
    intro i k hd hi hk
    obtain ⟨k, rfl⟩ : ∃ m, k = m + 1 := ⟨k - 1, by omega⟩
    rw [storagebarterref23_says.l0, if_neg (by omega), List.drop_of_length_le (by omega), List.drop_of_length_le (by omega)]
    exact ⟨0, rfl, by simp⟩
  | succ d ih =>
    intro i k hd hi hk
    obtain ⟨k, rfl⟩ : ∃ m, k = m + 1 := ⟨k - 1, by omega⟩
    have hia : i < a.length := by omega
    have hib : i < b.length := by omega
    have ea : rd_T64 a (i : Int) = a[i] := by simp [rd_T64, List.getD, hia]
    have eb : rd_T64 b (i : Int) = b[i] := by simp [rd_T64, List.getD, hib]
    obtain ⟨c, hc, hz⟩ := say_eq a[i] b[i] k (by omega)
    rw [storagebarterref23_says.l0, if_pos (by omega), if_pos (by omega), if_pos (by omega), ea, eb, hc, Option.bind_some, show a.drop i = a[i] :: a.drop (i + 1) from List.drop_eq_getElem_cons hia, show b.drop i = b[i] :: b.drop (i + 1) from List.drop_eq_getElem_cons hib]
    by_cases h : c = 0
    · rw [if_pos h, Gwa.w64 (x := (i : Int) + 1) (by omega), show ((i : Int) + 1) = ((i + 1 : Nat) : Int) by omega]
      obtain ⟨c', h1, h2⟩ := ih (i + 1) k (by omega) (by omega) (by omega)
      exact ⟨c', h1, by rw [h2, List.cons.injEq]; exact ⟨fun z => ⟨hz.1 h, z⟩, fun z => z.2⟩⟩
    · rw [if_neg h]
      exact ⟨c, rfl, by simp only [List.cons.injEq]; constructor; · intro z; exact absurd z h
                        · rintro ⟨z, -⟩; exact hz.2 z⟩
theorem says_eq (a b : List S64) (k : Nat) (hl : a.length ≤ 1000000) (hk : a.length + 13 ≤ k) : ∃ c, storagebarterref23_says.f k a b = some c ∧ (c = 0 ↔ a = b) := by
  unfold storagebarterref23_says.f
  by_cases h : a.length = b.length
  · rw [if_pos (by omega)]
    have := says_l0 a b h hl a.length 0 k rfl (by omega) (by omega)
    simpa using this
  · rw [if_neg (by omega), num_eq, Option.bind_some]
    refine ⟨_, rfl, ?_⟩
    rw [num_zero]
    constructor
    · intro z; omega
    · rintro rfl; exact absurd rfl h
theorem text_nil : storagebarterref23_text.f (⟨#[]⟩ : ByteArray) (⟨#[]⟩ : ByteArray) = some 0 := by
  unfold storagebarterref23_text.f
  rw [show (⟨#[]⟩ : ByteArray).toList = [] from B_toList []]
  rfl
theorem toList_inj {a b : ByteArray} : a.toList = b.toList ↔ a = b := by
  obtain ⟨x, rfl⟩ := exB a
  obtain ⟨y, rfl⟩ := exB b
  rw [B_toList, B_toList]
  exact ⟨fun h => by rw [h], fun h => by have := congrArg (fun z => z.data.toList) h; simpa [B_data] using this⟩
/-- One event, another one. -/
theorem one_eq (x y : S28) (k : Nat) (hl : x.f5.f2.length ≤ 1000000) (hk : x.f5.f2.length + 20 ≤ k) :
    ∃ b, storagebarterref42_One.f k x.f0 x.f1 x.f2 x.f3 x.f4 x.f5.f0 x.f5.f1 x.f5.f2 y.f0 y.f1 y.f2 y.f3 y.f4 y.f5.f0 y.f5.f1 y.f5.f2 = some b ∧ (b = true ↔ x = y) := by
  have hx : x = y ↔ x.f0 = y.f0 ∧ x.f1 = y.f1 ∧ x.f2 = y.f2 ∧ x.f3 = y.f3 ∧ x.f4 = y.f4 ∧ x.f5.f0 = y.f5.f0 ∧ x.f5.f1 = y.f5.f1 ∧ x.f5.f2 = y.f5.f2 := by
    obtain ⟨x0, x1, x2, x3, x4, ⟨x5, x6, x7⟩⟩ := x
    obtain ⟨y0, y1, y2, y3, y4, ⟨y5, y6, y7⟩⟩ := y
    simp
  unfold storagebarterref42_One.f storagebarterref23_Same.f storagebarterref23_Compare.f
  rw [hx]
  by_cases h0 : x.f0 = y.f0
  case neg => rw [if_neg h0]; exact ⟨false, rfl, by simp [h0]⟩
  by_cases h1 : x.f1 = y.f1
  case neg => rw [if_pos h0, if_neg h1]; exact ⟨false, rfl, by simp [h1]⟩
  by_cases h2 : x.f2 = y.f2
  case neg => rw [if_pos h0, if_pos h1, if_neg h2]; exact ⟨false, rfl, by simp [h2]⟩
  by_cases h3 : x.f3 = y.f3
  case neg => rw [if_pos h0, if_pos h1, if_pos h2, if_neg h3]; exact ⟨false, rfl, by simp [h3]⟩
  by_cases h4 : x.f4 = y.f4
  case neg => rw [if_pos h0, if_pos h1, if_pos h2, if_pos h3, if_neg (fun z => h4 (toList_inj.1 z))]; exact ⟨false, rfl, by simp [h4]⟩
  obtain ⟨c0, e0, z0⟩ := says_eq ([] : List S64) [] k (by simp) (by simp; omega)
  obtain ⟨c, e, z⟩ := says_eq x.f5.f2 y.f5.f2 k hl (by omega)
  rw [if_pos h0, if_pos h1, if_pos h2, if_pos h3, if_pos (toList_inj.2 h4)]
  simp only [num_eq, text_nil, e0, e, Option.bind_some]
  rw [first_eq _ k (by simp) (by simp; omega)]
  simp only [Option.bind_some]
  refine ⟨_, rfl, ?_⟩
  rw [beq_iff_eq, fnz_zero]
  simp only [List.mem_cons, List.not_mem_nil, or_false, forall_eq_or_imp, forall_eq, num_zero, z, z0]
  simp [h0, h1, h2, h3, h4]
theorem rsame_l0 (a b : List S28) (M : Nat) (hM : ∀ x ∈ a, x.f5.f2.length ≤ M) (hm : M ≤ 1000000) (hab : a.length = b.length) (hl : a.length ≤ 1000000) : ∀ (d i k : Nat), a.length - i = d → i ≤ a.length → d + M + 21 ≤ k → ∃ c, storagebarterref42_Same.l0 k a b (i : Int) = some c ∧ (c = true ↔ a.drop i = b.drop i) := by
  intro d
  induction d with
  | zero =>
    intro i k hd hi hk
    obtain ⟨k, rfl⟩ : ∃ m, k = m + 1 := ⟨k - 1, by omega⟩
    rw [storagebarterref42_Same.l0, if_neg (by omega), List.drop_of_length_le (by omega), List.drop_of_length_le (by omega)]
    exact ⟨true, rfl, by simp⟩
  | succ d ih =>
    intro i k hd hi hk
    obtain ⟨k, rfl⟩ : ∃ m, k = m + 1 := ⟨k - 1, by omega⟩
    have hia : i < a.length := by omega
    have hib : i < b.length := by omega
    have ea : rd_T28 a (i : Int) = a[i] := by simp [rd_T28, List.getD, hia]
    have eb : rd_T28 b (i : Int) = b[i] := by simp [rd_T28, List.getD, hib]
    have hMi := hM _ (List.getElem_mem hia)
    obtain ⟨c, hc, hz⟩ := one_eq a[i] b[i] k (by omega) (by omega)
    rw [storagebarterref42_Same.l0, if_pos (by omega), if_pos (by omega), if_pos (by omega), ea, eb, hc, Option.bind_some, show a.drop i = a[i] :: a.drop (i + 1) from List.drop_eq_getElem_cons hia, show b.drop i = b[i] :: b.drop (i + 1) from List.drop_eq_getElem_cons hib]
    by_cases h : c = true
    · rw [if_pos h, Gwa.w64 (x := (i : Int) + 1) (by omega), show ((i : Int) + 1) = ((i + 1 : Nat) : Int) by omega]
      obtain ⟨c', h1, h2⟩ := ih (i + 1) k (by omega) (by omega) (by omega)
      exact ⟨c', h1, by rw [h2, List.cons.injEq]; exact ⟨fun z => ⟨hz.1 h, z⟩, fun z => z.2⟩⟩
    · rw [if_neg h]
      exact ⟨false, rfl, by simp only [List.cons.injEq]; constructor; · intro z; cases z
                            · rintro ⟨z, -⟩; exact absurd (hz.2 z) h⟩
theorem rsame_eq (a b : List S28) (M k : Nat) (hM : ∀ x ∈ a, x.f5.f2.length ≤ M) (hm : M ≤ 1000000) (hl : a.length ≤ 1000000) (hk : a.length + M + 21 ≤ k) : ∃ c, storagebarterref42_Same.f k a b = some c ∧ (c = true ↔ a = b) := by
  unfold storagebarterref42_Same.f
  by_cases h : a.length = b.length
  · rw [if_pos (by omega)]
    have := rsame_l0 a b M hM hm h hl a.length 0 k rfl (by omega) (by omega)
    simpa using this
  · rw [if_neg (by omega)]
    exact ⟨false, rfl, by constructor; · intro z; cases z
                          · rintro rfl; exact absurd rfl h⟩
end Go.Proofs.Ytcjdnahgffkbdaa.Son

namespace Go.Proofs.Ytcjdnahgffkbdaa.Srx
open Go Go.RowKit Go.Proofs Go.Proofs.Ytcjdnahgffkbdaa.Gm Go.Proofs.Ytcjdnahgffkbdaa.Gwa Go.Proofs.Ytcjdnahgffkbdaa.Gwb Go.Proofs.Ytcjdnahgffkbdaa.Gwd Go.Proofs.Ytcjdnahgffkbdaa.Spt Go.Proofs.Ytcjdnahgffkbdaa.Sen Go.Proofs.Ytcjdnahgffkbdaa.Srt Go.Proofs.Ytcjdnahgffkbdaa.Q Go.Proofs.Ytcjdnahgffkbdaa.Gput Go.Proofs.YtcjdnahgffkbdaaW.PrintWords Go.Proofs.YtcjdnahgffkbdaaW.PrintLast Go.Proofs.YtcjdnahgffkbdaaW.PrintMore
set_option linter.unusedVariables false
theorem put_l0 (x0 x1 x2 x3 : Int) (x4 : ByteArray) (x5 x6 : Int) (ss : List S64) (hs : ∀ s ∈ ss, W11 s) (hl : ss.length ≤ 256) : ∀ (d i k : Nat) (b : List UInt8), ss.length - i = d → i ≤ ss.length → d + 40 ≤ k → b.length + 200 * d ≤ 200000000 →
    storagebarterref42_Put.l0 k (B b) (i : Int) x0 x1 x2 x3 x4 x5 x6 ss = some (B (b ++ putS (ss.drop i)), 0) := by
  intro d
  induction d with
  | zero =>
    intro i k b hd hi hk hb
    obtain ⟨k, rfl⟩ : ∃ m, k = m + 1 := ⟨k - 1, by omega⟩
    rw [storagebarterref42_Put.l0, if_neg (by omega), List.drop_of_length_le (by omega)]
    simp [putS]
  | succ d ih =>
    intro i k b hd hi hk hb
    obtain ⟨k, rfl⟩ : ∃ m, k = m + 1 := ⟨k - 1, by omega⟩
    have hil : i < ss.length := by omega
    have e : rd_T64 ss (i : Int) = ss[i] := by simp [rd_T64, List.getD, hil]
    have hw := hs _ (List.getElem_mem hil)
    have hpl := putL_len hw (by simp [Spt.nums])
    rw [show (Spt.nums ss[i]).length = 11 from rfl] at hpl
    have hP := ref_PutList_eq b (Spt.nums ss[i]) k (fun x hx => Gwb.wf64 (hw x hx)) (by simp [Spt.nums]) (by omega) (by rw [show (Spt.nums ss[i]).length = 11 from rfl]; omega)
    rw [storagebarterref42_Put.l0, if_pos (by omega), if_pos (by omega), e]
    unfold Spt.nums at hP
    rw [hP, Option.bind_some, Gwa.w64 (x := (i : Int) + 1) (by omega), show ((i : Int) + 1) = ((i + 1 : Nat) : Int) by omega]
    have h2 : (b ++ putL [ss[i].f0, ss[i].f1, ss[i].f2, ss[i].f3, ss[i].f4, ss[i].f5, ss[i].f6, ss[i].f7, ss[i].f8, ss[i].f9, ss[i].f10]).length + 200 * d ≤ 200000000 := by
      rw [List.length_append]
      unfold Spt.nums at hpl
      omega
    rw [ih (i + 1) k _ (by omega) (by omega) (by omega) h2, List.drop_eq_getElem_cons hil]
    unfold putS
    rw [List.flatMap_cons, List.append_assoc]
    rfl
theorem rput_eq (b : List UInt8) (x : S28) (hx : WE x) (hb : b.length ≤ 100000000) (k : Nat) (hk : 300 ≤ k) : storagebarterref42_Put.f k (B b) x.f0 x.f1 x.f2 x.f3 x.f4 x.f5.f0 x.f5.f1 x.f5.f2 = some (putR b x) := by
  obtain ⟨x0, x1, x2, x3, x4, ⟨x5, x6, ss⟩⟩ := x
  obtain ⟨tl, rfl⟩ := exB x4
  have hx4 : (B tl).size = tl.length := B_size tl
  dsimp only
  unfold storagebarterref42_Put.f storagebarterref42_Check.f putR
  dsimp only
  by_cases h4 : (B tl).size > 16384
  · rw [if_pos (by omega), Option.bind_some, if_neg (by omega), if_pos (.inl h4)]
  by_cases hs : ss.length > 256
  · rw [if_neg (by omega), if_pos (by omega), Option.bind_some, if_neg (by omega), if_pos (.inr hs)]
  rw [if_neg (by omega), if_neg (by omega), Option.bind_some, if_pos rfl, if_neg (by omega)]
  have a0 := putI_len hx.h0
  have a1 := putI_len hx.h1
  have a2 := putI_len hx.h2
  have a3 := putI_len hx.h3
  have a5 := putI_len hx.h5
  have a6 := putI_len hx.h6
  have a4 : (putI (tl.length : Int)).length ≤ 10 := putI_len (by omega)
  have a7 : (putI (ss.length : Int)).length ≤ 10 := putI_len (by omega)
  dsimp only at a0 a1 a2 a3 a5 a6
  rw [ref_PutInt_eq b x0 k (by omega) hx.h0 (by omega), Option.bind_some,
    ref_PutInt_eq _ x1 k (by rw [List.length_append]; omega) hx.h1 (by omega), Option.bind_some,
    ref_PutInt_eq _ x2 k (by simp only [List.length_append]; omega) hx.h2 (by omega), Option.bind_some,
    ref_PutInt_eq _ x3 k (by simp only [List.length_append]; omega) hx.h3 (by omega), Option.bind_some,
    ref_PutText_eq _ tl k (by simp only [List.length_append]; omega) (by omega) (by omega), Option.bind_some,
    ref_PutInt_eq _ x5 k (by simp only [List.length_append]; omega) hx.h5 (by omega), Option.bind_some,
    ref_PutInt_eq _ x6 k (by simp only [List.length_append]; omega) hx.h6 (by omega), Option.bind_some,
    ref_PutInt_eq _ (ss.length : Int) k (by simp only [List.length_append]; omega) (by omega) (by omega), Option.bind_some]
  have h := put_l0 x0 x1 x2 x3 (B tl) x5 x6 ss hx.hs (by omega) ss.length 0 k (((((((b ++ putI x0) ++ putI x1) ++ putI x2) ++ putI x3) ++ (putI tl.length ++ tl) ++ putI x5) ++ putI x6) ++ putI ss.length) (by omega) (by omega) (by omega) (by simp only [List.length_append]; omega)
  rw [show ((0 : Nat) : Int) = 0 from rfl] at h
  rw [h, List.drop_zero]
  unfold putE
  rw [show (B tl).data.toList = tl from rfl]
  simp only [List.append_assoc]
theorem enc_l0 (xs : List S28) (hx : ∀ x ∈ xs, WE x) (hl : xs.length ≤ 256) : ∀ (d i k : Nat) (b : List UInt8), xs.length - i = d → i ≤ xs.length → d + 310 ≤ k → b.length ≤ 100 + 60000 * i →
    storagebarterref42_Encode.l0 k xs (B b) (i : Int) = some (encGo b (xs.drop i)) := by
  intro d
  induction d with
  | zero =>
    intro i k b hd hi hk hb
    obtain ⟨k, rfl⟩ : ∃ m, k = m + 1 := ⟨k - 1, by omega⟩
    rw [storagebarterref42_Encode.l0, if_neg (by omega), List.drop_of_length_le (by omega)]
    rfl
  | succ d ih =>
    intro i k b hd hi hk hb
    obtain ⟨k, rfl⟩ : ∃ m, k = m + 1 := ⟨k - 1, by omega⟩
    have hil : i < xs.length := by omega
    have e : rd_T28 xs (i : Int) = xs[i] := by simp [rd_T28, List.getD, hil]
    have hw := hx _ (List.getElem_mem hil)
    rw [storagebarterref42_Encode.l0, if_pos (by omega), if_pos (by omega), e, rput_eq b xs[i] hw (by omega) k (by omega), Option.bind_some, List.drop_eq_getElem_cons hil, encGo]
    by_cases h : (putR b xs[i]).2 = 0
    · obtain ⟨r, hr⟩ : ∃ r, putR b xs[i] = (r, 0) := ⟨(putR b xs[i]).1, by rw [← h]⟩
      obtain ⟨h1, h2, h3⟩ := putR_ok hr
      rw [if_pos h, if_neg (fun z => z h), Gwa.w64 (x := (i : Int) + 1) (by omega), show ((i : Int) + 1) = ((i + 1 : Nat) : Int) by omega, hr, h1]
      have hle := putE_len hw h2 h3
      exact ih (i + 1) k _ (by omega) (by omega) (by omega) (by rw [List.length_append]; omega)
    · rw [if_neg h, if_pos h]
/-- The reference's Encode answers as script's. -/
theorem renc_eq (xs : List S28) (hx : ∀ x ∈ xs, WE x) (k : Nat) (hk : 600 ≤ k) : storagebarterref42_Encode.f k xs = some (encR xs) := by
  unfold storagebarterref42_Encode.f encR
  by_cases h : xs.length > 256
  · rw [if_pos (by omega), if_pos h]
  · have hl : (putI (xs.length : Int)).length ≤ 10 := putI_len (by omega)
    rw [if_neg (by omega), if_neg h, show (⟨#[]⟩ : ByteArray) = B [] from rfl, ref_PutInt_eq [] _ k (by simp) (by omega) (by omega), Option.bind_some, List.nil_append]
    exact enc_l0 xs hx (by omega) xs.length 0 k _ rfl (by omega) (by omega) (by omega)
end Go.Proofs.Ytcjdnahgffkbdaa.Srx

namespace Go.Proofs.Ytcjdnahgffkbdaa.Grl
open Go Go.RowKit Go.Proofs.YtcjdnahgffkbdaaW.PrintWords Go.Proofs.YtcjdnahgffkbdaaW.PrintLast Go.Proofs.YtcjdnahgffkbdaaW.PrintMore
set_option linter.unusedVariables false
section
variable {α : Type} {d : Kd α}
theorem C_of_lit (d : Kd α) (W : World) (e : Nat) {xs : List α} {inner : List Value} (hrep : Reps (d.K W) d.sz xs inner) (hm : xs.length ≤ 9223372036854775807) :
    d.C (W.alloc (.cells inner.toArray e)) (some ⟨W.heap.size, 0, none⟩) xs.length xs := by
  obtain ⟨A, c, he, hl, hr⟩ := OwnRow.reads (OwnRow.lit (e := e) W W.heap.size hrep (Nat.le_refl _) hm)
  injection he with h1 h2 h3
  subst h1
  exact hr.imp_ (Below.refl _ _) (fun _ _ hp => d.K_below (below_alloc (Below.refl _ _) _) hp)
variable {P : Program} {ops : Array Oper} {rest : List Oper} {o : Oper} {a : Act} {Q : Exit → Act → World → Prop} {Kc : Act → World → Prop}
end
end Go.Proofs.Ytcjdnahgffkbdaa.Grl

namespace Go.Proofs.Ytcjdnahgffkbdaa.Slm
open Go Go.RowKit Go.Proofs Go.Proofs.Ytcjdnahgffkbdaa.Gm Go.Proofs.Ytcjdnahgffkbdaa.Spt Go.Proofs.Ytcjdnahgffkbdaa.Sdc Go.Proofs.Ytcjdnahgffkbdaa.Sen Go.Proofs.Ytcjdnahgffkbdaa.Srt Go.Proofs.Ytcjdnahgffkbdaa.Snx Go.Proofs.Ytcjdnahgffkbdaa.Ssa Go.Proofs.Ytcjdnahgffkbdaa.Son Go.Proofs.Ytcjdnahgffkbdaa.Srx Go.Proofs.Ytcjdnahgffkbdaa.Q Go.Proofs.YtcjdnahgffkbdaaW.PrintWords Go.Proofs.YtcjdnahgffkbdaaW.PrintLast Go.Proofs.YtcjdnahgffkbdaaW.PrintMore
set_option linter.unusedVariables false
/-- A long text, an event with it, one with many statements, and one of zeros. -/
def tz_ (m : Nat) : ByteArray := B (List.replicate m 0)
def long (m : Nat) : S28 := ⟨0, 0, 0, 0, tz_ m, ⟨0, 0, []⟩⟩
def zst : S64 := ⟨0, 0, 0, 0, 0, 0, 0, 0, 0, 0, 0⟩
def many (m : Nat) : S28 := ⟨0, 0, 0, 0, ⟨#[]⟩, ⟨0, 0, List.replicate m zst⟩⟩
def zev : S28 := ⟨0, 0, 0, 0, ⟨#[]⟩, ⟨0, 0, []⟩⟩
theorem zst_ok : W11 zst := W11_mk I64_0 I64_0 I64_0 I64_0 I64_0 I64_0 I64_0 I64_0 I64_0 I64_0 I64_0
theorem we_long (m : Nat) : WE (long m) := ⟨I64_0, I64_0, I64_0, I64_0, I64_0, I64_0, fun s hs => by cases hs⟩
theorem we_many (m : Nat) : WE (many m) := ⟨I64_0, I64_0, I64_0, I64_0, I64_0, I64_0, fun s hs => by rw [List.eq_of_mem_replicate hs]; exact zst_ok⟩
theorem we_zev : WE zev := ⟨I64_0, I64_0, I64_0, I64_0, I64_0, I64_0, fun s hs => by cases hs⟩
theorem tz_size (m : Nat) : (tz_ m).size = m := by unfold tz_; rw [B_size, List.length_replicate]
/-- What the law asks of a script. -/
structure LG (good : Bool) (xs : List S28) : Prop where
  we : ∀ x ∈ xs, WE x
  len : xs.length ≤ 257
  sl : ∀ x ∈ xs, x.f5.f2.length ≤ 257
  ok : good = true → ∃ L, encR xs = (B L, 0) ∧ decR L = (xs, 0) ∧ L.length ≤ 20000000
  no : good = false → encR xs = (⟨#[]⟩, 4)
theorem putEs_len {xs : List S28} (h : ∀ x ∈ xs, okE x) : (putEs xs).length ≤ 60000 * xs.length := by
  induction xs with
  | nil => simp [putEs]
  | cons x xs ih =>
    have h1 := ih (fun y hy => h y (List.mem_cons_of_mem _ hy))
    obtain ⟨a, b, c⟩ := h x List.mem_cons_self
    have h2 := putE_len a b c
    unfold putEs at h1 ⊢
    rw [List.flatMap_cons, List.length_append, List.length_cons]
    omega
theorem ok_of {xs : List S28} (h : ∀ x ∈ xs, okE x) (hl : xs.length ≤ 256) : ∃ L, encR xs = (B L, 0) ∧ decR L = (xs, 0) ∧ L.length ≤ 20000000 := by
  have h1 := putEs_len h
  have h2 : (putI (xs.length : Int)).length ≤ 10 := putI_len (by omega)
  exact ⟨putI xs.length ++ putEs xs, enc_ok hl h, dec_enc hl h, by rw [List.length_append]; omega⟩
theorem bad_first (x : S28) (xs : List S28) (hl : xs.length ≤ 255) (h : x.f4.size > 16384 ∨ x.f5.f2.length > 256) : encR (x :: xs) = (⟨#[]⟩, 4) := by
  unfold encR
  rw [if_neg (by rw [List.length_cons]; omega), encGo]
  have : putR (putI ((x :: xs).length : Int)) x = (⟨#[]⟩, 4) := by unfold putR; rw [if_pos h]
  rw [this, if_pos (by decide)]
theorem lg_long (kk : Nat) (hk : kk ≤ 2) : LG (decide (kk < 2)) [long (16383 + kk)] := by
  refine ⟨?_, by simp, ?_, ?_, ?_⟩
  · intro x hx
    rw [List.mem_singleton.1 hx]
    exact we_long _
  · intro x hx
    rw [List.mem_singleton.1 hx]
    exact Nat.zero_le _
  · intro h
    have h2 : kk < 2 := of_decide_eq_true h
    refine ok_of ?_ (by simp)
    intro x hx
    rw [List.mem_singleton.1 hx]
    exact ⟨we_long _, by show (tz_ _).size ≤ _; rw [tz_size]; omega, Nat.zero_le _⟩
  · intro h
    have h2 : ¬ kk < 2 := of_decide_eq_false h
    exact bad_first _ [] (by simp) (.inl (by show (tz_ _).size > _; rw [tz_size]; omega))
theorem many_len (m : Nat) : (many m).f5.f2.length = m := by unfold many; simp
theorem lg_many (kk : Nat) (hk : kk ≤ 2) : LG (decide (kk < 2)) [many (255 + kk)] := by
  refine ⟨?_, by simp, ?_, ?_, ?_⟩
  · intro x hx
    rw [List.mem_singleton.1 hx]
    exact we_many _
  · intro x hx
    rw [List.mem_singleton.1 hx, many_len]
    omega
  · intro h
    have h2 : kk < 2 := of_decide_eq_true h
    refine ok_of ?_ (by simp)
    intro x hx
    rw [List.mem_singleton.1 hx]
    exact ⟨we_many _, Nat.zero_le _, by rw [many_len]; omega⟩
  · intro h
    have h2 : ¬ kk < 2 := of_decide_eq_false h
    exact bad_first _ [] (by simp) (.inr (by rw [many_len]; omega))
theorem lg_zeros (kk : Nat) (hk : kk ≤ 2) : LG (decide (kk < 2)) (List.replicate (255 + kk) zev) := by
  refine ⟨?_, by simp; omega, ?_, ?_, ?_⟩
  · intro x hx
    rw [List.eq_of_mem_replicate hx]
    exact we_zev
  · intro x hx
    rw [List.eq_of_mem_replicate hx]
    exact Nat.zero_le _
  · intro h
    have h2 : kk < 2 := of_decide_eq_true h
    refine ok_of ?_ (by simp; omega)
    intro x hx
    rw [List.eq_of_mem_replicate hx]
    exact ⟨we_zev, Nat.zero_le _, Nat.zero_le _⟩
  · intro h
    have h2 : ¬ kk < 2 := of_decide_eq_false h
    unfold encR
    rw [if_pos (by rw [List.length_replicate]; omega)]
theorem lg_two (kk : Nat) (hk : kk ≤ 2) : LG (decide (kk < 2)) [long (16383 + kk), many (255 + kk)] := by
  have a := lg_long kk hk
  have b := lg_many kk hk
  refine ⟨?_, by simp, ?_, ?_, ?_⟩
  · intro x hx
    rcases List.mem_cons.1 hx with h | h
    · exact a.we x (by rw [h]; simp)
    · exact b.we x h
  · intro x hx
    rcases List.mem_cons.1 hx with h | h
    · exact a.sl x (by rw [h]; simp)
    · exact b.sl x h
  · intro h
    have h2 : kk < 2 := of_decide_eq_true h
    refine ok_of ?_ (by simp)
    intro x hx
    rcases List.mem_cons.1 hx with h | h
    · rw [h]; exact ⟨we_long _, by show (tz_ _).size ≤ _; rw [tz_size]; omega, Nat.zero_le _⟩
    · rw [List.mem_singleton.1 h]; exact ⟨we_many _, Nat.zero_le _, by rw [many_len]; omega⟩
  · intro h
    have h2 : ¬ kk < 2 := of_decide_eq_false h
    exact bad_first _ _ (by simp) (.inl (by show (tz_ _).size > _; rw [tz_size]; omega))
/-- The four scripts in a world. -/
structure LW (w W : World) (kk : Nat) (ga gb gc gl gd : Nat) : Prop where
  hb : Below w.heap.size w W
  c0 : Kd.C k28 W (some ⟨ga, 0, none⟩) 1 [long (16383 + kk)]
  c1 : Kd.C k28 W (some ⟨gb, 0, none⟩) 1 [many (255 + kk)]
  c2 : Kd.C k28 W (some ⟨gl, 0, none⟩) (255 + kk) (List.replicate (255 + kk) zev)
  c3 : Kd.C k28 W (some ⟨gc, 0, none⟩) 2 [long (16383 + kk), many (255 + kk)]
  bd : W.heap[gd]? = some (.cells #[.slice (some ⟨ga, 0, none⟩) 1 1, .slice (some ⟨gb, 0, none⟩) 1 1, .slice (some ⟨gl, 0, none⟩) (255 + kk) (255 + kk), .slice (some ⟨gc, 0, none⟩) 2 2] 29 (0, 0))
theorem LW.below {w W W' : World} {kk ga gb gc gl gd : Nat} (h : LW w W kk ga gb gc gl gd) (hb : Below W.heap.size W W') : LW w W' kk ga gb gc gl gd :=
  ⟨below_step h.hb hb, Kd.C_below h.c0 hb, Kd.C_below h.c1 hb, Kd.C_below h.c2 hb, Kd.C_below h.c3 hb, blk_below h.bd hb⟩
theorem LW.row {w W : World} {kk ga gb gc gl gd : Nat} (h : LW w W kk ga gb gc gl gd) (hk : kk ≤ 2) (j : Nat) (hj : j < 4) : ∃ (A : Option Addr) (xs : List S28), W.cell? ⟨gd, j, none⟩ = some (.slice A xs.length xs.length) ∧ Kd.C k28 W A xs.length xs ∧ LG (decide (kk < 2)) xs := by
  have q0 : W.cell? ⟨gd, 0, none⟩ = some (.slice (some ⟨ga, 0, none⟩) 1 1) := (blk_cell h.bd 0).trans rfl
  have q1 : W.cell? ⟨gd, 1, none⟩ = some (.slice (some ⟨gb, 0, none⟩) 1 1) := (blk_cell h.bd 1).trans rfl
  have q2 : W.cell? ⟨gd, 2, none⟩ = some (.slice (some ⟨gl, 0, none⟩) (255 + kk) (255 + kk)) := (blk_cell h.bd 2).trans rfl
  have q3 : W.cell? ⟨gd, 3, none⟩ = some (.slice (some ⟨gc, 0, none⟩) 2 2) := (blk_cell h.bd 3).trans rfl
  match j, hj with
  | 0, _ => exact ⟨_, _, q0, h.c0, lg_long kk hk⟩
  | 1, _ => exact ⟨_, _, q1, h.c1, lg_many kk hk⟩
  | 2, _ => exact ⟨some ⟨gl, 0, none⟩, List.replicate (255 + kk) zev, by rw [List.length_replicate]; exact q2, by rw [List.length_replicate]; exact h.c2, lg_zeros kk hk⟩
  | 3, _ => exact ⟨_, _, q3, h.c3, lg_two kk hk⟩
theorem same_true (xs : List S28) (h : ∀ x ∈ xs, x.f5.f2.length ≤ 257) (hl : xs.length ≤ 257) : storagebarterref42_Same.f 800 xs xs = some true := by
  obtain ⟨b, h1, h2⟩ := rsame_eq xs xs 257 800 h (by omega) (by omega) (by omega)
  rw [h1, h2.2 rfl]
theorem mk_u8 (m : Nat) (hm : m ≤ 1000000) : ∀ W : World, (Instr.makeSlice 23 (.int .i64 (m : Int)) (.int .i64 (m : Int))).run Try.prog W = .ok (.slice (some ⟨W.heap.size, 0, none⟩) m m) (W.alloc (.cells (madeCells #[.int .u8 0] m) 5)) :=
  print_make 23 5 .u8 1 Try.underlying23 info5 (by decide) m (by omega)
theorem mk_any {t e : TypeId} (z : Value) (size bytes : Nat) (ht : Try.prog.underlying t = some (.slice e)) (hinfo : (Try.prog.info? e).map (fun i => (i.zero, i.size, i.bytes)) = some (some z, size, bytes)) (hb : bytes ≤ 1000) (m : Nat) (hm : m ≤ 1000000) :
    ∀ W : World, (Instr.makeSlice t (.int .i64 (m : Int)) (.int .i64 (m : Int))).run Try.prog W = .ok (.slice (some ⟨W.heap.size, 0, none⟩) m m) (W.alloc (.cells (madeCells z.cells (m * size)) e)) := by
  intro W
  obtain ⟨i0, hi, hzz⟩ := Option.map_eq_some_iff.1 hinfo
  simp only [Prod.mk.injEq] at hzz
  obtain ⟨hz0, hz1, hz2⟩ := hzz
  have hbm : i0.bytes * m ≤ 1000 * 1000000 := Nat.mul_le_mul (by omega) hm
  have hr := run_make (P := Try.prog) W t e i0 z ht hi hz0 .i64 .i64 (m : Int) (m : Int) (by omega) (by omega)
    (by
      have h3 : ((i0.bytes * m : Nat) : Int) ≤ 281474976710656 := by omega
      rwa [Int.natCast_mul] at h3) (by omega)
  simp only [Int.toNat_natCast] at hr
  rw [hz1] at hr
  exact hr
theorem str_zero (m : Nat) (W : World) : (convert 23 9 (.slice (some ⟨W.heap.size, 0, none⟩) m m)).run Try.prog (W.alloc (.cells (madeCells #[.int .u8 0] m) 5)) = .ok (.string (tz_ m)) (W.alloc (.cells (madeCells #[.int .u8 0] m) 5)) := by
  have h := run_convert_bytes_arg (P := Try.prog) (W.alloc (.cells (madeCells #[.int .u8 0] m) 5)) 23 5 Try.underlying23 Try.underlying5 W.heap.size 0 m m (List.replicate m 0) (by simp) (fun i hi => by
    have hb := blk_cell (heap_alloc_new W (.cells (madeCells #[.int .u8 0] m) 5)) (0 + i)
    refine hb.trans ?_
    have hs : i < (madeCells #[Value.int .u8 0] m).size := by rw [size_madeCells]; exact hi
    rw [Nat.zero_add, Array.getElem?_eq_getElem hs]
    simp [madeCells, hi, Nat.mod_one]) 9 Try.underlying9
  rw [h]
  unfold tz_ strOfNums
  simp only [List.map_replicate]
  rfl
theorem C_made {α : Type} (d : Kd α) (W : World) (e : Nat) (z : Value) (z0 : α) (hz : z.cells.size = d.sz) (hs : 0 < d.sz) (h0 : d.K W z0 z.cells.toList) (m : Nat) (hm : m ≤ 1000000) : d.C (W.alloc (.cells (madeCells z.cells (m * d.sz)) e)) (some ⟨W.heap.size, 0, none⟩) m (List.replicate m z0) := by
  have h := Grl.C_of_lit d W e (xs := List.replicate m z0) (inner := (madeCells z.cells (m * d.sz)).toList) (Kd.reps_made hz hs h0 m) (by simp; omega)
  rw [List.length_replicate] at h
  exact h
theorem infoST' : (Try.prog.info? 64).map (fun i => (i.zero, i.size, i.bytes)) = some (some (.agg #[.int .i64 0, .int .i64 0, .int .i64 0, .int .i64 0, .int .i64 0, .int .i64 0, .int .i64 0, .int .i64 0, .int .i64 0, .int .i64 0, .int .i64 0]), 11, 88) := by kernel_rfl
def cU (m : Nat) : Array Value := madeCells #[.int .u8 0] m
def cS (m : Nat) : Array Value := madeCells (Value.agg #[.int .i64 0, .int .i64 0, .int .i64 0, .int .i64 0, .int .i64 0, .int .i64 0, .int .i64 0, .int .i64 0, .int .i64 0, .int .i64 0, .int .i64 0]).cells (m * 11)
def cE (m : Nat) : Array Value := madeCells (Value.agg #[.int .i64 0, .int .i64 0, .int .i64 0, .int .i64 0, .string ⟨#[]⟩, .int .i64 0, .int .i64 0, .slice none 0 0]).cells (m * 8)
theorem mkU (m : Nat) (hm : m ≤ 1000000) : ∀ W : World, (Instr.makeSlice 23 (.int .i64 (m : Int)) (.int .i64 (m : Int))).run Try.prog W = .ok (.slice (some ⟨W.heap.size, 0, none⟩) m m) (W.alloc (.cells (cU m) 5)) := mk_u8 m hm
theorem mkS (m : Nat) (hm : m ≤ 1000000) : ∀ W : World, (Instr.makeSlice 24 (.int .i64 (m : Int)) (.int .i64 (m : Int))).run Try.prog W = .ok (.slice (some ⟨W.heap.size, 0, none⟩) m m) (W.alloc (.cells (cS m) 64)) := mk_any (.agg #[.int .i64 0, .int .i64 0, .int .i64 0, .int .i64 0, .int .i64 0, .int .i64 0, .int .i64 0, .int .i64 0, .int .i64 0, .int .i64 0, .int .i64 0]) 11 88 Try.underlying24 infoST' (by decide) m hm
theorem mkE (m : Nat) (hm : m ≤ 1000000) : ∀ W : World, (Instr.makeSlice 29 (.int .i64 (m : Int)) (.int .i64 (m : Int))).run Try.prog W = .ok (.slice (some ⟨W.heap.size, 0, none⟩) m m) (W.alloc (.cells (cE m) 28)) := mk_any (.agg #[.int .i64 0, .int .i64 0, .int .i64 0, .int .i64 0, .string ⟨#[]⟩, .int .i64 0, .int .i64 0, .slice none 0 0]) 8 88 Try.underlying29 Sdc.info28 (by decide) m hm
theorem stU (m : Nat) (W : World) : (convert 23 9 (.slice (some ⟨W.heap.size, 0, none⟩) m m)).run Try.prog (W.alloc (.cells (cU m) 5)) = .ok (.string (tz_ m)) (W.alloc (.cells (cU m) 5)) := str_zero m W
theorem sz1 (W : World) (o : Obj) : (W.alloc o).heap.size = W.heap.size + 1 := by simp
theorem k_long (W : World) (kk : Nat) : k28.K W (long kk) [.int .i64 0, .int .i64 0, .int .i64 0, .int .i64 0, .string (tz_ kk), .int .i64 0, .int .i64 0, .slice none 0 0] := k28_mk W (long kk) (A7 := none) (c7 := 0) (Nat.le_refl _) (Kd.C_nil _ _)
theorem k_many (W : World) (m g : Nat) (h : Kd.C k64 W (some ⟨g, 0, none⟩) m (List.replicate m zst)) : k28.K W (many m) [.int .i64 0, .int .i64 0, .int .i64 0, .int .i64 0, .string ⟨#[]⟩, .int .i64 0, .int .i64 0, .slice (some ⟨g, 0, none⟩) m m] := by
  have hl := many_len m
  have h2 : Kd.C k64 W (some ⟨g, 0, none⟩) (many m).f5.f2.length (many m).f5.f2 := by rw [hl]; exact h
  have := k28_mk W (many m) (A7 := some ⟨g, 0, none⟩) (c7 := m) (by rw [hl]; exact Nat.le_refl _) h2
  rw [hl] at this
  exact this
theorem lw_mk {w w1 : World} (hb : Below w.heap.size w w1) (kk m1 m2 : Nat) (hm1 : 16383 + kk = m1) (hm2 : 255 + kk = m2) (hk : kk ≤ 2) (tz : ByteArray) (htz : tz_ m1 = tz) (n : Nat) (hn : w1.heap.size = n) :
    LW w (((((((((w1.alloc (.cells (cU m1) 5)).alloc (.cells #[.int .i64 0, .int .i64 0, .int .i64 0, .int .i64 0, .string tz, .int .i64 0, .int .i64 0, .slice none 0 0] 28)).alloc (.cells (cS m2) 64)).alloc (.cells #[.int .i64 0, .int .i64 0, .int .i64 0, .int .i64 0, .string ⟨#[]⟩, .int .i64 0, .int .i64 0, .slice (some ⟨n + 1 + 1, 0, none⟩) m2 m2] 28)).alloc (.cells (cE m2) 28)).alloc (.cells #[.int .i64 0, .int .i64 0, .int .i64 0, .int .i64 0, .string tz, .int .i64 0, .int .i64 0, .slice none 0 0] 28)).alloc (.cells #[.int .i64 0, .int .i64 0, .int .i64 0, .int .i64 0, .string ⟨#[]⟩, .int .i64 0, .int .i64 0, .slice (some ⟨n + 1 + 1, 0, none⟩) m2 m2] 28)).alloc (.cells #[.int .i64 0, .int .i64 0, .int .i64 0, .int .i64 0, .string tz, .int .i64 0, .int .i64 0, .slice none 0 0, .int .i64 0, .int .i64 0, .int .i64 0, .int .i64 0, .string ⟨#[]⟩, .int .i64 0, .int .i64 0, .slice (some ⟨n + 1 + 1, 0, none⟩) m2 m2] 28)).alloc (.cells #[.slice (some ⟨n + 1 + 1 + 1 + 1 + 1, 0, none⟩) 1 1, .slice (some ⟨n + 1 + 1 + 1 + 1 + 1 + 1, 0, none⟩) 1 1, .slice (some ⟨n + 1 + 1 + 1 + 1, 0, none⟩) m2 m2, .slice (some ⟨n + 1 + 1 + 1 + 1 + 1 + 1 + 1, 0, none⟩) 2 2] 29)) kk (n + 1 + 1 + 1 + 1 + 1) (n + 1 + 1 + 1 + 1 + 1 + 1) (n + 1 + 1 + 1 + 1 + 1 + 1 + 1) (n + 1 + 1 + 1 + 1) (n + 1 + 1 + 1 + 1 + 1 + 1 + 1 + 1) := by
  subst hm1
  subst hm2
  subst htz
  subst hn
  have b0 := below_alloc (below_alloc hb (.cells (cU (16383 + kk)) 5)) (.cells #[.int .i64 0, .int .i64 0, .int .i64 0, .int .i64 0, .string (tz_ (16383 + kk)), .int .i64 0, .int .i64 0, .slice none 0 0] 28)
  have z0 : ((w1.alloc (.cells (cU (16383 + kk)) 5)).alloc (.cells #[.int .i64 0, .int .i64 0, .int .i64 0, .int .i64 0, .string (tz_ (16383 + kk)), .int .i64 0, .int .i64 0, .slice none 0 0] 28)).heap.size = w1.heap.size + 1 + 1 := by rw [sz1, sz1]
  generalize (w1.alloc (.cells (cU (16383 + kk)) 5)).alloc (.cells #[.int .i64 0, .int .i64 0, .int .i64 0, .int .i64 0, .string (tz_ (16383 + kk)), .int .i64 0, .int .i64 0, .slice none 0 0] 28) = W2 at b0 z0 ⊢
  generalize w1.heap.size + 1 + 1 = n at z0 ⊢
  subst z0
  have cs : Kd.C k64 (W2.alloc (.cells (cS (255 + kk)) 64)) (some ⟨W2.heap.size, 0, none⟩) (255 + kk) (List.replicate (255 + kk) zst) := C_made k64 W2 64 (.agg #[.int .i64 0, .int .i64 0, .int .i64 0, .int .i64 0, .int .i64 0, .int .i64 0, .int .i64 0, .int .i64 0, .int .i64 0, .int .i64 0, .int .i64 0]) zst rfl (by decide) (k64_mk W2 zst) (255 + kk) (by omega)
  have b1 := below_alloc b0 (.cells (cS (255 + kk)) 64)
  have z1 := sz1 W2 (.cells (cS (255 + kk)) 64)
  generalize W2.alloc (.cells (cS (255 + kk)) 64) = W3 at cs b1 z1 ⊢
  generalize W2.heap.size = gs at cs z1 ⊢
  have b2 := below_alloc b1 (.cells #[.int .i64 0, .int .i64 0, .int .i64 0, .int .i64 0, .string ⟨#[]⟩, .int .i64 0, .int .i64 0, .slice (some ⟨gs, 0, none⟩) (255 + kk) (255 + kk)] 28)
  have cs2 := Kd.C_below cs (below_alloc (Below.refl W3.heap.size W3) (.cells #[.int .i64 0, .int .i64 0, .int .i64 0, .int .i64 0, .string ⟨#[]⟩, .int .i64 0, .int .i64 0, .slice (some ⟨gs, 0, none⟩) (255 + kk) (255 + kk)] 28))
  have z2 := sz1 W3 (.cells #[.int .i64 0, .int .i64 0, .int .i64 0, .int .i64 0, .string ⟨#[]⟩, .int .i64 0, .int .i64 0, .slice (some ⟨gs, 0, none⟩) (255 + kk) (255 + kk)] 28)
  generalize W3.alloc (.cells #[.int .i64 0, .int .i64 0, .int .i64 0, .int .i64 0, .string ⟨#[]⟩, .int .i64 0, .int .i64 0, .slice (some ⟨gs, 0, none⟩) (255 + kk) (255 + kk)] 28) = W4 at cs2 b2 z2 ⊢
  rw [z1] at z2
  clear cs b1 b0
  rw [← z2]
  have ce : Kd.C k28 (W4.alloc (.cells (cE (255 + kk)) 28)) (some ⟨W4.heap.size, 0, none⟩) (255 + kk) (List.replicate (255 + kk) zev) := C_made k28 W4 28 (.agg #[.int .i64 0, .int .i64 0, .int .i64 0, .int .i64 0, .string ⟨#[]⟩, .int .i64 0, .int .i64 0, .slice none 0 0]) zev rfl (by decide) (k28_mk W4 zev (A7 := none) (c7 := 0) (Nat.le_refl _) (Kd.C_nil _ _)) (255 + kk) (by omega)
  have b3 := below_alloc b2 (.cells (cE (255 + kk)) 28)
  have cs3 := Kd.C_below cs2 (below_alloc (Below.refl W4.heap.size W4) (.cells (cE (255 + kk)) 28))
  have z3 := sz1 W4 (.cells (cE (255 + kk)) 28)
  generalize W4.alloc (.cells (cE (255 + kk)) 28) = W5 at ce b3 cs3 z3 ⊢
  clear cs2 b2
  generalize W4.heap.size = gl at ce z3 ⊢
  rw [← z3]
  have ca : Kd.C k28 (W5.alloc (.cells #[.int .i64 0, .int .i64 0, .int .i64 0, .int .i64 0, .string (tz_ (16383 + kk)), .int .i64 0, .int .i64 0, .slice none 0 0] 28)) (some ⟨W5.heap.size, 0, none⟩) 1 [long (16383 + kk)] := Grl.C_of_lit k28 W5 28 (xs := [long (16383 + kk)]) (inner := [.int .i64 0, .int .i64 0, .int .i64 0, .int .i64 0, .string (tz_ (16383 + kk)), .int .i64 0, .int .i64 0, .slice none 0 0]) (Reps.snoc (Reps.none _ _) (k_long W5 (16383 + kk)) rfl) (by simp)
  have st1 := below_alloc (Below.refl W5.heap.size W5) (.cells #[.int .i64 0, .int .i64 0, .int .i64 0, .int .i64 0, .string (tz_ (16383 + kk)), .int .i64 0, .int .i64 0, .slice none 0 0] 28)
  have b4 := below_alloc b3 (.cells #[.int .i64 0, .int .i64 0, .int .i64 0, .int .i64 0, .string (tz_ (16383 + kk)), .int .i64 0, .int .i64 0, .slice none 0 0] 28)
  have cs4 := Kd.C_below cs3 st1
  have ce4 := Kd.C_below ce st1
  have z4 := sz1 W5 (.cells #[.int .i64 0, .int .i64 0, .int .i64 0, .int .i64 0, .string (tz_ (16383 + kk)), .int .i64 0, .int .i64 0, .slice none 0 0] 28)
  generalize W5.alloc (.cells #[.int .i64 0, .int .i64 0, .int .i64 0, .int .i64 0, .string (tz_ (16383 + kk)), .int .i64 0, .int .i64 0, .slice none 0 0] 28) = W6 at ca b4 cs4 ce4 z4 ⊢
  clear b3 cs3 ce st1
  generalize W5.heap.size = ga at ca z4 ⊢
  rw [← z4]
  have cb : Kd.C k28 (W6.alloc (.cells #[.int .i64 0, .int .i64 0, .int .i64 0, .int .i64 0, .string ⟨#[]⟩, .int .i64 0, .int .i64 0, .slice (some ⟨gs, 0, none⟩) (255 + kk) (255 + kk)] 28)) (some ⟨W6.heap.size, 0, none⟩) 1 [many (255 + kk)] := Grl.C_of_lit k28 W6 28 (xs := [many (255 + kk)]) (inner := [.int .i64 0, .int .i64 0, .int .i64 0, .int .i64 0, .string ⟨#[]⟩, .int .i64 0, .int .i64 0, .slice (some ⟨gs, 0, none⟩) (255 + kk) (255 + kk)]) (Reps.snoc (Reps.none _ _) (k_many W6 (255 + kk) gs cs4) rfl) (by simp)
  have st1 := below_alloc (Below.refl W6.heap.size W6) (.cells #[.int .i64 0, .int .i64 0, .int .i64 0, .int .i64 0, .string ⟨#[]⟩, .int .i64 0, .int .i64 0, .slice (some ⟨gs, 0, none⟩) (255 + kk) (255 + kk)] 28)
  have b5 := below_alloc b4 (.cells #[.int .i64 0, .int .i64 0, .int .i64 0, .int .i64 0, .string ⟨#[]⟩, .int .i64 0, .int .i64 0, .slice (some ⟨gs, 0, none⟩) (255 + kk) (255 + kk)] 28)
  have cs5 := Kd.C_below cs4 st1
  have ce5 := Kd.C_below ce4 st1
  have ca5 := Kd.C_below ca st1
  have z5 := sz1 W6 (.cells #[.int .i64 0, .int .i64 0, .int .i64 0, .int .i64 0, .string ⟨#[]⟩, .int .i64 0, .int .i64 0, .slice (some ⟨gs, 0, none⟩) (255 + kk) (255 + kk)] 28)
  generalize W6.alloc (.cells #[.int .i64 0, .int .i64 0, .int .i64 0, .int .i64 0, .string ⟨#[]⟩, .int .i64 0, .int .i64 0, .slice (some ⟨gs, 0, none⟩) (255 + kk) (255 + kk)] 28) = W7 at cb b5 cs5 ce5 ca5 z5 ⊢
  clear b4 cs4 ce4 ca st1
  generalize W6.heap.size = gb at cb z5 ⊢
  rw [← z5]
  have cc : Kd.C k28 (W7.alloc (.cells #[.int .i64 0, .int .i64 0, .int .i64 0, .int .i64 0, .string (tz_ (16383 + kk)), .int .i64 0, .int .i64 0, .slice none 0 0, .int .i64 0, .int .i64 0, .int .i64 0, .int .i64 0, .string ⟨#[]⟩, .int .i64 0, .int .i64 0, .slice (some ⟨gs, 0, none⟩) (255 + kk) (255 + kk)] 28)) (some ⟨W7.heap.size, 0, none⟩) 2 [long (16383 + kk), many (255 + kk)] := Grl.C_of_lit k28 W7 28 (xs := [long (16383 + kk), many (255 + kk)]) (inner := [.int .i64 0, .int .i64 0, .int .i64 0, .int .i64 0, .string (tz_ (16383 + kk)), .int .i64 0, .int .i64 0, .slice none 0 0, .int .i64 0, .int .i64 0, .int .i64 0, .int .i64 0, .string ⟨#[]⟩, .int .i64 0, .int .i64 0, .slice (some ⟨gs, 0, none⟩) (255 + kk) (255 + kk)]) (Reps.snoc (Reps.snoc (Reps.none _ _) (k_long W7 (16383 + kk)) rfl) (k_many W7 (255 + kk) gs cs5) rfl) (by simp)
  have st1 := below_alloc (Below.refl W7.heap.size W7) (.cells #[.int .i64 0, .int .i64 0, .int .i64 0, .int .i64 0, .string (tz_ (16383 + kk)), .int .i64 0, .int .i64 0, .slice none 0 0, .int .i64 0, .int .i64 0, .int .i64 0, .int .i64 0, .string ⟨#[]⟩, .int .i64 0, .int .i64 0, .slice (some ⟨gs, 0, none⟩) (255 + kk) (255 + kk)] 28)
  have b6 := below_alloc b5 (.cells #[.int .i64 0, .int .i64 0, .int .i64 0, .int .i64 0, .string (tz_ (16383 + kk)), .int .i64 0, .int .i64 0, .slice none 0 0, .int .i64 0, .int .i64 0, .int .i64 0, .int .i64 0, .string ⟨#[]⟩, .int .i64 0, .int .i64 0, .slice (some ⟨gs, 0, none⟩) (255 + kk) (255 + kk)] 28)
  have ce6 := Kd.C_below ce5 st1
  have ca6 := Kd.C_below ca5 st1
  have cb6 := Kd.C_below cb st1
  have z6 := sz1 W7 (.cells #[.int .i64 0, .int .i64 0, .int .i64 0, .int .i64 0, .string (tz_ (16383 + kk)), .int .i64 0, .int .i64 0, .slice none 0 0, .int .i64 0, .int .i64 0, .int .i64 0, .int .i64 0, .string ⟨#[]⟩, .int .i64 0, .int .i64 0, .slice (some ⟨gs, 0, none⟩) (255 + kk) (255 + kk)] 28)
  generalize W7.alloc (.cells #[.int .i64 0, .int .i64 0, .int .i64 0, .int .i64 0, .string (tz_ (16383 + kk)), .int .i64 0, .int .i64 0, .slice none 0 0, .int .i64 0, .int .i64 0, .int .i64 0, .int .i64 0, .string ⟨#[]⟩, .int .i64 0, .int .i64 0, .slice (some ⟨gs, 0, none⟩) (255 + kk) (255 + kk)] 28) = W8 at cc b6 ce6 ca6 cb6 z6 ⊢
  clear b5 cs5 ce5 ca5 cb st1
  generalize W7.heap.size = gc at cc z6 ⊢
  rw [← z6]
  have st1 := below_alloc (Below.refl W8.heap.size W8) (.cells #[.slice (some ⟨ga, 0, none⟩) 1 1, .slice (some ⟨gb, 0, none⟩) 1 1, .slice (some ⟨gl, 0, none⟩) (255 + kk) (255 + kk), .slice (some ⟨gc, 0, none⟩) 2 2] 29)
  exact ⟨below_alloc b6 _, Kd.C_below ca6 st1, Kd.C_below cb6 st1, Kd.C_below ce6 st1, Kd.C_below cc st1, heap_alloc_new W8 _⟩
set_option maxRecDepth 100000 in
set_option maxHeartbeats 8000000 in
theorem limits_x (a0 : Int) (ha : 0 ≤ a0 ∧ a0 ≤ 255) (w : World) : Calls Try.prog 3 #[.int .u8 a0] w fun e w' => e = .returned (.bool true) ∧ Below w.heap.size w w' := by
  have mixed : (Try.prog).follows .mixedOrders = true := by kernel_rfl
  have hu28 := Try.underlying28
  have hu26 := Try.underlying26
  have hwa : IntKind.i64.wrap a0 = a0 := IntWalk.i64_in _ (by omega)
  obtain ⟨kk, hkk, hk2⟩ : ∃ kk : Nat, Int.tmod a0 3 = (kk : Int) ∧ kk ≤ 2 := ⟨(Int.tmod a0 3).toNat, by have := Int.tmod_nonneg 3 ha.1; omega, by have := Int.tmod_lt_of_pos a0 (show (0:Int) < 3 by omega); have := Int.tmod_nonneg 3 ha.1; omega⟩
  go_enter Try.func3, Try.ntmps3
  go_upto_region 4 with (go_at_call 7; go_loud (with_reducible refine (sane_x _).mono ?_); go_loud (rintro e w1 ⟨rfl, hb⟩; have HB := Aside0.mk hb; clear hb))
  obtain ⟨m1, hm1⟩ : ∃ m, 16383 + kk = m := ⟨_, rfl⟩
  obtain ⟨m2, hm2⟩ : ∃ m, 255 + kk = m := ⟨_, rfl⟩
  have ew1 : IntKind.i64.wrap (16383 + (kk : Int)) = (m1 : Int) := by rw [IntWalk.i64_in _ (by omega)]; omega
  have ew2 : IntKind.i64.wrap (255 + (kk : Int)) = (m2 : Int) := by rw [IntWalk.i64_in _ (by omega)]; omega
  have k1 := mkU m1 (by omega)
  have k2 := mkS m2 (by omega)
  have k3 := mkE m2 (by omega)
  have s1 := stU m1 w1
  obtain ⟨tz, htz⟩ : ∃ t, tz_ m1 = t := ⟨_, rfl⟩
  rw [htz] at s1
  have HLW := Aside0.mk (lw_mk HB.out kk m1 m2 hm1 hm2 hk2 tz htz w1.heap.size rfl)
  go_wp2
  go_loopw [43] (fun s43 wr => ∃ j : Nat, j ≤ 4 ∧ s43 = .int .i64 j ∧ Aside0 (LW w wr kk (w1.heap.size + 1 + 1 + 1 + 1 + 1) (w1.heap.size + 1 + 1 + 1 + 1 + 1 + 1) (w1.heap.size + 1 + 1 + 1 + 1 + 1 + 1 + 1) (w1.heap.size + 1 + 1 + 1 + 1) (w1.heap.size + 1 + 1 + 1 + 1 + 1 + 1 + 1 + 1))) (fun s43 _ => 4 - (intOf s43).toNat)
  case atStart => exact ⟨0, by omega, rfl, HLW⟩
  case round =>
    clear HLW k1 k2 k3 s1 htz HB
    obtain ⟨j, hj, rfl, HX⟩ := hrel
    by_cases hj4 : j = 4
    case pos =>
      subst hj4
      go_wp2
      go_ret
      exact ⟨rfl, HX.out.hb⟩
    case neg =>
    have hji : (j : Int) < 4 := by omega
    obtain ⟨A, xs, hcell, hC, hG⟩ := HX.out.row hk2 j (by omega)
    have HC := Aside0.mk hC
    have HG := Aside0.mk hG
    clear hC hG
    have hj3 : j + 1 ≤ 4 := by omega
    by_cases hgood : kk < 2
    case pos =>
      have dg : decide (kk < 2) = true := decide_eq_true hgood
      have dgi : decide ((kk : Int) < 2) = true := decide_eq_true (by omega)
      have hgi : (kk : Int) < 2 := by omega
      obtain ⟨L, e1, e2, e3⟩ := HG.out.ok dg
      have HE1 := Aside0.mk e1
      have HE2 := Aside0.mk e2
      clear e1 e2
      go_wp2_with (first | (go_at_call 8; go_loud (with_reducible refine (enc_x A xs.length xs _ HC.out (Nat.le_refl _) HG.out.we _ _ HE1.out).mono ?_); go_loud (rintro e w4 ⟨rfl, hb⟩; have n1_ := Aside0.mk (HX.out.below hb); have n2_ := Aside0.mk (Kd.C_below HC.out hb); clear HX HC hb; have HX := n1_; have HC := n2_; clear n1_ n2_)) | (go_at_call 9; go_loud (with_reducible refine (storagebarterref42_Encode.calls 700 A xs.length xs _ _ _ HC.out (Nat.le_refl _) ((renc_eq xs HG.out.we 700 (by decide)).trans (congrArg some HE1.out))).mono ?_); go_loud (rintro e w5 ⟨rfl, hb⟩; have n1_ := Aside0.mk (HX.out.below hb); have n2_ := Aside0.mk (Kd.C_below HC.out hb); clear HX HC hb; have HX := n1_; have HC := n2_; clear n1_ n2_)) | (go_at_call 10; go_loud (with_reducible refine (dec_x L (by omega) _ xs 0 HE2.out).mono ?_); go_loud (rintro e w6 ⟨v, rfl, hR, hb⟩; obtain ⟨A5, c5, ev⟩ := Kd.R_slice hR; subst ev; have n1_ := Aside0.mk (HX.out.below hb); have n2_ := Aside0.mk (Kd.C_below HC.out hb); have HF := Aside0.mk (Kd.R_reads' hR); clear HX HC hb hR; have HX := n1_; have HC := n2_; clear n1_ n2_)) | (go_at_call 11; go_loud (with_reducible refine (storagebarterref42_Same.calls 800 A5 c5 xs A xs.length xs true _ HF.out.2.2 HF.out.2.1 HC.out (Nat.le_refl _) (same_true xs HG.out.sl HG.out.len)).mono ?_); go_loud (rintro e w7 ⟨rfl, hb⟩; have n1_ := Aside0.mk (HX.out.below hb); clear HX HC HF hb; have HX := n1_; clear n1_)))
      go_roundw
      case rel => first | exact ⟨j + 1, by omega, by go_num, HX⟩ | ((repeat apply Exists.intro); exact ⟨⟨j + 1, by omega, by go_num, HX⟩, rfl⟩)
      case measure => simp only [intOf]; omega
    case neg =>
      have dg : decide (kk < 2) = false := decide_eq_false hgood
      have dgi : decide ((kk : Int) < 2) = false := decide_eq_false (by omega)
      have hgi : ¬ (kk : Int) < 2 := by omega
      have HE1 := Aside0.mk (HG.out.no dg)
      go_wp2_with (first | (go_at_call 8; go_loud (with_reducible refine (enc_x A xs.length xs _ HC.out (Nat.le_refl _) HG.out.we _ _ HE1.out).mono ?_); go_loud (rintro e w4 ⟨rfl, hb⟩; have n1_ := Aside0.mk (HX.out.below hb); have n2_ := Aside0.mk (Kd.C_below HC.out hb); clear HX HC hb; have HX := n1_; have HC := n2_; clear n1_ n2_)) | (go_at_call 9; go_loud (with_reducible refine (storagebarterref42_Encode.calls 700 A xs.length xs _ _ _ HC.out (Nat.le_refl _) ((renc_eq xs HG.out.we 700 (by decide)).trans (congrArg some HE1.out))).mono ?_); go_loud (rintro e w5 ⟨rfl, hb⟩; have n1_ := Aside0.mk (HX.out.below hb); have n2_ := Aside0.mk (Kd.C_below HC.out hb); clear HX HC hb; have HX := n1_; have HC := n2_; clear n1_ n2_)))
      go_roundw
      case rel => first | exact ⟨j + 1, by omega, by go_num, HX⟩ | ((repeat apply Exists.intro); exact ⟨⟨j + 1, by omega, by go_num, HX⟩, rfl⟩)
      case measure => simp only [intOf]; omega
end Go.Proofs.Ytcjdnahgffkbdaa.Slm

namespace Go.Proofs.Ytcjdnahgffkbdaa.scriptLimits
open Go.ChangeShapes Go.WideShapes Go.ChangeAt Go.RowKit
open Go.ChangeMaps (open_string shut_string)
set_option linter.unusedVariables false
theorem own : ownKnob Try.prog.godebug = none := by kernel_rfl
set_option maxRecDepth 100000 in
theorem lifted (os : Os) (started : os.Started) (H : Type) (enc : TypeId × Value → H) :
    ReturnsInHanded {} Try.checked os 3 .any (Rows.scriptLimitsSpec.pre6 enc Try.prog Try.f3 Rows.scriptLimitsRow.domain false) (Rows.scriptLimitsSpec.post enc Try.prog Try.f3 false true false false) := by
  refine returnsInHanded_of_change_sized (C := Try.checked) own started (by kernel_rfl) Try.func3
    (ChangeSpec.witness6 (enc := enc) (C := Try.checked) false ⟨#[], #[.int .u8 0], []⟩ 8 (by kernel_rfl) (by kernel_rfl) (by kernel_rfl) (by kernel_rfl)) ?_
  intro W base args ds gs before hval0 hW hcnd hsz0 _
  have hsz : (DataW.weightsEach Try.prog (Try.f3.params.toList ++ Rows.scriptLimitsSpec.plain.varTypes Try.prog) (ds ++ gs)).all (· ≤ reachBytes) = true := hsz0
  have hval : ∀ (j : Nat) t v, Try.f3.params[j]? = some t → args[j]? = some v → Value.okWide Try.prog W .any base t v := hval0
  have hW' := hW
  obtain ⟨p, q, hA0, hV, rfl, hfz, hnd⟩ := hW
  have hA : DataW.TrodAll enc Try.prog W 0 (fun _ => true) true Try.f3.params.toList args.toList ds p := hA0
  rw [Try.params3] at hA hval hsz
  obtain ⟨v0, vs0, d0, ds0, p0, q0, hargs, rfl, rfl, h0, r0⟩ := trodAll_cons hA
  obtain ⟨rfl, rfl, rfl⟩ := trodAll_nil r0
  obtain rfl : args = #[v0] := by cases args; simp_all
  obtain ⟨rfl, rfl⟩ := trodVars_none hV
  obtain ⟨a0, rfl, rfl, rfl, w0⟩ := open_int Try.underlying5 (hval 0 5 v0 rfl rfl) h0
  clear hA0 hval0 hsz0 hsz
  have i0 : 0 ≤ a0 ∧ a0 ≤ 255 := by simpa [Lit.wf, IntKind.min, IntKind.max, IntKind.signed, IntKind.bits] using w0
  refine (Slm.limits_x a0 i0 W).mono fun e W' ⟨he, bel⟩ => ?_
  subst he
  exact ⟨_, rfl, _, _, _, [], _, [], hW', trodAll_mk1 (shut_bool Try.underlying4 _), (trodAll_cons_mk (shut_int Try.underlying5 w0) trodAll_mk0), rfl, bel.frame _, fun h => by cases h⟩
theorem over : Rows.scriptLimitsRow.holds Try.pinned (OpenSpec.ofChange Rows.scriptLimitsSpec) :=
  OpenClaim.holds_of_wide 3 Try.f3 rfl rfl rfl rfl rfl rfl rfl ⟨rfl, rfl, rfl, rfl, rfl⟩ rfl rfl rfl rfl rfl (by kernel_rfl) Try.func3 (by kernel_rfl)
    (of_decide_eq_true (by kernel_rfl)) (by unfold Func.isWrapper; first | (rw [if_pos (by decide +kernel)]; kernel_rfl) | (rw [if_neg (by decide +kernel)]; exact ⟨rfl, rfl⟩))
    (fun os started H enc _ => lifted os started H enc)
theorem proved : Rows.ScriptLimitsSaid := over
#print axioms proved
end Go.Proofs.Ytcjdnahgffkbdaa.scriptLimits
namespace Go.Proofs.Ytcjdnahgffkbdaa
/-- The row, under a short name, for the claim. -/
theorem scriptLimits_holds : Rows.ScriptLimitsSaid := scriptLimits.proved
end Go.Proofs.Ytcjdnahgffkbdaa
